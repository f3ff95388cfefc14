import Derived.Test.YtfnagaidikejjaaCore
import Derived.Test.YtfnagaidikejjaaProg
import Derived.Test.YtfnagaidikejjaaHeld
import Derived.Test.YtfnagaidikejjaaFun
import Derived.Test.YtfnagaidikejjaaFunZ
import Derived.Test.YtfnagaidikejjaaSqz
import Derived.Test.YtfnagaidikejjaaHash
import Derived.Test.YtfnagaidikejjaaCur
import Derived.Test.YtfnagaidikejjaaDrawW
import Derived.Test.YtfnagaidikejjaaAead
namespace Go.Proofs.Ytfnagaidikejjaa.K
open Go.RowKit
set_option linter.unusedVariables false
set_option linter.unusedSimpArgs false
set_option maxRecDepth 100000
set_option maxHeartbeats 4000000
def LT_31 : LTy (PNote) := { E := 31, Eb := 5, sz := 12, enc := fun e => [vi e.1.Kind, vi e.1.Id, vi e.1.Role, vs (adr2 e.2 0).1 e.1.Cn.length (adr2 e.2 0).2, vs (adr2 e.2 1).1 e.1.Sn.length (adr2 e.2 1).2, vi e.1.Epoch, vi e.1.Seq, vs (adr2 e.2 2).1 e.1.Body.length (adr2 e.2 2).2, vs (adr2 e.2 3).1 e.1.Key.length (adr2 e.2 3).2, vi e.1.A.Host, vi e.1.A.Port, vi e.1.Now], bs := fun x => [x.Cn, x.Sn, x.Body, x.Key], len := fun _ => rfl, one := fun _ => one_all rfl, pos := by decide, ne := by decide }
def z_PNote : PNote := { Kind := 0, Id := 0, Role := 0, Cn := [], Sn := [], Epoch := 0, Seq := 0, Body := [], Key := [], A := { Host := 0, Port := 0 : PAddr }, Now := 0 : PNote }
theorem slTy_22 : SlTy Try.prog 22 5 1 1 (v8 0) := slTy Try.underlying22 (by kernel_rfl) rfl rfl
def Q_22 (w : World) (v : Value) (x : (List UInt8)) : Prop := ∃ (a : Option Addr) (b : Nat), v = .slice a x.length b ∧ Rd w 1 (.slice a x.length b) x.length (x.map bV) ∧ x.length ≤ 9223372036854775807
def O_4 (w : World) (lo : Nat) (v : Value) (x : (Bool)) : Prop := v = .bool x
def l_big (a : List UInt8) : (Bool) := decide (1048576 < (a.length : Int))
theorem clbig (b : World) (d : Value) (a : List UInt8) (h : Q_22 b d a)  : Fn Try.prog 5 #[d] b (fun v e => Keep b e ∧ O_4 e b.heap.size v (l_big a)) := by
 obtain ⟨f, g, rfl, i, k⟩ := h
 refine fn_ofS (n := 6) [(vs f a.length g)] Try.func5 rfl rfl ?_
 refine sr ?_
 refine aw (vb false) ?_
 refine nx ?_
 refine mw (vs f a.length g) ?_
 refine ln wN slTy_22 i ?_
 refine pu (vb (decide (1048576 < (a.length : Int)))) wN ?_
 refine aw (vb (decide (1048576 < (a.length : Int)))) ?_
 refine n3 ?_
 refine rt (vb (decide (1048576 < (a.length : Int)))) ?_
 refine ⟨Ch.refl _ _, ?_⟩
 have j : l_big a = decide (1048576 < (a.length : Int)) := by rfl
 rw [j]
 exact rfl
theorem big_f {x : List UInt8} (h : l_big x = false) : x.length ≤ 1048576 := by
  have := dF h
  omega

theorem isAgg_5 : ∀ w, (isAgg 5).run Try.prog w = .ok false w := fun w => by kernel_rfl
def R_22 (w : World) (v : Value) (x : (List UInt8)) : Prop := ∃ (a : Option Addr) (b : Nat), v = .slice a x.length b ∧ Rd w 1 (.slice a x.length b) x.length (x.map bV) ∧ x.length ≤ 1073741824
theorem csl1New (d : World) (p : Value) (b : List UInt8) (E : R_22 d p b)  : Fn Try.prog 26 #[p] d (fun v l => ∃ g, Keep d l ∧ d.heap.size ≤ g ∧ v = vp g 0 ∧ ∀ (a : Option Addr) (c : Nat), p = .slice a b.length c → CurX l g 74 a c b) := by
 obtain ⟨e, f, rfl, h, w⟩ := E
 refine fn_ofS (n := 32) [(vs e b.length f)] Try.func26 rfl rfl ?_
 refine sr ?_
 refine aw (.pointer none) ?_
 refine nx ?_
 refine mw (vs e b.length f) ?_
 refine ln wN slTy_22 h ?_
 refine ar (127812 + (b.length : Int)) wN ?_
 refine aw (vi (127812 + (b.length : Int))) ?_
 refine n4 ?_
 refine aw (vi 0) ?_
 refine wl_nil <| wq_then <| wc_block ?_
 refine wc_loopP [(0, (vs e b.length f)), (2, (.pointer none)), (3, (vi (127812 + (b.length : Int)))), (4, (vi ((0 : Nat) : Int)))] ⟨rfl, rfl, rfl, (cA (Value.int .i64) (show (0 : Int) = ((0 : Nat) : Int) by omega)), trivial⟩ (fun e' l => ∃ (k : Nat) (q : Int) (y : Env), e' = pt y [(0, (vs e b.length f)), (2, (.pointer none)), (3, (vi q)), (4, (vi ((k : Nat) : Int)))] ∧ Ch (fun k => d.heap.size ≤ k) d l ∧ Ch (fun k => d.heap.size ≤ k) d l ∧ k ≤ b.length ∧ 0 ≤ q ∧ q ≤ 1073869636) (fun e' _ => b.length - ((intOf (e' 4))).toNat) ?_ ?_
 ·exact fun u => ⟨0, (127812 + (b.length : Int)), u, rfl, (Ch.base d), (Ch.refl (fun k => d.heap.size ≤ k) d), (by omega), (by omega), (by omega)⟩
 ·rintro _ F ⟨k, q, y, rfl, j, m, L, M, N⟩
  have O : (b.getD k 0).toNat < 256 := UInt8.toNat_lt _
  refine wc_seq <| sr ?_
  refine mw (vi ((k : Nat) : Int)) ?_
  refine mw (vs e b.length f) ?_
  refine ln wN slTy_22 (h.from0 j) ?_
  refine pu (vb (decide (((k : Nat) : Int) < (b.length : Int)))) wN ?_
  refine mw (vb (decide (((k : Nat) : Int) < (b.length : Int)))) ?_
  rcases bf (decide (((k : Nat) : Int) < (b.length : Int))) with i | i
  ·have P := dF i
   iterate 2 refine sk i ?_
   refine pf (vb false) wN i ?_
   refine n2 ?_
   refine cf (Eq.refl false) ?_
   refine wc_exit <| wq_then_exit <| wq_then_exit <| wq_blk_exit <| wq_then <| sr ?_
   refine mw (vs e b.length f) ?_
   refine mw (vi q) ?_
   refine pu (va [(vs e b.length f), (vi 0), (vi q)]) wN ?_
   refine bx [(vs e b.length f), (vi 0), (vi q)] wN ?_
   intro r G A Q H I
   have B := j.extk H
   refine aw (vp r 0) ?_
   refine n3 ?_
   refine rt (vp r 0) ?_
   refine ⟨r, B.keep0, (nT m.size A), rfl, fun a c hv => ?_⟩
   cases hv
   exact ⟨_, _, I, (h.from0 B), w, (by omega), (fun s z hz => nN (nL (rd_posB h s z hz) (nT m.size A)))⟩
  have R := dT i
  refine mv (vi ((k : Nat) : Int)) (wS i) ?_
  refine pu (vb (decide (((k : Nat) : Int) < 4000))) (wS i) ?_
  refine pk (vb (decide (((k : Nat) : Int) < 4000))) wN i ?_
  refine n2 ?_
  rcases bf (decide (((k : Nat) : Int) < 4000)) with o | o
  ·have S := dF o
   refine cf o ?_
   refine wc_exit <| wq_then_exit <| wq_then_exit <| wq_blk_exit <| wq_then <| sr ?_
   refine mw (vs e b.length f) ?_
   refine mw (vi q) ?_
   refine pu (va [(vs e b.length f), (vi 0), (vi q)]) wN ?_
   refine bx [(vs e b.length f), (vi 0), (vi q)] wN ?_
   intro t G C T J K
   have D := j.extk J
   refine aw (vp t 0) ?_
   refine n3 ?_
   refine rt (vp t 0) ?_
   refine ⟨t, D.keep0, (nT m.size C), rfl, fun a c hv => ?_⟩
   cases hv
   exact ⟨_, _, K, (h.from0 D), w, (by omega), (fun s z hz => nN (nL (rd_posB h s z hz) (nT m.size C)))⟩
  have V := dT o
  refine ct o ?_
  refine wc_skip <| wq_then <| wc_seq <| wc_block <| wc_region ?_
  refine mw (vi q) ?_
  refine ar (q * 137) wN ?_
  refine mw (vs e b.length f) ?_
  refine mw (vi ((k : Nat) : Int)) ?_
  refine ix wN ((k : Nat) : Int) slTy_22 (h.from0 j) ?_
  refine eb (x := b) k wN isAgg_5 (h.from0 j) ?_
  refine ar ((b.getD k 0).toNat : Int) wN ?_
  refine ar ((q * 137) + ((b.getD k 0).toNat : Int)) wN ?_
  refine ar (((q * 137) + ((b.getD k 0).toNat : Int)) + 11) wN ?_
  refine wl_and (((q * 137) + ((b.getD k 0).toNat : Int)) + 11) 1073741823 1073741824 30 wN rfl rfl (by decide) (by decide) (by decide) (by kernel_rfl) ?_
  refine aw (vi ((((q * 137) + ((b.getD k 0).toNat : Int)) + 11) % 1073741824)) ?_
  refine wl_nil <| wq_blk_normal <| wq_then <| wc_region ?_
  refine mw (vi ((k : Nat) : Int)) ?_
  refine ar (((k : Nat) : Int) + 1) wN ?_
  refine aw (vi (((k : Nat) : Int) + 1)) ?_
  refine wl_nil ?_
  refine wq_loopP (w0 := F) [(0, (vs e b.length f)), (2, (.pointer none)), (3, (vi ((((q * 137) + ((b.getD k 0).toNat : Int)) + 11) % 1073741824))), (4, (vi (((k + 1) : Nat) : Int)))] ?_ ?_ ?_
  · exact ⟨rfl, rfl, rfl, (cA (Value.int .i64) (show ((((k : Nat) : Int) + 1) : Int) = (((k + 1) : Nat) : Int) by omega)), trivial⟩
  · exact fun u => ⟨(k + 1), ((((q * 137) + ((b.getD k 0).toNat : Int)) + 11) % 1073741824), u, rfl, j, ((Ch.refl (fun k => d.heap.size ≤ k) d).ext m (fun k hk => hk)), (by omega), (by omega), (by omega)⟩
  · show b.length - ((((k + 1) : Nat) : Int)).toNat < b.length - (((k : Nat) : Int)).toNat; omega

theorem isAgg_3 : ∀ w, (isAgg 3).run Try.prog w = .ok false w := fun w => by kernel_rfl
theorem sizeOf_3 : ∀ w, (sizeOf 3).run Try.prog w = .ok 1 w := fun w => by kernel_rfl
theorem mixed : Try.prog.follows .mixedOrders = true := by kernel_rfl
theorem isAgg_22 : ∀ w, (isAgg 22).run Try.prog w = .ok false w := fun w => by kernel_rfl
def O_3 (w : World) (lo : Nat) (v : Value) (x : (Int)) : Prop := v = .int .i64 x
theorem csl1Byte (m : World) (g : Nat) (ca : Option Addr) (cc : Nat) (cb : List UInt8) (w : CurX m g 74 ca cc cb)  : Fn Try.prog 58 #[(vp g 0)] m (fun v f => ∃ x : (Int), Ch (fun k => k = g) m f ∧ CurX f g 74 ca cc cb ∧ O_3 f m.heap.size v x ∧ (0 ≤ x ∧ x ≤ 255)) := by
 obtain ⟨ci, chh, hcb, hcr, hcl, hci, hcn⟩ := w
 have hgl := Blk.lt hcb
 refine fn_ofS (n := 58) [(vp g 0)] Try.func58 rfl rfl ?_
 have aa : (cb.getD ci.toNat 0).toNat < 256 := UInt8.toNat_lt _
 refine sr ?_
 refine aw (vi 0) ?_
 refine nx ?_
 refine mw (vp g 0) ?_
 refine mw (vp g 0) ?_
 refine pu (vp g 0) wN ?_
 refine pu (vp g 2) wN ?_
 refine ld (vi chh) wN isAgg_3 hcb ?_
 refine wl_arb (IntKind.i64.wrap (chh * 6364136223846793005)) wN rfl rfl (by kernel_rfl) ?_
 intro y
 refine wl_arb (IntKind.i64.wrap (y + 1442695040888963407)) wN rfl rfl (by kernel_rfl) ?_
 intro a
 refine pu (vp g 0) wN ?_
 refine pu (vp g 2) wN ?_
 refine st (vi a) [(vi a)] [(vs ca cb.length cc), (vi ci), (vi a)] wN sizeOf_3 hcb ?_
 intro A B i ab
 have C := ChG.ext (Ch.refl (fun k => k = g) m) B (fun k hk => .inl hk)
 refine wl_nil <| wq_then <| wc_seq ?_
 refine wc_drawT ([(13, [], [], (fun _ v _ => v = (vp g 0))), (14, [], [0], (fun _ v _ => v = (vp g 0))), (15, [], [0, 1], (fun _ v _ => v = (vp g 2))), (16, [], [0, 1, 2], (fun _ v _ => v = (vi a))), (17, [], [0, 1, 2, 3], (fun _ v _ => v = (vi (a / (2 : Int) ^ ((33 : Int)).toNat)))), (18, [], [], (fun _ v _ => v = (vp g 0))), (19, [], [5], (fun _ v _ => v = (vp g 0))), (20, [], [5, 6], (fun _ v _ => v = (vp g 2))), (21, [], [5, 6, 7], (fun _ v _ => v = (vi a))), (22, [], [5, 6, 7, 8], (fun _ v _ => v = (vi (a / (2 : Int) ^ ((47 : Int)).toNat))))] : GV) (fun _ f => Keep A f) [] mixed rfl (by kernel_rfl) (by kernel_rfl) ?_ (fun _ _ h => h) (fun _ _ _ _ h _ k => h.trans k) trivial ?_ ?_ ?_
 ·exact ⟨hV, hE, ⟨hV, hE, ⟨hV, hE, ⟨hV, hE, ⟨hV, hE, ⟨hV, hE, ⟨hV, hE, ⟨hV, hE, ⟨hV, hE, ⟨hV, hE, trivial⟩⟩⟩⟩⟩⟩⟩⟩⟩⟩
 ·exact trivial
 ·refine ⟨?_, ⟨?_, ⟨?_, ⟨?_, ⟨?_, ⟨?_, ⟨?_, ⟨?_, ⟨?_, ⟨?_, trivial⟩⟩⟩⟩⟩⟩⟩⟩⟩⟩
  ·intro _ d ac _
   rintro _ _ _ _ _ _ _ _ _ _
   show WL _ _ _ _ _ _ _
   refine mw (vp g 0) ?_
   exact f1
  ·intro _ d ad _
   rintro _ rfl _ _ _ _ _ _ _ _ _
   show WL _ _ _ _ _ _ _
   refine pu (vp g 0) wN ?_
   exact f1
  ·intro _ d ae _
   rintro _ rfl _ rfl _ _ _ _ _ _ _ _
   show WL _ _ _ _ _ _ _
   refine pu (vp g 2) wN ?_
   exact f1
  ·intro _ d D _
   rintro _ rfl _ rfl _ rfl _ _ _ _ _ _ _
   show WL _ _ _ _ _ _ _
   have E := (i.kp D)
   refine ld (vi a) wN isAgg_3 E ?_
   exact f1
  ·intro _ d af _
   rintro _ rfl _ rfl _ rfl _ rfl _ _ _ _ _ _
   show WL _ _ _ _ _ _ _
   refine wl_shrU a (33 : Int) wN rfl rfl rfl rfl rfl (by omega) (by omega) ?_
   exact f1
  ·intro _ d ah _
   rintro _ _ _ _ _ _ _ _ _ _
   show WL _ _ _ _ _ _ _
   refine mw (vp g 0) ?_
   exact f1
  ·intro _ d ai _
   rintro _ _ _ _ _ _ rfl _ _ _ _
   show WL _ _ _ _ _ _ _
   refine pu (vp g 0) wN ?_
   exact f1
  ·intro _ d aj _
   rintro _ _ _ _ _ _ rfl _ rfl _ _ _
   show WL _ _ _ _ _ _ _
   refine pu (vp g 2) wN ?_
   exact f1
  ·intro _ d F _
   rintro _ _ _ _ _ _ rfl _ rfl _ rfl _ _
   show WL _ _ _ _ _ _ _
   have G := (i.kp F)
   refine ld (vi a) wN isAgg_3 G ?_
   exact f1
  ·intro _ d ak _
   rintro _ _ _ _ _ _ rfl _ rfl _ rfl _ rfl _
   show WL _ _ _ _ _ _ _
   refine wl_shrU a (47 : Int) wN rfl rfl rfl rfl rfl (by omega) (by omega) ?_
   exact f1
 ·intro _ d j
  have r := ChG.extk C j
  rintro _ rfl _ rfl _ rfl _ rfl _ rfl _ rfl _ rfl _ rfl _ rfl _ rfl
  show WL _ _ _ _ _ _ _
  refine wl_xorA (a / (2 : Int) ^ ((33 : Int)).toNat) (a / (2 : Int) ^ ((47 : Int)).toNat) wN rfl rfl (by kernel_rfl) ?_
  refine wl_and (xorA (a / (2 : Int) ^ ((33 : Int)).toNat) (a / (2 : Int) ^ ((47 : Int)).toNat)) 255 256 8 wN rfl rfl (by decide) (by decide) (by decide) (by kernel_rfl) ?_
  refine aw (vi ((xorA (a / (2 : Int) ^ ((33 : Int)).toNat) (a / (2 : Int) ^ ((47 : Int)).toNat)) % 256)) ?_
  refine wl_nil <| wq_then <| wc_seq <| wc_seq ?_
  refine wc_drawT ([(25, [], [], (fun _ v _ => v = (vp g 0))), (26, [], [0], (fun _ v _ => v = (vp g 0))), (27, [], [0, 1], (fun _ v _ => v = (vp g 1))), (28, [], [0, 1, 2], (fun _ v _ => v = (vi ci))), (29, [], [], (fun _ v _ => v = (vp g 0))), (30, [], [4], (fun _ v _ => v = (vp g 0))), (31, [], [4, 5], (fun _ v _ => v = (vp g 0))), (32, [], [4, 5, 6], (fun _ v _ => v = (vs ca cb.length cc))), (33, [], [4, 5, 6, 7], (fun _ v _ => v = (vi (cb.length : Int))))] : GV) (fun _ f => Keep d f) [] mixed rfl (by kernel_rfl) (by kernel_rfl) ?_ (fun _ _ h => h) (fun _ _ _ _ h _ k => h.trans k) trivial ?_ ?_ ?_
  ·exact ⟨hV, hE, ⟨hV, hE, ⟨hV, hE, ⟨hV, hE, ⟨hV, hE, ⟨hV, hE, ⟨hV, hE, ⟨hV, hE, ⟨hV, hE, trivial⟩⟩⟩⟩⟩⟩⟩⟩⟩
  ·exact trivial
  ·refine ⟨?_, ⟨?_, ⟨?_, ⟨?_, ⟨?_, ⟨?_, ⟨?_, ⟨?_, ⟨?_, trivial⟩⟩⟩⟩⟩⟩⟩⟩⟩
   ·intro _ e am _
    rintro _ _ _ _ _ _ _ _ _
    show WL _ _ _ _ _ _ _
    refine mw (vp g 0) ?_
    exact f1
   ·intro _ e an _
    rintro _ rfl _ _ _ _ _ _ _ _
    show WL _ _ _ _ _ _ _
    refine pu (vp g 0) wN ?_
    exact f1
   ·intro _ e ao _
    rintro _ rfl _ rfl _ _ _ _ _ _ _
    show WL _ _ _ _ _ _ _
    refine pu (vp g 1) wN ?_
    exact f1
   ·intro _ e H _
    rintro _ rfl _ rfl _ rfl _ _ _ _ _ _
    show WL _ _ _ _ _ _ _
    have I := ((i.kp j).kp H)
    refine ld (vi ci) wN isAgg_3 I ?_
    exact f1
   ·intro _ e ap _
    rintro _ _ _ _ _ _ _ _ _
    show WL _ _ _ _ _ _ _
    refine mw (vp g 0) ?_
    exact f1
   ·intro _ e aq _
    rintro _ _ _ _ _ rfl _ _ _ _
    show WL _ _ _ _ _ _ _
    refine pu (vp g 0) wN ?_
    exact f1
   ·intro _ e au _
    rintro _ _ _ _ _ rfl _ rfl _ _ _
    show WL _ _ _ _ _ _ _
    refine pu (vp g 0) wN ?_
    exact f1
   ·intro _ e J _
    rintro _ _ _ _ _ rfl _ rfl _ rfl _ _
    show WL _ _ _ _ _ _ _
    have K := ((i.kp j).kp J)
    refine ld (vs ca cb.length cc) wN isAgg_22 K ?_
    exact f1
   ·intro _ e L _
    have M := ChG.extk r L
    rintro _ _ _ _ _ rfl _ rfl _ rfl _ rfl _
    show WL _ _ _ _ _ _ _
    refine ln wN slTy_22 (Rd.chP hcr M hcn) ?_
    exact f1
  ·intro _ e o
   have p := ChG.extk r o
   rintro _ rfl _ rfl _ rfl _ rfl _ rfl _ rfl _ rfl _ rfl _ rfl
   show WL _ _ _ _ _ _ _
   refine pu (vb (decide (ci < (cb.length : Int)))) wN ?_
   refine n2 ?_
   rcases bf (decide (ci < (cb.length : Int))) with q | q
   ·have av := dF q
    refine cf q ?_
    refine y1 ?_
    refine mw (vi ((xorA (a / (2 : Int) ^ ((33 : Int)).toNat) (a / (2 : Int) ^ ((47 : Int)).toNat)) % 256)) ?_
    refine aw (vi ((xorA (a / (2 : Int) ^ ((33 : Int)).toNat) (a / (2 : Int) ^ ((47 : Int)).toNat)) % 256)) ?_
    refine n3 ?_
    refine rt (vi ((xorA (a / (2 : Int) ^ ((33 : Int)).toNat) (a / (2 : Int) ^ ((47 : Int)).toNat)) % 256)) ?_
    have N := ((i.kp j).kp o)
    exact ⟨((xorA (a / (2 : Int) ^ ((33 : Int)).toNat) (a / (2 : Int) ^ ((47 : Int)).toNat)) % 256), p, ⟨_, _, N, (Rd.chP hcr p hcn), hcl, (by omega), hcn⟩, rfl, (by omega)⟩
   have ax := dT q
   refine ct q ?_
   refine wc_seq ?_
   refine wc_drawT ([(35, [], [], (fun _ v _ => v = (vi ((xorA (a / (2 : Int) ^ ((33 : Int)).toNat) (a / (2 : Int) ^ ((47 : Int)).toNat)) % 256)))), (36, [], [], (fun _ v _ => v = (vp g 0))), (37, [], [1], (fun _ v _ => v = (vp g 0))), (38, [], [1, 2], (fun _ v _ => v = (vp g 0))), (39, [], [1, 2, 3], (fun _ v _ => v = (vs ca cb.length cc))), (40, [], [], (fun _ v _ => v = (vp g 0))), (41, [], [5], (fun _ v _ => v = (vp g 0))), (42, [], [5, 6], (fun _ v _ => v = (vp g 1))), (43, [], [5, 6, 7], (fun _ v _ => v = (vi ci))), (44, [], [1, 2, 3, 4, 5, 6, 7, 8], (fun _ v _ => v = (ve (vs ca cb.length cc) ((ci).toNat * 1)))), (45, [], [1, 2, 3, 4, 5, 6, 7, 8, 9], (fun _ v _ => v = (v8 ((cb.getD (ci).toNat 0).toNat : Int)))), (46, [], [1, 2, 3, 4, 5, 6, 7, 8, 9, 10], (fun _ v _ => v = (vi ((cb.getD (ci).toNat 0).toNat : Int))))] : GV) (fun _ f => Keep e f) [] mixed rfl (by kernel_rfl) (by kernel_rfl) ?_ (fun _ _ h => h) (fun _ _ _ _ h _ k => h.trans k) trivial ?_ ?_ ?_
   ·exact ⟨hV, hE, ⟨hV, hE, ⟨hV, hE, ⟨hV, hE, ⟨hV, hE, ⟨hV, hE, ⟨hV, hE, ⟨hV, hE, ⟨hV, hE, ⟨hV, hE, ⟨hV, hE, ⟨hV, hE, trivial⟩⟩⟩⟩⟩⟩⟩⟩⟩⟩⟩⟩
   ·exact trivial
   ·refine ⟨?_, ⟨?_, ⟨?_, ⟨?_, ⟨?_, ⟨?_, ⟨?_, ⟨?_, ⟨?_, ⟨?_, ⟨?_, ⟨?_, trivial⟩⟩⟩⟩⟩⟩⟩⟩⟩⟩⟩⟩
    ·intro _ b ay _
     rintro _ _ _ _ _ _ _ _ _ _ _ _
     show WL _ _ _ _ _ _ _
     refine mw (vi ((xorA (a / (2 : Int) ^ ((33 : Int)).toNat) (a / (2 : Int) ^ ((47 : Int)).toNat)) % 256)) ?_
     exact f1
    ·intro _ b az _
     rintro _ _ _ _ _ _ _ _ _ _ _ _
     show WL _ _ _ _ _ _ _
     refine mw (vp g 0) ?_
     exact f1
    ·intro _ b a0 _
     rintro _ _ rfl _ _ _ _ _ _ _ _ _ _
     show WL _ _ _ _ _ _ _
     refine pu (vp g 0) wN ?_
     exact f1
    ·intro _ b a1 _
     rintro _ _ rfl _ rfl _ _ _ _ _ _ _ _ _
     show WL _ _ _ _ _ _ _
     refine pu (vp g 0) wN ?_
     exact f1
    ·intro _ b O _
     rintro _ _ rfl _ rfl _ rfl _ _ _ _ _ _ _ _
     show WL _ _ _ _ _ _ _
     have P := (((i.kp j).kp o).kp O)
     refine ld (vs ca cb.length cc) wN isAgg_22 P ?_
     exact f1
    ·intro _ b a2 _
     rintro _ _ _ _ _ _ _ _ _ _ _ _
     show WL _ _ _ _ _ _ _
     refine mw (vp g 0) ?_
     exact f1
    ·intro _ b a3 _
     rintro _ _ _ _ _ _ rfl _ _ _ _ _ _
     show WL _ _ _ _ _ _ _
     refine pu (vp g 0) wN ?_
     exact f1
    ·intro _ b a4 _
     rintro _ _ _ _ _ _ rfl _ rfl _ _ _ _ _
     show WL _ _ _ _ _ _ _
     refine pu (vp g 1) wN ?_
     exact f1
    ·intro _ b Q _
     rintro _ _ _ _ _ _ rfl _ rfl _ rfl _ _ _ _
     show WL _ _ _ _ _ _ _
     have R := (((i.kp j).kp o).kp Q)
     refine ld (vi ci) wN isAgg_3 R ?_
     exact f1
    ·intro _ b S _
     have T := ChG.extk p S
     rintro _ _ rfl _ rfl _ rfl _ rfl _ rfl _ rfl _ rfl _ rfl _ _ _
     show WL _ _ _ _ _ _ _
     refine ix wN ci slTy_22 (Rd.chP hcr T hcn) ?_
     exact f1
    ·intro _ b V _
     have W := ChG.extk p V
     rintro _ _ rfl _ rfl _ rfl _ rfl _ rfl _ rfl _ rfl _ rfl _ rfl _ _
     show WL _ _ _ _ _ _ _
     refine eb (x := cb) ((ci).toNat) wN isAgg_5 (Rd.chP hcr W hcn) ?_
     exact f1
    ·intro _ b a5 _
     rintro _ _ rfl _ rfl _ rfl _ rfl _ rfl _ rfl _ rfl _ rfl _ rfl _ rfl _
     show WL _ _ _ _ _ _ _
     refine ar ((cb.getD (ci).toNat 0).toNat : Int) wN ?_
     exact f1
   ·intro _ b s
    have X := ChG.extk p s
    rintro _ rfl _ rfl _ rfl _ rfl _ rfl _ rfl _ rfl _ rfl _ rfl _ rfl _ rfl _ rfl
    show WL _ _ _ _ _ _ _
    refine wl_arb (IntKind.i64.wrap (((xorA (a / (2 : Int) ^ ((33 : Int)).toNat) (a / (2 : Int) ^ ((47 : Int)).toNat)) % 256) + ((cb.getD (ci).toNat 0).toNat : Int))) wN rfl rfl (by kernel_rfl) ?_
    intro l
    refine wl_and l 255 256 8 wN rfl rfl (by decide) (by decide) (by decide) (by kernel_rfl) ?_
    refine aw (vi (l % 256)) ?_
    refine wl_nil <| wq_then <| wc_region ?_
    refine mw (vp g 0) ?_
    refine mw (vp g 0) ?_
    refine pu (vp g 0) wN ?_
    refine pu (vp g 1) wN ?_
    have t := (((i.kp j).kp o).kp s)
    refine ld (vi ci) wN isAgg_3 t ?_
    refine ar (ci + 1) wN ?_
    refine pu (vp g 0) wN ?_
    refine pu (vp g 1) wN ?_
    refine st (vi (ci + 1)) [(vi (ci + 1))] [(vs ca cb.length cc), (vi (ci + 1)), (vi a)] wN sizeOf_3 t ?_
    intro a6 Y Z a7
    have u := ChG.ext X Y (fun k hk => .inl hk)
    refine nx ?_
    refine mw (vi (l % 256)) ?_
    refine aw (vi (l % 256)) ?_
    refine n3 ?_
    refine rt (vi (l % 256)) ?_
    exact ⟨(l % 256), u, ⟨_, _, Z, (Rd.chP hcr u hcn), hcl, (by omega), hcn⟩, rfl, (by omega)⟩

theorem csl1Below (f : World) (g : Nat) (ca : Option Addr) (cc : Nat) (cb : List UInt8) (u : CurX f g 74 ca cc cb) (b : Int)  : Fn Try.prog 29 #[(vp g 0), (vi b)] f (fun v o => ∃ x : (Int), Ch (fun k => k = g) f o ∧ CurX o g 74 ca cc cb ∧ O_3 o f.heap.size v x ∧ (0 ≤ x ∧ (x < b ∨ ((b : Int) ≤ 0 ∧ x = 0)))) := by
 obtain ⟨ci, chh, hcb, hcr, hcl, hci, hcn⟩ := u
 have hgl := Blk.lt hcb
 refine fn_ofS (n := 31) [(vp g 0), (vi b)] Try.func29 rfl rfl ?_
 refine sr ?_
 refine aw (vi 0) ?_
 refine n4 ?_
 refine mw (vi b) ?_
 refine pu (vb (decide (b ≤ 0))) wN ?_
 refine n2 ?_
 rcases bt (decide (b ≤ 0)) with i | i
 ·have H := dT i
  refine ct i ?_
  refine sr ?_
  refine aw (vi 0) ?_
  refine n1 ?_
  refine rt (vi 0) ?_
  exact ⟨0, (Ch.refl (fun k => k = g) f), ⟨_, _, hcb, hcr, hcl, (by omega), hcn⟩, rfl, (by omega)⟩
 have I := dF i
 refine cf i ?_
 refine y2 ?_
 refine mw (vi b) ?_
 refine pu (vb (decide (b ≤ 256))) wN ?_
 refine n2 ?_
 rcases bt (decide (b ≤ 256)) with j | j
 ·have J := dT j
  refine ct j ?_
  refine sr ?_
  refine mw (vp g 0) ?_
  refine cl wN (csl1Byte f g ca cc cb ⟨_, _, hcb, hcr, hcl, (by omega), hcn⟩) ?_
  rintro _ p ⟨l, w, ⟨K, L, y, M, N, O, P⟩, rfl, Q⟩
  have q := ChG.ext (Ch.refl (fun k => k = g) f) w (fun k hk => .inl hk)
  refine mw (vi b) ?_
  refine wl_remv (l) b wN rfl rfl rfl rfl rfl (by omega) (by omega) ?_
  have R := rem_b (a := (l)) (m := b) (by omega)
  refine aw (vi ((l) % b)) ?_
  refine n1 ?_
  refine rt (vi ((l) % b)) ?_
  exact ⟨((l) % b), q, ⟨_, _, y, (Rd.chP hcr q hcn), hcl, (by omega), hcn⟩, rfl, (by omega)⟩
 have S := dF j
 refine cf j ?_
 refine y1 ?_
 refine mw (vp g 0) ?_
 refine cl wN (csl1Byte f g ca cc cb ⟨_, _, hcb, hcr, hcl, (by omega), hcn⟩) ?_
 rintro _ p ⟨d, A, ⟨T, V, B, W, X, Y, Z⟩, rfl, aa⟩
 have r := ChG.ext (Ch.refl (fun k => k = g) f) A (fun k hk => .inl hk)
 refine aw (vi (d)) ?_
 refine nx ?_
 refine mw (vp g 0) ?_
 refine cl wN (csl1Byte p g ca cc cb ⟨_, _, B, (Rd.chP hcr r hcn), hcl, (by omega), hcn⟩) ?_
 rintro _ C ⟨e, D, ⟨ab, ac, E, ad, ae, af, ah⟩, rfl, ai⟩
 have s := ChG.ext r D (fun k hk => .inl hk)
 refine aw (vi (e)) ?_
 refine nx ?_
 refine mw (vp g 0) ?_
 refine cl wN (csl1Byte C g ca cc cb ⟨_, _, E, (Rd.chP hcr s hcn), hcl, (by omega), hcn⟩) ?_
 rintro _ aj ⟨h, F, ⟨ak, am, G, an, ao, ap, aq⟩, rfl, au⟩
 have t := ChG.ext s F (fun k hk => .inl hk)
 refine aw (vi (h)) ?_
 refine nx ?_
 refine mw (vi (d)) ?_
 refine ar ((d) * 65536) wN ?_
 refine mw (vi (e)) ?_
 refine ar ((e) * 256) wN ?_
 refine ar (((d) * 65536) + ((e) * 256)) wN ?_
 refine mw (vi (h)) ?_
 refine ar ((((d) * 65536) + ((e) * 256)) + (h)) wN ?_
 refine mw (vi b) ?_
 refine wl_remv ((((d) * 65536) + ((e) * 256)) + (h)) b wN rfl rfl rfl rfl rfl (by omega) (by omega) ?_
 have av := rem_b (a := ((((d) * 65536) + ((e) * 256)) + (h))) (m := b) (by omega)
 refine aw (vi (((((d) * 65536) + ((e) * 256)) + (h)) % b)) ?_
 refine n3 ?_
 refine rt (vi (((((d) * 65536) + ((e) * 256)) + (h)) % b)) ?_
 exact ⟨(((((d) * 65536) + ((e) * 256)) + (h)) % b), t, ⟨_, _, G, (Rd.chP hcr t hcn), hcl, (by omega), hcn⟩, rfl, (by omega)⟩

theorem slTy_67 : SlTy Try.prog 67 3 1 8 (vi 0) := slTy Try.underlying67 (by kernel_rfl) rfl rfl
def N_67 (w : World) (g : Nat) (v : Value) (x : (List Int)) : Prop := ∃ (a : Option Addr) (b : Nat), v = .slice a x.length b ∧ Rd w 1 (.slice a x.length b) x.length (x.map iV) ∧ x.length ≤ 1073741824 ∧ (0 < x.length → ∀ z, a = some z → z.block ≠ g)
theorem csl1Int (b : World) (g : Nat) (ca : Option Addr) (cc : Nat) (cb : List UInt8) (o : CurX b g 74 ca cc cb) (l : Value) (a : List Int) (p : N_67 b g l a) (s : 0 < a.length) : Fn Try.prog 45 #[(vp g 0), l] b (fun v f => ∃ x : (Int), Ch (fun k => k = g) b f ∧ CurX f g 74 ca cc cb ∧ O_3 f b.heap.size v x ∧ (x ∈ a)) := by
 obtain ⟨ci, chh, hcb, hcr, hcl, hci, hcn⟩ := o
 have hgl := Blk.lt hcb
 obtain ⟨h, i, rfl, j, t, m⟩ := p
 refine fn_ofS (n := 12) [(vp g 0), (vs h a.length i)] Try.func45 rfl rfl ?_
 refine sr ?_
 refine aw (vi 0) ?_
 refine nx ?_
 refine mw (vs h a.length i) ?_
 refine mw (vp g 0) ?_
 refine mw (vs h a.length i) ?_
 refine ln wN slTy_67 j ?_
 refine cl wN (csl1Below b g ca cc cb ⟨_, _, hcb, hcr, hcl, (by omega), hcn⟩ (a.length : Int)) ?_
 rintro _ u ⟨d, q, ⟨w, y, r, A, B, C, D⟩, rfl, E⟩
 have e := ChG.ext (Ch.refl (fun k => k = g) b) q (fun k hk => .inl hk)
 refine ix wN (d) slTy_67 (Rd.chP j e m) ?_
 refine ei (x := a) (((d)).toNat) wN isAgg_3 (Rd.chP j e m) ?_
 refine aw (vi (a.getD ((d)).toNat 0)) ?_
 refine n3 ?_
 refine rt (vi (a.getD ((d)).toNat 0)) ?_
 exact ⟨(a.getD ((d)).toNat 0), e, ⟨_, _, r, (Rd.chP hcr e hcn), hcl, (by omega), hcn⟩, rfl, (by exact getD_memI (by omega))⟩

def O_22 (w : World) (lo : Nat) (v : Value) (x : (List UInt8)) : Prop := ∃ (a : Option Addr) (b : Nat), v = .slice a x.length b ∧ w.ownsRow lo 5 1 (.slice a x.length b) x.length (x.map bV) ∧ x.length ≤ 1073741824 ∧ Aps [(a, b)]
theorem csl1Bytes (a : World) (g : Nat) (ca : Option Addr) (cc : Nat) (cb : List UInt8) (N : CurX a g 74 ca cc cb) (b : Int) (ac : b ≤ 100000) : Fn Try.prog 60 #[(vp g 0), (vi b)] a (fun v e => ∃ x : (List UInt8), Ch (fun k => k = g) a e ∧ CurX e g 74 ca cc cb ∧ O_22 e a.heap.size v x ∧ (x.length = (b : Int).toNat)) := by
 obtain ⟨ci, chh, hcb, hcr, hcl, hci, hcn⟩ := N
 have hgl := Blk.lt hcb
 refine fn_ofS (n := 20) [(vp g 0), (vi b)] Try.func60 rfl rfl ?_
 refine sr ?_
 refine aw (vs none 0 0) ?_
 refine nx ?_
 refine wl_lit0 wN rfl rfl slTy_22 (fun w => by kernel_rfl) ?_
 intro t y A O
 have C := ChG.extk (Ch.refl (fun k => k = g) a) A
 refine aw (vs (some t) 0 0) ?_
 refine n4 ?_
 refine aw (vi 0) ?_
 refine wl_nil <| wq_then <| wc_block ?_
 have D : ([] : List UInt8) = ([] : List UInt8) := by simp
 have E : 0 = (([] : List UInt8)).length := by rw [← D]; try (first | rfl | simp only [List.length_set] | simp)
 have P := (hcb.kp A)
 refine wc_loopP [(0, (vp g 0)), (1, (vi b)), (4, (vs none 0 0)), (5, (.slice (some t) (([] : List UInt8)).length 0)), (6, (vi ((0 : Nat) : Int)))] ⟨rfl, rfl, rfl, rfl, (cA (Value.int .i64) (show (0 : Int) = ((0 : Nat) : Int) by omega)), trivial⟩ (fun e' e => ∃ (k : Nat) (l : List UInt8) (F : Env) (f : Option Addr) (i : Nat), e' = pt F [(0, (vp g 0)), (1, (vi b)), (4, (vs none 0 0)), (5, (.slice f (l).length i)), (6, (vi ((k : Nat) : Int)))] ∧ Ch (fun k => k = g) a e ∧ Ch (fun k => k = g ∨ a.heap.size ≤ k) y e ∧ l.length = k ∧ k ≤ b.toNat ∧ (World.ownsRow e a.heap.size 5 1 (.slice f (l).length i) (l).length ((l).map bV) ∧ (l).length ≤ 1073741824) ∧ CurX e g 74 ca cc cb) (fun e' _ => (b - (intOf (e' 6))).toNat) ?_ ?_
 ·exact fun u => ⟨0, ([] : List UInt8), u, (some t), 0, rfl, C, (Ch.refl (fun k => k = g ∨ a.heap.size ≤ k) y), (by first | omega | (simp only [List.length_append, List.length_cons, List.length_nil]; omega)), (by omega), ⟨(by rw [← E, ← D]; exact O), (by rw [← E]; first | exact (by simp) | (simp only [List.length_append, List.length_take, List.length_replicate]; omega))⟩, ⟨_, _, P, (Rd.chP hcr C hcn), hcl, (by omega), hcn⟩⟩
 ·rintro _ G ⟨k, l, F, f, i, rfl, p, H, ad, ae, ⟨j, Q⟩, ⟨af, ah, I, ai, aj, ak, am⟩⟩
  refine wc_seq <| sr ?_
  refine mw (vi ((k : Nat) : Int)) ?_
  refine mw (vi b) ?_
  refine pu (vb (decide (((k : Nat) : Int) < b))) wN ?_
  refine n2 ?_
  rcases bf (decide (((k : Nat) : Int) < b)) with m | m
  ·have an := dF m
   refine cf m ?_
   refine wc_exit <| wq_then_exit <| wq_then_exit <| wq_blk_exit <| wq_then <| sr ?_
   refine mw (vs f (l).length i) ?_
   refine aw (vs f (l).length i) ?_
   refine n3 ?_
   refine rt (vs f (l).length i) ?_
   have J : (l).length = (l).length := by first | (simp only [List.length_append, List.length_take, List.length_replicate, List.length_set, List.length_map]; done) | (simp only [List.length_append, List.length_take, List.length_replicate, List.length_set, List.length_map]; omega)
   rw [J] at j ⊢
   exact ⟨l, p, ⟨_, _, I, (Rd.chP hcr p hcn), hcl, (by omega), hcn⟩, ⟨_, _, rfl, j, (by rw [← J]; exact Q), ⟨trivial, trivial⟩⟩, (by omega)⟩
  have ao := dT m
  refine ct m ?_
  refine wc_skip <| wq_then <| wc_seq <| wc_block <| wc_region ?_
  refine mw (vs f (l).length i) ?_
  refine mw (vp g 0) ?_
  refine cl wN (csl1Byte G g ca cc cb ⟨_, _, I, (Rd.chP hcr p hcn), hcl, (by omega), hcn⟩) ?_
  rintro _ ap ⟨d, q, ⟨aq, au, R, av, ax, ay, az⟩, rfl, a0⟩
  have S := ChG.ext p q (fun k hk => .inl hk)
  refine wl_conv8 (d) wN rfl rfl (by kernel_rfl) ?_
  refine ltB ([(by8 (d))] : List UInt8) wN slTy_22 ?_
  intro a1 a2 a3 o T
  have V := ChG.extk S o
  have W := (own_kp (own_ch j q (ne1 j (hgl))) o)
  refine wl_append (v := (vs f (l).length i)) wN rfl rfl rfl slTy_22 rfl rfl W (Rd.of_own T) (all_bV _) (by first | (simp only [List.length_append, List.length_cons, List.length_nil, List.length_replicate, List.length_take, List.length_drop]; omega) | omega) (by simp only [maxLen]; first | (simp only [List.length_append, List.length_cons, List.length_nil, List.length_replicate, List.length_take, List.length_drop]; omega) | omega) (z4 A H q o) ?_
  intro X Y B Z a4
  have K : Y.ownsRow a.heap.size 5 1 X ((l ++ ([(by8 (d))] : List UInt8)) : List UInt8).length (((l ++ ([(by8 (d))] : List UInt8)) : List UInt8).map bV) := by simpa [Nat.add_assoc] using Z
  obtain ⟨r, s, rfl⟩ := own_form K
  have L := ChG.ext V B (fun k hk => .inr (nT (Nat.le_refl a.heap.size) (own_lt j k hk).1))
  have aa : (l ++ ([(by8 (d))] : List UInt8)).length ≤ 1073741824 := by first | (simp only [List.length_append, List.length_cons, List.length_nil, List.length_replicate, List.length_take, List.length_drop]; omega) | omega | assumption
  refine aw (vs r (l ++ ([(by8 (d))] : List UInt8)).length s) ?_
  refine wl_nil <| wq_blk_normal <| wq_then <| wc_region ?_
  refine mw (vi ((k : Nat) : Int)) ?_
  refine ar (((k : Nat) : Int) + 1) wN ?_
  refine aw (vi (((k : Nat) : Int) + 1)) ?_
  refine wl_nil ?_
  have M : ((l ++ ([(by8 (d))] : List UInt8)) : List UInt8) = (l ++ ([(by8 (d))] : List UInt8)) := by simp
  have ab := ((R.kp o).ch B (fun h => by have := (own_lt j _ h).1; have := nL hgl (Nat.le_refl a.heap.size); omega))
  refine wq_loopP (w0 := G) [(0, (vp g 0)), (1, (vi b)), (4, (vs none 0 0)), (5, (.slice r ((l ++ ([(by8 (d))] : List UInt8))).length s)), (6, (vi (((k + 1) : Nat) : Int)))] ?_ ?_ ?_
  · exact ⟨rfl, rfl, rfl, (cA (fun l : List UInt8 => Value.slice r l.length s) M), (cA (Value.int .i64) (show ((((k : Nat) : Int) + 1) : Int) = (((k + 1) : Nat) : Int) by omega)), trivial⟩
  · exact fun u => ⟨(k + 1), (l ++ ([(by8 (d))] : List UInt8)), u, r, s, rfl, L, (ChO.ext (ChO.extk (ChO.ext (ChO.ext (Ch.refl (fun k => k = g ∨ a.heap.size ≤ k) y) H (fun k hk => hk.elim .inl (fun hk => .inr (hk)))) q (fun k hk => .inl hk)) o) B (fun k hk => .inr (nT (Nat.le_refl a.heap.size) (own_lt j k hk).1))), (by first | omega | (simp only [List.length_append, List.length_cons, List.length_nil]; omega)), (by omega), (M ▸ ⟨K, aa⟩), ⟨_, _, ab, (Rd.chP hcr L hcn), hcl, (by omega), hcn⟩⟩
  · show (b - (((k + 1) : Nat) : Int)).toNat < (b - ((k : Nat) : Int)).toNat; omega

def R_67 (w : World) (v : Value) (x : (List Int)) : Prop := ∃ (a : Option Addr) (b : Nat), v = .slice a x.length b ∧ Rd w 1 (.slice a x.length b) x.length (x.map iV) ∧ x.length ≤ 1073741824
theorem csl12Psk (b : World) (g : Nat) (ca : Option Addr) (cc : Nat) (cb : List UInt8) (q : CurX b g 74 ca cc cb)  : Fn Try.prog 41 #[(vp g 0)] b (fun v d => ∃ x : (List UInt8), Ch (fun k => k = g) b d ∧ CurX d g 74 ca cc cb ∧ O_22 d b.heap.size v x ∧ (True)) := by
 obtain ⟨ci, chh, hcb, hcr, hcl, hci, hcn⟩ := q
 have hgl := Blk.lt hcb
 refine fn_ofS (n := 8) [(vp g 0)] Try.func41 rfl rfl ?_
 refine sr ?_
 refine aw (vs none 0 0) ?_
 refine nx ?_
 refine mw (vp g 0) ?_
 refine mw (vp g 0) ?_
 refine ltI ([1, 5, 16, 32, 32, 0, 33, 16] : List Int) wN slTy_67 ?_
 intro D E r e h
 have i := ChG.extk (Ch.refl (fun k => k = g) b) e
 have s := (hcb.kp e)
 refine cl wN (csl1Int r g ca cc cb ⟨_, _, s, (Rd.chP hcr i hcn), hcl, (by omega), hcn⟩ _ ([1, 5, 16, 32, 32, 0, 33, 16] : List Int) ⟨_, _, rfl, (Rd.of_own h), (by simp), (fun _ z hz => by have F := (own_lt h z.block (by rw [hz]; rfl)).1; have G := nL hgl (Nat.le_refl b.heap.size); omega)⟩ (by simp)) ?_
 rintro _ t ⟨a, j, ⟨H, I, u, J, K, L, M⟩, rfl, w⟩
 have l := ChG.ext i j (fun k hk => .inl hk)
 have q10m : a = 1 ∨ a = 5 ∨ a = 16 ∨ a = 32 ∨ a = 32 ∨ a = 0 ∨ a = 33 ∨ a = 16 := by simpa only [List.mem_cons, List.not_mem_nil, or_false] using w
 refine cl wN (csl1Bytes t g ca cc cb ⟨_, _, u, (Rd.chP hcr l hcn), hcl, (by omega), hcn⟩ (a) (by omega)) ?_
 rintro _ N ⟨f, y, ⟨O, P, A, Q, R, S, T⟩, ⟨m, o, rfl, B, C, V⟩, W⟩
 have p := ChG.ext l y (fun k hk => .inl hk)
 refine aw (vs m (f).length o) ?_
 refine n3 ?_
 refine rt (vs m (f).length o) ?_
 exact ⟨(f), p, ⟨_, _, A, (Rd.chP hcr p hcn), hcl, (by omega), hcn⟩, ⟨_, _, rfl, (own_lo B (z2 e j)), C, ⟨trivial, trivial⟩⟩, trivial⟩

abbrev Z_40 : List Value := [(vi 0), (vi 0), (vs none 0 0), (vs none 0 0), (vi 0), (vs none 0 0), (vs none 0 0), (vi 0), (vi 0), (vs none 0 0), (vs none 0 0)]
theorem zero_40 : ∀ w, (zeroValue 40).run Try.prog w = .ok (va Z_40) w := fun w => by kernel_rfl
theorem sizeOf_40 : ∀ w, (sizeOf 40).run Try.prog w = .ok 11 w := fun w => by kernel_rfl
theorem isAgg_40 : ∀ w, (isAgg 40).run Try.prog w = .ok true w := fun w => by kernel_rfl
def O_40 (w : World) (lo : Nat) (v : Value) (x : (PFrame)) : Prop := ∃ (a : Option Addr) (b : Nat) (d : Option Addr) (e : Nat) (f : Option Addr) (g : Nat) (h : Option Addr) (i : Nat) (j : Option Addr) (k : Nat) (l : Option Addr) (m : Nat), v = .agg #[.int .i64 x.Kind, .int .i64 x.Id, .slice a x.Cn.length b, .slice d x.Sn.length e, .int .i64 x.Tick, .slice f x.Cookie.length g, .slice h x.Proof.length i, .int .i64 x.Epoch, .int .i64 x.Seq, .slice j x.Body.length k, .slice l x.Tag.length m] ∧ w.ownsRow lo 5 1 (.slice a x.Cn.length b) x.Cn.length (x.Cn.map bV) ∧ x.Cn.length ≤ 1073741824 ∧ w.ownsRow lo 5 1 (.slice d x.Sn.length e) x.Sn.length (x.Sn.map bV) ∧ x.Sn.length ≤ 1073741824 ∧ w.ownsRow lo 5 1 (.slice f x.Cookie.length g) x.Cookie.length (x.Cookie.map bV) ∧ x.Cookie.length ≤ 1073741824 ∧ w.ownsRow lo 5 1 (.slice h x.Proof.length i) x.Proof.length (x.Proof.map bV) ∧ x.Proof.length ≤ 1073741824 ∧ w.ownsRow lo 5 1 (.slice j x.Body.length k) x.Body.length (x.Body.map bV) ∧ x.Body.length ≤ 1073741824 ∧ w.ownsRow lo 5 1 (.slice l x.Tag.length m) x.Tag.length (x.Tag.map bV) ∧ x.Tag.length ≤ 1073741824 ∧ Aps [(a, b), (d, e), (f, g), (h, i), (j, k), (l, m)]
theorem csl12Cookie (j : World) (g : Nat) (ca : Option Addr) (cc : Nat) (cb : List UInt8) (K : CurX j g 74 ca cc cb)  : Fn Try.prog 42 #[(vp g 0)] j (fun v C => ∃ x : (PFrame), Ch (fun k => k = g) j C ∧ CurX C g 74 ca cc cb ∧ O_40 C j.heap.size v x ∧ (x.Cn.length ≤ 100 ∧ x.Sn.length ≤ 100 ∧ x.Cookie.length ≤ 100 ∧ 0 ≤ x.Tick ∧ x.Tick ≤ 300)) := by
 obtain ⟨ci, chh, hcb, hcr, hcl, hci, hcn⟩ := K
 have hgl := Blk.lt hcb
 refine fn_ofS (n := 12) [(vp g 0)] Try.func42 rfl rfl ?_
 refine sr ?_
 refine al Z_40 wN zero_40 ?_
 intro af L f D a M
 have E := ChG.extk (Ch.refl (fun k => k = g) j) a
 refine nx ?_
 refine mw (vp g 0) ?_
 have N := (hcb.kp a)
 refine cl wN (csl1Bytes L g ca cc cb ⟨_, _, N, (Rd.chP hcr E hcn), hcl, (by omega), hcn⟩ 12 (by omega)) ?_
 rintro _ F ⟨l, b, ⟨ah, ai, O, aj, ak, am, an⟩, ⟨r, s, rfl, e, P, ao⟩, ap⟩
 have G := ChG.ext E b (fun k hk => .inl hk)
 refine mw (vp g 0) ?_
 refine cl wN (csl1Bytes F g ca cc cb ⟨_, _, O, (Rd.chP hcr G hcn), hcl, (by omega), hcn⟩ 12 (by omega)) ?_
 rintro _ Q ⟨m, h, ⟨aq, au, R, av, ax, ay, az⟩, ⟨t, u, rfl, i, S, a0⟩, a1⟩
 have H := ChG.ext G h (fun k hk => .inl hk)
 refine mw (vp g 0) ?_
 refine cl wN (csl1Below Q g ca cc cb ⟨_, _, R, (Rd.chP hcr H hcn), hcl, (by omega), hcn⟩ 300) ?_
 rintro _ T ⟨o, d, ⟨a2, a3, V, a4, a5, a6, a7⟩, rfl, a8⟩
 have I := ChG.ext H d (fun k hk => .inl hk)
 refine mw (vp g 0) ?_
 refine cl wN (csl1Bytes T g ca cc cb ⟨_, _, V, (Rd.chP hcr I hcn), hcl, (by omega), hcn⟩ 16 (by omega)) ?_
 rintro _ a9 ⟨p, w, ⟨aA, aB, W, aC, aD, aE, aF⟩, ⟨y, A, rfl, B, X, aG⟩, aH⟩
 have Y := ChG.ext I w (fun k hk => .inl hk)
 refine pu (va [(vi 2), (vi 0), (vs r (l).length s), (vs t (m).length u), (vi (o)), (vs y (p).length A), (vs none 0 0), (vi 0), (vi 0), (vs none 0 0), (vs none 0 0)]) wN ?_
 have Z := ((((M.ch b (Ne.symm (nN (nL hgl (f))))).ch h (Ne.symm (nN (nL hgl (f))))).ch d (Ne.symm (nN (nL hgl (f))))).ch w (Ne.symm (nN (nL hgl (f)))))
 refine sv [(vi 2), (vi 0), (vs r (l).length s), (vs t (m).length u), (vi (o)), (vs y (p).length A), (vs none 0 0), (vi 0), (vi 0), (vs none 0 0), (vs none 0 0)] wN sizeOf_40 Z ?_
 intro aI q aa aJ
 have J := ChG.ext Y q (fun k hk => .inr (by subst hk; exact f))
 refine n3 ?_
 have ab := (own_ch (own_ch (own_ch (own_ch e h (ne1 e (nL hgl a.size))) d (ne1 e (nL hgl a.size))) w (ne1 e (nL hgl a.size))) q (ne1 e (D)))
 have ac := (own_ch (own_ch (own_ch i d (ne1 i (nL hgl (z2 a b)))) w (ne1 i (nL hgl (z2 a b)))) q (ne1 i (nL D b.size)))
 have ad := (own_ch B q (ne1 B (nL D (z3 b h d))))
 refine ret_1 (.inl rfl) (va [(vi 2), (vi 0), (vs r (l).length s), (vs t (m).length u), (vi (o)), (vs y (p).length A), (vs none 0 0), (vi 0), (vi 0), (vs none 0 0), (vs none 0 0)]) rfl (rv_c [(vi 2), (vi 0), (vs r (l).length s), (vs t (m).length u), (vi (o)), (vs y (p).length A), (vs none 0 0), (vi 0), (vi 0), (vs none 0 0), (vs none 0 0)] rfl aa isAgg_40 sizeOf_40) ?_
 have ae := (W.ch q (nN (nL hgl (f))))
 exact ⟨{ Kind := 2, Id := 0, Cn := (l), Sn := (m), Tick := (o), Cookie := (p), Proof := [], Epoch := 0, Seq := 0, Body := [], Tag := [] : PFrame }, J, ⟨_, _, ae, (Rd.chP hcr J hcn), hcl, (by omega), hcn⟩, ⟨_, _, _, _, _, _, _, _, _, _, _, _, rfl, (own_lo ab a.size), P, (own_lo ac (z2 a b)), S, (own_lo ad (z4 a b h d)), X, (by first | exact own_nil _ _ _ _ | exact OLv.nil _ _ _ _), (by simp), (by first | exact own_nil _ _ _ _ | exact OLv.nil _ _ _ _), (by simp), (by first | exact own_nil _ _ _ _ | exact OLv.nil _ _ _ _), (by simp), ⟨⟨(Ap.lt e i (Nat.le_refl F.heap.size)), ⟨(Ap.lt e B (z2 h d)), ⟨(Ap.nr _), ⟨(Ap.nr _), ⟨(Ap.nr _), trivial⟩⟩⟩⟩⟩, ⟨⟨(Ap.lt i B d.size), ⟨(Ap.nr _), ⟨(Ap.nr _), ⟨(Ap.nr _), trivial⟩⟩⟩⟩, ⟨⟨(Ap.nr _), ⟨(Ap.nr _), ⟨(Ap.nr _), trivial⟩⟩⟩, ⟨⟨(Ap.nl _), ⟨(Ap.nl _), trivial⟩⟩, ⟨⟨(Ap.nl _), trivial⟩, ⟨trivial, trivial⟩⟩⟩⟩⟩⟩⟩, (by (simp only []; omega))⟩

theorem csl1Once (a : World) (g : Nat) (ca : Option Addr) (cc : Nat) (cb : List UInt8) (h : CurX a g 74 ca cc cb) (b : Int)  : Fn Try.prog 43 #[(vp g 0), (vi b)] a (fun v e => ∃ x : (Bool), Ch (fun k => k = g) a e ∧ CurX e g 74 ca cc cb ∧ O_4 e a.heap.size v x ∧ (True)) := by
 obtain ⟨ci, chh, hcb, hcr, hcl, hci, hcn⟩ := h
 have hgl := Blk.lt hcb
 refine fn_ofS (n := 9) [(vp g 0), (vi b)] Try.func43 rfl rfl ?_
 refine sr ?_
 refine aw (vb false) ?_
 refine nx ?_
 refine mw (vp g 0) ?_
 refine mw (vi b) ?_
 refine cl wN (csl1Below a g ca cc cb ⟨_, _, hcb, hcr, hcl, (by omega), hcn⟩ b) ?_
 rintro _ l ⟨d, i, ⟨m, o, j, p, q, r, s⟩, rfl, t⟩
 have f := ChG.ext (Ch.refl (fun k => k = g) a) i (fun k hk => .inl hk)
 refine pu (vb (decide ((d) = 0))) wN ?_
 refine aw (vb (decide ((d) = 0))) ?_
 refine n3 ?_
 refine rt (vb (decide ((d) = 0))) ?_
 exact ⟨decide ((d) = 0), f, ⟨_, _, j, (Rd.chP hcr f hcn), hcl, (by omega), hcn⟩, rfl, trivial⟩

theorem sizeOf_22 : ∀ w, (sizeOf 22).run Try.prog w = .ok 1 w := fun w => by kernel_rfl
theorem csl7Draw (bU : World) (g : Nat) (ca : Option Addr) (cc : Nat) (cb : List UInt8) (dJ : CurX bU g 74 ca cc cb)  : Fn Try.prog 62 #[(vp g 0)] bU (fun v cT => ∃ x : (PFrame), Ch (fun k => k = g) bU cT ∧ CurX cT g 74 ca cc cb ∧ O_40 cT bU.heap.size v x ∧ (True)) := by
 obtain ⟨ci, chh, hcb, hcr, hcl, hci, hcn⟩ := dJ
 have hgl := Blk.lt hcb
 refine fn_ofS (n := 79) [(vp g 0)] Try.func62 rfl rfl ?_
 refine sr ?_
 refine al Z_40 wN zero_40 ?_
 intro hs dK i E b aD
 have di := ChG.extk (Ch.refl (fun k => k = g) bU) b
 refine nx ?_
 refine mw (vp g 0) ?_
 have dL := (hcb.kp b)
 refine cl wN (csl1Below dK g ca cc cb ⟨_, _, dL, (Rd.chP hcr di hcn), hcl, (by omega), hcn⟩ 8) ?_
 rintro _ ht ⟨f, a, ⟨hu, hv, cI, hw, hx, hy, h0⟩, rfl, h1⟩
 have dM := ChG.ext di a (fun k hk => .inl hk)
 refine ar (1 + (f)) wN ?_
 refine pu (va [(vi (1 + (f))), (vi 0), (vs none 0 0), (vs none 0 0), (vi 0), (vs none 0 0), (vs none 0 0), (vi 0), (vi 0), (vs none 0 0), (vs none 0 0)]) wN ?_
 refine al Z_40 wN zero_40 ?_
 intro M h2 h H e dN
 have dO := ChG.extk dM e
 refine sv [(vi (1 + (f))), (vi 0), (vs none 0 0), (vs none 0 0), (vi 0), (vs none 0 0), (vs none 0 0), (vi 0), (vi 0), (vs none 0 0), (vs none 0 0)] wN sizeOf_40 dN ?_
 intro cJ d bW h3
 have aN := ChG.ext dO d (fun k hk => .inr (by subst hk; exact nT (z2 b a) h))
 refine n4 ?_
 refine pu (vp M 0) wN ?_
 refine ld (vi (1 + (f))) wN isAgg_3 bW ?_
 refine wl_nil <| wq_then <| wc_block <| sr ?_
 refine pu (vb (decide ((1 + (f)) = 1))) wN ?_
 refine aw (vb (decide ((1 + (f)) = 1))) ?_
 refine n2 ?_
 rcases bt (decide ((1 + (f)) = 1)) with bX | bX
 ·have h4 := dT bX
  refine ct bX ?_
  refine sr ?_
  refine mw (vp g 0) ?_
  have dP := ((cI.kp e).ch d (nN (nL hgl (nT (z2 b a) h))))
  refine cl wN (csl1Below cJ g ca cc cb ⟨_, _, dP, (Rd.chP hcr aN hcn), hcl, (by omega), hcn⟩ 9) ?_
  rintro _ cU ⟨aE, b2, ⟨h5, h6, dQ, h7, h8, h9, hA⟩, rfl, hB⟩
  have dR := ChG.ext aN b2 (fun k hk => .inl hk)
  refine ar (1 + (aE)) wN ?_
  refine pu (vp M 1) wN ?_
  have dS := (bW.ch b2 (Ne.symm (nN (nL hgl (nT (z2 b a) h)))))
  refine st (vi (1 + (aE))) [(vi (1 + (aE)))] [(vi (1 + (f))), (vi (1 + (aE))), (vs none 0 0), (vs none 0 0), (vi 0), (vs none 0 0), (vs none 0 0), (vi 0), (vi 0), (vs none 0 0), (vs none 0 0)] wN sizeOf_3 dS ?_
  intro b3 b4 dU hC
  have dj := ChG.ext dR b4 (fun k hk => .inr (by subst hk; exact nT (z2 b a) h))
  refine wl_nil <| wq_then <| wc_region ?_
  refine mw (vp g 0) ?_
  have dV := (dQ.ch b4 (nN (nL hgl (nT (z2 b a) h))))
  refine cl wN (csl1Bytes b3 g ca cc cb ⟨_, _, dV, (Rd.chP hcr dj hcn), hcl, (by omega), hcn⟩ 12 (by omega)) ?_
  rintro _ cK ⟨aO, cV, ⟨hD, hF, dW, hG, hH, hI, hJ⟩, ⟨aY, aZ, rfl, cW, dX, hK⟩, hL⟩
  have dY := ChG.ext dj cV (fun k hk => .inl hk)
  refine pu (vp M 2) wN ?_
  have dZ := (dU.ch cV (Ne.symm (nN (nL hgl (nT (z2 b a) h)))))
  refine st (vs aY (aO).length aZ) [(vs aY (aO).length aZ)] [(vi (1 + (f))), (vi (1 + (aE))), (vs aY (aO).length aZ), (vs none 0 0), (vi 0), (vs none 0 0), (vs none 0 0), (vi 0), (vi 0), (vs none 0 0), (vs none 0 0)] wN sizeOf_22 dZ ?_
  intro cX cL ea hM
  have ec := ChG.ext dY cL (fun k hk => .inr (by subst hk; exact nT (z2 b a) h))
  refine wl_nil <| wq_blk_normal <| wq_then <| sr ?_
  refine lN [(vi (1 + (f))), (vi (1 + (aE))), (vs aY (aO).length aZ), (vs none 0 0), (vi 0), (vs none 0 0), (vs none 0 0), (vi 0), (vi 0), (vs none 0 0), (vs none 0 0)] wN isAgg_40 sizeOf_40 ea ?_
  have cY := nL E (nT a.size h)
  have ed := (((((((aD.ch a (Ne.symm (nN (nL hgl (i))))).kp e).ch d (nN cY)).ch b2 (Ne.symm (nN (nL hgl (i))))).ch b4 (nN cY)).ch cV (Ne.symm (nN (nL hgl (i))))).ch cL (nN cY))
  refine sv [(vi (1 + (f))), (vi (1 + (aE))), (vs aY (aO).length aZ), (vs none 0 0), (vi 0), (vs none 0 0), (vs none 0 0), (vi 0), (vi 0), (vs none 0 0), (vs none 0 0)] wN sizeOf_40 ed ?_
  intro bY cZ ee hN
  have dk := ChG.ext ec cZ (fun k hk => .inr (by subst hk; exact i))
  refine n3 ?_
  have ef := (own_ch (own_ch cW cL (ne1 cW (nL H (z3 d b2 b4)))) cZ (ne1 cW (nL E (z5 a e d b2 b4))))
  refine ret_1 (.inl rfl) (va [(vi (1 + (f))), (vi (1 + (aE))), (vs aY (aO).length aZ), (vs none 0 0), (vi 0), (vs none 0 0), (vs none 0 0), (vi 0), (vi 0), (vs none 0 0), (vs none 0 0)]) rfl (rv_c [(vi (1 + (f))), (vi (1 + (aE))), (vs aY (aO).length aZ), (vs none 0 0), (vi 0), (vs none 0 0), (vs none 0 0), (vi 0), (vi 0), (vs none 0 0), (vs none 0 0)] rfl ee isAgg_40 sizeOf_40) ?_
  have eg := ((dW.ch cL (nN (nL hgl (nT (z2 b a) h)))).ch cZ (nN (nL hgl (i))))
  exact ⟨{ Kind := (1 + (f)), Id := (1 + (aE)), Cn := (aO), Sn := [], Tick := 0, Cookie := [], Proof := [], Epoch := 0, Seq := 0, Body := [], Tag := [] : PFrame }, dk, ⟨_, _, eg, (Rd.chP hcr dk hcn), hcl, (by omega), hcn⟩, ⟨_, _, _, _, _, _, _, _, _, _, _, _, rfl, (own_lo ef (z6 b a e d b2 b4)), dX, (by first | exact own_nil _ _ _ _ | exact OLv.nil _ _ _ _), (by simp), (by first | exact own_nil _ _ _ _ | exact OLv.nil _ _ _ _), (by simp), (by first | exact own_nil _ _ _ _ | exact OLv.nil _ _ _ _), (by simp), (by first | exact own_nil _ _ _ _ | exact OLv.nil _ _ _ _), (by simp), (by first | exact own_nil _ _ _ _ | exact OLv.nil _ _ _ _), (by simp), ⟨⟨(Ap.nr _), ⟨(Ap.nr _), ⟨(Ap.nr _), ⟨(Ap.nr _), ⟨(Ap.nr _), trivial⟩⟩⟩⟩⟩, ⟨⟨(Ap.nl _), ⟨(Ap.nl _), ⟨(Ap.nl _), ⟨(Ap.nl _), trivial⟩⟩⟩⟩, ⟨⟨(Ap.nl _), ⟨(Ap.nl _), ⟨(Ap.nl _), trivial⟩⟩⟩, ⟨⟨(Ap.nl _), ⟨(Ap.nl _), trivial⟩⟩, ⟨⟨(Ap.nl _), trivial⟩, ⟨trivial, trivial⟩⟩⟩⟩⟩⟩⟩, trivial⟩
 have hO := dF bX
 refine cf bX ?_
 refine wc_seq <| sr ?_
 refine pu (vb (decide ((1 + (f)) = 2))) wN ?_
 refine aw (vb (decide ((1 + (f)) = 2))) ?_
 refine n2 ?_
 rcases bt (decide ((1 + (f)) = 2)) with b5 | b5
 ·have hP := dT b5
  refine ct b5 ?_
  refine wc_skip <| wq_then ?_
  refine ct b5 ?_
  refine sr ?_
  refine mw (vp g 0) ?_
  have eh := ((cI.kp e).ch d (nN (nL hgl (nT (z2 b a) h))))
  refine cl wN (csl1Bytes cJ g ca cc cb ⟨_, _, eh, (Rd.chP hcr aN hcn), hcl, (by omega), hcn⟩ 12 (by omega)) ?_
  rintro _ cU ⟨Z, R, ⟨hQ, hR, ej, hS, hT, hU, hW⟩, ⟨ah, ai, rfl, O, dl, hX⟩, hY⟩
  have ek := ChG.ext aN R (fun k hk => .inl hk)
  refine pu (vp M 2) wN ?_
  have em := (bW.ch R (Ne.symm (nN (nL hgl (nT (z2 b a) h)))))
  refine st (vs ah (Z).length ai) [(vs ah (Z).length ai)] [(vi (1 + (f))), (vi 0), (vs ah (Z).length ai), (vs none 0 0), (vi 0), (vs none 0 0), (vs none 0 0), (vi 0), (vi 0), (vs none 0 0), (vs none 0 0)] wN sizeOf_22 em ?_
  intro b3 N en hZ
  have dm := ChG.ext ek N (fun k hk => .inr (by subst hk; exact nT (z2 b a) h))
  refine nx ?_
  refine mw (vp g 0) ?_
  have eo := (ej.ch N (nN (nL hgl (nT (z2 b a) h))))
  refine cl wN (csl1Bytes b3 g ca cc cb ⟨_, _, eo, (Rd.chP hcr dm hcn), hcl, (by omega), hcn⟩ 12 (by omega)) ?_
  rintro _ cK ⟨ac, W, ⟨ia, ib, ep, ic, ie, ig, ih⟩, ⟨am, an, rfl, V, dn, ii⟩, ij⟩
  have er := ChG.ext dm W (fun k hk => .inl hk)
  refine pu (vp M 3) wN ?_
  have es := (en.ch W (Ne.symm (nN (nL hgl (nT (z2 b a) h)))))
  refine st (vs am (ac).length an) [(vs am (ac).length an)] [(vi (1 + (f))), (vi 0), (vs ah (Z).length ai), (vs am (ac).length an), (vi 0), (vs none 0 0), (vs none 0 0), (vi 0), (vi 0), (vs none 0 0), (vs none 0 0)] wN sizeOf_22 es ?_
  intro cX P et ik
  have eu := ChG.ext er P (fun k hk => .inr (by subst hk; exact nT (z2 b a) h))
  refine nx ?_
  refine mw (vp g 0) ?_
  refine ltI ([0, 1, 300, 1000000] : List Int) wN slTy_67 ?_
  intro il im bY Q dp
  have dq := ChG.extk eu Q
  have ew := ((ep.ch P (nN (nL hgl (nT (z2 b a) h)))).kp Q)
  refine cl wN (csl1Int bY g ca cc cb ⟨_, _, ew, (Rd.chP hcr dq hcn), hcl, (by omega), hcn⟩ _ ([0, 1, 300, 1000000] : List Int) ⟨_, _, rfl, (Rd.of_own dp), (by simp), (fun _ z hz => by have cM := (own_lt dp z.block (by rw [hz]; rfl)).1; have cN := nL hgl (z8 b a e d R N W P); omega)⟩ (by simp)) ?_
  rintro _ da ⟨X, S, ⟨io, ip, ex, iq, ir, it, iu⟩, rfl, ey⟩
  have ez := ChG.ext dq S (fun k hk => .inl hk)
  have q136m : X = 0 ∨ X = 1 ∨ X = 300 ∨ X = 1000000 := by simpa only [List.mem_cons, List.not_mem_nil, or_false] using ey
  refine pu (vp M 4) wN ?_
  have e0 := ((et.kp Q).ch S (Ne.symm (nN (nL hgl (nT (z2 b a) h)))))
  refine st (vi (X)) [(vi (X))] [(vi (1 + (f))), (vi 0), (vs ah (Z).length ai), (vs am (ac).length an), (vi (X)), (vs none 0 0), (vs none 0 0), (vi 0), (vi 0), (vs none 0 0), (vs none 0 0)] wN sizeOf_3 e0 ?_
  intro cO T e1 iv
  have dr := ChG.ext ez T (fun k hk => .inr (by subst hk; exact nT (z2 b a) h))
  refine nx ?_
  refine mw (vp g 0) ?_
  have e2 := (ex.ch T (nN (nL hgl (nT (z2 b a) h))))
  refine cl wN (csl1Bytes cO g ca cc cb ⟨_, _, e2, (Rd.chP hcr dr hcn), hcl, (by omega), hcn⟩ 16 (by omega)) ?_
  rintro _ db ⟨ao, ax, ⟨iw, iy, ds, iz, i0, i1, i2⟩, ⟨ay, az, rfl, ap, dt, i3⟩, i4⟩
  have e3 := ChG.ext dr ax (fun k hk => .inl hk)
  refine pu (vp M 5) wN ?_
  have e4 := (e1.ch ax (Ne.symm (nN (nL hgl (nT (z2 b a) h)))))
  refine st (vs ay (ao).length az) [(vs ay (ao).length az)] [(vi (1 + (f))), (vi 0), (vs ah (Z).length ai), (vs am (ac).length an), (vi (X)), (vs ay (ao).length az), (vs none 0 0), (vi 0), (vi 0), (vs none 0 0), (vs none 0 0)] wN sizeOf_22 e4 ?_
  intro cP ad dc i5
  have dd := ChG.ext e3 ad (fun k hk => .inr (by subst hk; exact nT (z2 b a) h))
  refine nx ?_
  refine pu (vp M 0) wN ?_
  refine ld (vi (1 + (f))) wN isAgg_3 dc ?_
  refine pu (vb (decide ((1 + (f)) = 3))) wN ?_
  refine n2 ?_
  rcases bf (decide ((1 + (f)) = 3)) with bZ | bZ
  ·have i6 := dF bZ
   refine cf bZ ?_
   refine wc_skip <| wq_blk_normal <| wq_then <| sr ?_
   refine lN [(vi (1 + (f))), (vi 0), (vs ah (Z).length ai), (vs am (ac).length an), (vi (X)), (vs ay (ao).length az), (vs none 0 0), (vi 0), (vi 0), (vs none 0 0), (vs none 0 0)] wN isAgg_40 sizeOf_40 dc ?_
   have cd := nL E (nT a.size h)
   have e5 := ((((((((((((aD.ch a (Ne.symm (nN (nL hgl (i))))).kp e).ch d (nN cd)).ch R (Ne.symm (nN (nL hgl (i))))).ch N (nN cd)).ch W (Ne.symm (nN (nL hgl (i))))).ch P (nN cd)).kp Q).ch S (Ne.symm (nN (nL hgl (i))))).ch T (nN cd)).ch ax (Ne.symm (nN (nL hgl (i))))).ch ad (nN cd))
   refine sv [(vi (1 + (f))), (vi 0), (vs ah (Z).length ai), (vs am (ac).length an), (vi (X)), (vs ay (ao).length az), (vs none 0 0), (vi 0), (vi 0), (vs none 0 0), (vs none 0 0)] wN sizeOf_40 e5 ?_
   intro de ce e6 i7
   have du := ChG.ext dd ce (fun k hk => .inr (by subst hk; exact i))
   refine n3 ?_
   have cQ := nL H d.size
   have e7 := (own_ch (own_ch (own_ch (own_ch (own_ch (own_kp (own_ch (own_ch (own_ch O N (ne1 O cQ)) W (ne1 O (nL hgl (z4 b a e d)))) P (ne1 O cQ)) Q) S (ne1 O (nL hgl (z4 b a e d)))) T (ne1 O cQ)) ax (ne1 O (nL hgl (z4 b a e d)))) ad (ne1 O cQ)) ce (ne1 O (nL E (z3 a e d))))
   have df := nL H (z3 d R N)
   have e8 := (own_ch (own_ch (own_ch (own_ch (own_ch (own_kp (own_ch V P (ne1 V df)) Q) S (ne1 V (nL hgl (z6 b a e d R N)))) T (ne1 V df)) ax (ne1 V (nL hgl (z6 b a e d R N)))) ad (ne1 V df)) ce (ne1 V (nL E (z5 a e d R N))))
   have e9 := (own_ch (own_ch ap ad (ne1 ap (nL H (z8 d R N W P Q S T)))) ce (ne1 ap (nL E (z10 a e d R N W P Q S T))))
   refine ret_1 (.inl rfl) (va [(vi (1 + (f))), (vi 0), (vs ah (Z).length ai), (vs am (ac).length an), (vi (X)), (vs ay (ao).length az), (vs none 0 0), (vi 0), (vi 0), (vs none 0 0), (vs none 0 0)]) rfl (rv_c [(vi (1 + (f))), (vi 0), (vs ah (Z).length ai), (vs am (ac).length an), (vi (X)), (vs ay (ao).length az), (vs none 0 0), (vi 0), (vi 0), (vs none 0 0), (vs none 0 0)] rfl e6 isAgg_40 sizeOf_40) ?_
   have eA := ((ds.ch ad (nN (nL hgl (nT (z2 b a) h)))).ch ce (nN (nL hgl (i))))
   exact ⟨{ Kind := (1 + (f)), Id := 0, Cn := (Z), Sn := (ac), Tick := (X), Cookie := (ao), Proof := [], Epoch := 0, Seq := 0, Body := [], Tag := [] : PFrame }, du, ⟨_, _, eA, (Rd.chP hcr du hcn), hcl, (by omega), hcn⟩, ⟨_, _, _, _, _, _, _, _, _, _, _, _, rfl, (own_lo e7 (z4 b a e d)), dl, (own_lo e8 (z6 b a e d R N)), dn, (own_lo e9 (z11 b a e d R N W P Q S T)), dt, (by first | exact own_nil _ _ _ _ | exact OLv.nil _ _ _ _), (by simp), (by first | exact own_nil _ _ _ _ | exact OLv.nil _ _ _ _), (by simp), (by first | exact own_nil _ _ _ _ | exact OLv.nil _ _ _ _), (by simp), ⟨⟨(Ap.lt O V N.size), ⟨(Ap.lt O ap (z6 N W P Q S T)), ⟨(Ap.nr _), ⟨(Ap.nr _), ⟨(Ap.nr _), trivial⟩⟩⟩⟩⟩, ⟨⟨(Ap.lt V ap (z4 P Q S T)), ⟨(Ap.nr _), ⟨(Ap.nr _), ⟨(Ap.nr _), trivial⟩⟩⟩⟩, ⟨⟨(Ap.nr _), ⟨(Ap.nr _), ⟨(Ap.nr _), trivial⟩⟩⟩, ⟨⟨(Ap.nl _), ⟨(Ap.nl _), trivial⟩⟩, ⟨⟨(Ap.nl _), trivial⟩, ⟨trivial, trivial⟩⟩⟩⟩⟩⟩⟩, trivial⟩
  have i8 := dT bZ
  refine ct bZ ?_
  refine sr ?_
  refine mw (vp g 0) ?_
  have eB := (ds.ch ad (nN (nL hgl (nT (z2 b a) h))))
  refine cl wN (csl1Below cP g ca cc cb ⟨_, _, eB, (Rd.chP hcr dd hcn), hcl, (by omega), hcn⟩ 9) ?_
  rintro _ de ⟨aF, a1, ⟨i9, iA, eC, iB, iC, iD, iE⟩, rfl, iF⟩
  have eD := ChG.ext dd a1 (fun k hk => .inl hk)
  refine ar (1 + (aF)) wN ?_
  refine pu (vp M 1) wN ?_
  have eE := (dc.ch a1 (Ne.symm (nN (nL hgl (nT (z2 b a) h)))))
  refine st (vi (1 + (aF))) [(vi (1 + (aF)))] [(vi (1 + (f))), (vi (1 + (aF))), (vs ah (Z).length ai), (vs am (ac).length an), (vi (X)), (vs ay (ao).length az), (vs none 0 0), (vi 0), (vi 0), (vs none 0 0), (vs none 0 0)] wN sizeOf_3 eE ?_
  intro cg a2 eF iG
  have dv := ChG.ext eD a2 (fun k hk => .inr (by subst hk; exact nT (z2 b a) h))
  refine wl_nil <| wq_then <| wc_region ?_
  refine mw (vp g 0) ?_
  have eG := (eC.ch a2 (nN (nL hgl (nT (z2 b a) h))))
  refine cl wN (csl1Bytes cg g ca cc cb ⟨_, _, eG, (Rd.chP hcr dv hcn), hcl, (by omega), hcn⟩ 16 (by omega)) ?_
  rintro _ aP ⟨aQ, b6, ⟨iH, iI, eH, iJ, iK, iL, iM⟩, ⟨ba, bb, rfl, b7, eI, iN⟩, iO⟩
  have eJ := ChG.ext dv b6 (fun k hk => .inl hk)
  refine pu (vp M 6) wN ?_
  have eK := (eF.ch b6 (Ne.symm (nN (nL hgl (nT (z2 b a) h)))))
  refine st (vs ba (aQ).length bb) [(vs ba (aQ).length bb)] [(vi (1 + (f))), (vi (1 + (aF))), (vs ah (Z).length ai), (vs am (ac).length an), (vi (X)), (vs ay (ao).length az), (vs ba (aQ).length bb), (vi 0), (vi 0), (vs none 0 0), (vs none 0 0)] wN sizeOf_22 eK ?_
  intro bc bd eL iP
  have eM := ChG.ext eJ bd (fun k hk => .inr (by subst hk; exact nT (z2 b a) h))
  refine wl_nil <| wq_blk_normal <| wq_then <| sr ?_
  refine lN [(vi (1 + (f))), (vi (1 + (aF))), (vs ah (Z).length ai), (vs am (ac).length an), (vi (X)), (vs ay (ao).length az), (vs ba (aQ).length bb), (vi 0), (vi 0), (vs none 0 0), (vs none 0 0)] wN isAgg_40 sizeOf_40 eL ?_
  have be := nL E (nT a.size h)
  have eN := ((((((((((((((((aD.ch a (Ne.symm (nN (nL hgl (i))))).kp e).ch d (nN be)).ch R (Ne.symm (nN (nL hgl (i))))).ch N (nN be)).ch W (Ne.symm (nN (nL hgl (i))))).ch P (nN be)).kp Q).ch S (Ne.symm (nN (nL hgl (i))))).ch T (nN be)).ch ax (Ne.symm (nN (nL hgl (i))))).ch ad (nN be)).ch a1 (Ne.symm (nN (nL hgl (i))))).ch a2 (nN be)).ch b6 (Ne.symm (nN (nL hgl (i))))).ch bd (nN be))
  refine sv [(vi (1 + (f))), (vi (1 + (aF))), (vs ah (Z).length ai), (vs am (ac).length an), (vi (X)), (vs ay (ao).length az), (vs ba (aQ).length bb), (vi 0), (vi 0), (vs none 0 0), (vs none 0 0)] wN sizeOf_40 eN ?_
  intro bg b8 eO iQ
  have dw := ChG.ext eM b8 (fun k hk => .inr (by subst hk; exact i))
  refine n3 ?_
  have b9 := nL H d.size
  have eP := (own_ch (own_ch (own_ch (own_ch (own_ch (own_ch (own_ch (own_ch (own_ch (own_kp (own_ch (own_ch (own_ch O N (ne1 O b9)) W (ne1 O (nL hgl (z4 b a e d)))) P (ne1 O b9)) Q) S (ne1 O (nL hgl (z4 b a e d)))) T (ne1 O b9)) ax (ne1 O (nL hgl (z4 b a e d)))) ad (ne1 O b9)) a1 (ne1 O (nL hgl (z4 b a e d)))) a2 (ne1 O b9)) b6 (ne1 O (nL hgl (z4 b a e d)))) bd (ne1 O b9)) b8 (ne1 O (nL E (z3 a e d))))
  have cj := nL H (z3 d R N)
  have cR := z6 b a e d R N
  have eQ := (own_ch (own_ch (own_ch (own_ch (own_ch (own_ch (own_ch (own_ch (own_ch (own_kp (own_ch V P (ne1 V cj)) Q) S (ne1 V (nL hgl cR))) T (ne1 V cj)) ax (ne1 V (nL hgl cR))) ad (ne1 V cj)) a1 (ne1 V (nL hgl cR))) a2 (ne1 V cj)) b6 (ne1 V (nL hgl cR))) bd (ne1 V cj)) b8 (ne1 V (nL E (z5 a e d R N))))
  have dg := nL H (z8 d R N W P Q S T)
  have eR := (own_ch (own_ch (own_ch (own_ch (own_ch (own_ch ap ad (ne1 ap dg)) a1 (ne1 ap (nL hgl (z11 b a e d R N W P Q S T)))) a2 (ne1 ap dg)) b6 (ne1 ap (nL hgl (z11 b a e d R N W P Q S T)))) bd (ne1 ap dg)) b8 (ne1 ap (nL E (z10 a e d R N W P Q S T))))
  have eS := (own_ch (own_ch b7 bd (ne1 b7 (nL H (z12 d R N W P Q S T ax ad a1 a2)))) b8 (ne1 b7 (nL E (t3 (z12 a e d R N W P Q S T ax ad) a1.size a2.size))))
  refine ret_1 (.inl rfl) (va [(vi (1 + (f))), (vi (1 + (aF))), (vs ah (Z).length ai), (vs am (ac).length an), (vi (X)), (vs ay (ao).length az), (vs ba (aQ).length bb), (vi 0), (vi 0), (vs none 0 0), (vs none 0 0)]) rfl (rv_c [(vi (1 + (f))), (vi (1 + (aF))), (vs ah (Z).length ai), (vs am (ac).length an), (vi (X)), (vs ay (ao).length az), (vs ba (aQ).length bb), (vi 0), (vi 0), (vs none 0 0), (vs none 0 0)] rfl eO isAgg_40 sizeOf_40) ?_
  have eT := ((eH.ch bd (nN (nL hgl (nT (z2 b a) h)))).ch b8 (nN (nL hgl (i))))
  exact ⟨{ Kind := (1 + (f)), Id := (1 + (aF)), Cn := (Z), Sn := (ac), Tick := (X), Cookie := (ao), Proof := (aQ), Epoch := 0, Seq := 0, Body := [], Tag := [] : PFrame }, dw, ⟨_, _, eT, (Rd.chP hcr dw hcn), hcl, (by omega), hcn⟩, ⟨_, _, _, _, _, _, _, _, _, _, _, _, rfl, (own_lo eP (z4 b a e d)), dl, (own_lo eQ (z6 b a e d R N)), dn, (own_lo eR (z11 b a e d R N W P Q S T)), dt, (own_lo eS (t4 (z12 b a e d R N W P Q S T ax) ad.size a1.size a2.size)), eI, (by first | exact own_nil _ _ _ _ | exact OLv.nil _ _ _ _), (by simp), (by first | exact own_nil _ _ _ _ | exact OLv.nil _ _ _ _), (by simp), ⟨⟨(Ap.lt O V N.size), ⟨(Ap.lt O ap (z6 N W P Q S T)), ⟨(Ap.lt O b7 (z10 N W P Q S T ax ad a1 a2)), ⟨(Ap.nr _), ⟨(Ap.nr _), trivial⟩⟩⟩⟩⟩, ⟨⟨(Ap.lt V ap (z4 P Q S T)), ⟨(Ap.lt V b7 (z8 P Q S T ax ad a1 a2)), ⟨(Ap.nr _), ⟨(Ap.nr _), trivial⟩⟩⟩⟩, ⟨⟨(Ap.lt ap b7 (z3 ad a1 a2)), ⟨(Ap.nr _), ⟨(Ap.nr _), trivial⟩⟩⟩, ⟨⟨(Ap.nr _), ⟨(Ap.nr _), trivial⟩⟩, ⟨⟨(Ap.nl _), trivial⟩, ⟨trivial, trivial⟩⟩⟩⟩⟩⟩⟩, trivial⟩
 have iR := dF b5
 refine cf b5 ?_
 refine wc_region ?_
 refine pu (vb (decide ((1 + (f)) = 3))) wN ?_
 refine aw (vb (decide ((1 + (f)) = 3))) ?_
 refine n2 ?_
 rcases bt (decide ((1 + (f)) = 3)) with bA | bA
 ·have iS := dT bA
  refine ct bA ?_
  refine sr ?_
  refine mw (vp g 0) ?_
  have eU := ((cI.kp e).ch d (nN (nL hgl (nT (z2 b a) h))))
  refine cl wN (csl1Bytes cJ g ca cc cb ⟨_, _, eU, (Rd.chP hcr aN hcn), hcl, (by omega), hcn⟩ 12 (by omega)) ?_
  rintro _ cU ⟨a0, aj, ⟨iT, iU, eV, iW, iX, iY, iZ⟩, ⟨a3, a4, rfl, ak, eW, ja⟩, jb⟩
  have eX := ChG.ext aN aj (fun k hk => .inl hk)
  refine pu (vp M 2) wN ?_
  have eY := (bW.ch aj (Ne.symm (nN (nL hgl (nT (z2 b a) h)))))
  refine st (vs a3 (a0).length a4) [(vs a3 (a0).length a4)] [(vi (1 + (f))), (vi 0), (vs a3 (a0).length a4), (vs none 0 0), (vi 0), (vs none 0 0), (vs none 0 0), (vi 0), (vi 0), (vs none 0 0), (vs none 0 0)] wN sizeOf_22 eY ?_
  intro b3 Y eZ jc
  have dx := ChG.ext eX Y (fun k hk => .inr (by subst hk; exact nT (z2 b a) h))
  refine nx ?_
  refine mw (vp g 0) ?_
  have fa := (eV.ch Y (nN (nL hgl (nT (z2 b a) h))))
  refine cl wN (csl1Bytes b3 g ca cc cb ⟨_, _, fa, (Rd.chP hcr dx hcn), hcl, (by omega), hcn⟩ 12 (by omega)) ?_
  rintro _ cK ⟨a5, aq, ⟨jd, je, fb, jf, jg, jh, ji⟩, ⟨aA, aB, rfl, av, fc, jj⟩, jk⟩
  have fd := ChG.ext dx aq (fun k hk => .inl hk)
  refine pu (vp M 3) wN ?_
  have fe := (eZ.ch aq (Ne.symm (nN (nL hgl (nT (z2 b a) h)))))
  refine st (vs aA (a5).length aB) [(vs aA (a5).length aB)] [(vi (1 + (f))), (vi 0), (vs a3 (a0).length a4), (vs aA (a5).length aB), (vi 0), (vs none 0 0), (vs none 0 0), (vi 0), (vi 0), (vs none 0 0), (vs none 0 0)] wN sizeOf_22 fe ?_
  intro cX aa ff jl
  have fg := ChG.ext fd aa (fun k hk => .inr (by subst hk; exact nT (z2 b a) h))
  refine nx ?_
  refine mw (vp g 0) ?_
  refine ltI ([0, 1, 300, 1000000] : List Int) wN slTy_67 ?_
  intro jm jn bY ab dy
  have dz := ChG.extk fg ab
  have fh := ((fb.ch aa (nN (nL hgl (nT (z2 b a) h)))).kp ab)
  refine cl wN (csl1Int bY g ca cc cb ⟨_, _, fh, (Rd.chP hcr dz hcn), hcl, (by omega), hcn⟩ _ ([0, 1, 300, 1000000] : List Int) ⟨_, _, rfl, (Rd.of_own dy), (by simp), (fun _ z hz => by have cM := (own_lt dy z.block (by rw [hz]; rfl)).1; have cN := nL hgl (z8 b a e d aj Y aq aa); omega)⟩ (by simp)) ?_
  rintro _ da ⟨au, ae, ⟨jo, jp, fi, jq, jr, js, jt⟩, rfl, fj⟩
  have fk := ChG.ext dz ae (fun k hk => .inl hk)
  have q293m : au = 0 ∨ au = 1 ∨ au = 300 ∨ au = 1000000 := by simpa only [List.mem_cons, List.not_mem_nil, or_false] using fj
  refine pu (vp M 4) wN ?_
  have fl := ((ff.kp ab).ch ae (Ne.symm (nN (nL hgl (nT (z2 b a) h)))))
  refine st (vi (au)) [(vi (au))] [(vi (1 + (f))), (vi 0), (vs a3 (a0).length a4), (vs aA (a5).length aB), (vi (au)), (vs none 0 0), (vs none 0 0), (vi 0), (vi 0), (vs none 0 0), (vs none 0 0)] wN sizeOf_3 fl ?_
  intro cO af fm ju
  have d0 := ChG.ext fk af (fun k hk => .inr (by subst hk; exact nT (z2 b a) h))
  refine nx ?_
  refine mw (vp g 0) ?_
  have fo := (fi.ch af (nN (nL hgl (nT (z2 b a) h))))
  refine cl wN (csl1Bytes cO g ca cc cb ⟨_, _, fo, (Rd.chP hcr d0 hcn), hcl, (by omega), hcn⟩ 16 (by omega)) ?_
  rintro _ db ⟨aG, aH, ⟨jv, jw, fp, jx, jy, jz, j0⟩, ⟨aK, aL, rfl, aI, fq, j1⟩, j2⟩
  have fr := ChG.ext d0 aH (fun k hk => .inl hk)
  refine pu (vp M 5) wN ?_
  have fs := (fm.ch aH (Ne.symm (nN (nL hgl (nT (z2 b a) h)))))
  refine st (vs aK (aG).length aL) [(vs aK (aG).length aL)] [(vi (1 + (f))), (vi 0), (vs a3 (a0).length a4), (vs aA (a5).length aB), (vi (au)), (vs aK (aG).length aL), (vs none 0 0), (vi 0), (vi 0), (vs none 0 0), (vs none 0 0)] wN sizeOf_22 fs ?_
  intro cP a6 d1 j3
  have d2 := ChG.ext fr a6 (fun k hk => .inr (by subst hk; exact nT (z2 b a) h))
  refine nx ?_
  refine pu (vp M 0) wN ?_
  refine ld (vi (1 + (f))) wN isAgg_3 d1 ?_
  refine pu (vb (decide ((1 + (f)) = 3))) wN ?_
  refine n2 ?_
  refine ct bA ?_
  refine sr ?_
  refine mw (vp g 0) ?_
  have ft := (fp.ch a6 (nN (nL hgl (nT (z2 b a) h))))
  refine cl wN (csl1Below cP g ca cc cb ⟨_, _, ft, (Rd.chP hcr d2 hcn), hcl, (by omega), hcn⟩ 9) ?_
  rintro _ de ⟨aJ, a7, ⟨j4, j5, fu, j6, j7, j8, j9⟩, rfl, jA⟩
  have fv := ChG.ext d2 a7 (fun k hk => .inl hk)
  refine ar (1 + (aJ)) wN ?_
  refine pu (vp M 1) wN ?_
  have fw := (d1.ch a7 (Ne.symm (nN (nL hgl (nT (z2 b a) h)))))
  refine st (vi (1 + (aJ))) [(vi (1 + (aJ)))] [(vi (1 + (f))), (vi (1 + (aJ))), (vs a3 (a0).length a4), (vs aA (a5).length aB), (vi (au)), (vs aK (aG).length aL), (vs none 0 0), (vi 0), (vi 0), (vs none 0 0), (vs none 0 0)] wN sizeOf_3 fw ?_
  intro cg a8 fx jC
  have d3 := ChG.ext fv a8 (fun k hk => .inr (by subst hk; exact nT (z2 b a) h))
  refine wl_nil <| wq_then <| wc_region ?_
  refine mw (vp g 0) ?_
  have fy := (fu.ch a8 (nN (nL hgl (nT (z2 b a) h))))
  refine cl wN (csl1Bytes cg g ca cc cb ⟨_, _, fy, (Rd.chP hcr d3 hcn), hcl, (by omega), hcn⟩ 16 (by omega)) ?_
  rintro _ aP ⟨aR, bB, ⟨jD, jE, fz, jF, jG, jH, jI⟩, ⟨bh, bi, rfl, bC, f0, jJ⟩, jK⟩
  have f3 := ChG.ext d3 bB (fun k hk => .inl hk)
  refine pu (vp M 6) wN ?_
  have f4 := (fx.ch bB (Ne.symm (nN (nL hgl (nT (z2 b a) h)))))
  refine st (vs bh (aR).length bi) [(vs bh (aR).length bi)] [(vi (1 + (f))), (vi (1 + (aJ))), (vs a3 (a0).length a4), (vs aA (a5).length aB), (vi (au)), (vs aK (aG).length aL), (vs bh (aR).length bi), (vi 0), (vi 0), (vs none 0 0), (vs none 0 0)] wN sizeOf_22 f4 ?_
  intro bc bj f5 jL
  have f6 := ChG.ext f3 bj (fun k hk => .inr (by subst hk; exact nT (z2 b a) h))
  refine wl_nil <| wq_blk_normal <| wq_then <| sr ?_
  refine lN [(vi (1 + (f))), (vi (1 + (aJ))), (vs a3 (a0).length a4), (vs aA (a5).length aB), (vi (au)), (vs aK (aG).length aL), (vs bh (aR).length bi), (vi 0), (vi 0), (vs none 0 0), (vs none 0 0)] wN isAgg_40 sizeOf_40 f5 ?_
  have bk := nL E (nT a.size h)
  have f7 := ((((((((((((((((aD.ch a (Ne.symm (nN (nL hgl (i))))).kp e).ch d (nN bk)).ch aj (Ne.symm (nN (nL hgl (i))))).ch Y (nN bk)).ch aq (Ne.symm (nN (nL hgl (i))))).ch aa (nN bk)).kp ab).ch ae (Ne.symm (nN (nL hgl (i))))).ch af (nN bk)).ch aH (Ne.symm (nN (nL hgl (i))))).ch a6 (nN bk)).ch a7 (Ne.symm (nN (nL hgl (i))))).ch a8 (nN bk)).ch bB (Ne.symm (nN (nL hgl (i))))).ch bj (nN bk))
  refine sv [(vi (1 + (f))), (vi (1 + (aJ))), (vs a3 (a0).length a4), (vs aA (a5).length aB), (vi (au)), (vs aK (aG).length aL), (vs bh (aR).length bi), (vi 0), (vi 0), (vs none 0 0), (vs none 0 0)] wN sizeOf_40 f7 ?_
  intro bg bD f8 jM
  have d4 := ChG.ext f6 bD (fun k hk => .inr (by subst hk; exact i))
  refine n3 ?_
  have bE := nL H d.size
  have f9 := (own_ch (own_ch (own_ch (own_ch (own_ch (own_ch (own_ch (own_ch (own_ch (own_kp (own_ch (own_ch (own_ch ak Y (ne1 ak bE)) aq (ne1 ak (nL hgl (z4 b a e d)))) aa (ne1 ak bE)) ab) ae (ne1 ak (nL hgl (z4 b a e d)))) af (ne1 ak bE)) aH (ne1 ak (nL hgl (z4 b a e d)))) a6 (ne1 ak bE)) a7 (ne1 ak (nL hgl (z4 b a e d)))) a8 (ne1 ak bE)) bB (ne1 ak (nL hgl (z4 b a e d)))) bj (ne1 ak bE)) bD (ne1 ak (nL E (z3 a e d))))
  have ck := nL H (z3 d aj Y)
  have cS := z6 b a e d aj Y
  have fA := (own_ch (own_ch (own_ch (own_ch (own_ch (own_ch (own_ch (own_ch (own_ch (own_kp (own_ch av aa (ne1 av ck)) ab) ae (ne1 av (nL hgl cS))) af (ne1 av ck)) aH (ne1 av (nL hgl cS))) a6 (ne1 av ck)) a7 (ne1 av (nL hgl cS))) a8 (ne1 av ck)) bB (ne1 av (nL hgl cS))) bj (ne1 av ck)) bD (ne1 av (nL E (z5 a e d aj Y))))
  have dh := nL H (z8 d aj Y aq aa ab ae af)
  have fB := (own_ch (own_ch (own_ch (own_ch (own_ch (own_ch aI a6 (ne1 aI dh)) a7 (ne1 aI (nL hgl (z11 b a e d aj Y aq aa ab ae af)))) a8 (ne1 aI dh)) bB (ne1 aI (nL hgl (z11 b a e d aj Y aq aa ab ae af)))) bj (ne1 aI dh)) bD (ne1 aI (nL E (z10 a e d aj Y aq aa ab ae af))))
  have fC := (own_ch (own_ch bC bj (ne1 bC (nL H (z12 d aj Y aq aa ab ae af aH a6 a7 a8)))) bD (ne1 bC (nL E (t3 (z12 a e d aj Y aq aa ab ae af aH a6) a7.size a8.size))))
  refine ret_1 (.inl rfl) (va [(vi (1 + (f))), (vi (1 + (aJ))), (vs a3 (a0).length a4), (vs aA (a5).length aB), (vi (au)), (vs aK (aG).length aL), (vs bh (aR).length bi), (vi 0), (vi 0), (vs none 0 0), (vs none 0 0)]) rfl (rv_c [(vi (1 + (f))), (vi (1 + (aJ))), (vs a3 (a0).length a4), (vs aA (a5).length aB), (vi (au)), (vs aK (aG).length aL), (vs bh (aR).length bi), (vi 0), (vi 0), (vs none 0 0), (vs none 0 0)] rfl f8 isAgg_40 sizeOf_40) ?_
  have fD := ((fz.ch bj (nN (nL hgl (nT (z2 b a) h)))).ch bD (nN (nL hgl (i))))
  exact ⟨{ Kind := (1 + (f)), Id := (1 + (aJ)), Cn := (a0), Sn := (a5), Tick := (au), Cookie := (aG), Proof := (aR), Epoch := 0, Seq := 0, Body := [], Tag := [] : PFrame }, d4, ⟨_, _, fD, (Rd.chP hcr d4 hcn), hcl, (by omega), hcn⟩, ⟨_, _, _, _, _, _, _, _, _, _, _, _, rfl, (own_lo f9 (z4 b a e d)), eW, (own_lo fA (z6 b a e d aj Y)), fc, (own_lo fB (z11 b a e d aj Y aq aa ab ae af)), fq, (own_lo fC (t4 (z12 b a e d aj Y aq aa ab ae af aH) a6.size a7.size a8.size)), f0, (by first | exact own_nil _ _ _ _ | exact OLv.nil _ _ _ _), (by simp), (by first | exact own_nil _ _ _ _ | exact OLv.nil _ _ _ _), (by simp), ⟨⟨(Ap.lt ak av Y.size), ⟨(Ap.lt ak aI (z6 Y aq aa ab ae af)), ⟨(Ap.lt ak bC (z10 Y aq aa ab ae af aH a6 a7 a8)), ⟨(Ap.nr _), ⟨(Ap.nr _), trivial⟩⟩⟩⟩⟩, ⟨⟨(Ap.lt av aI (z4 aa ab ae af)), ⟨(Ap.lt av bC (z8 aa ab ae af aH a6 a7 a8)), ⟨(Ap.nr _), ⟨(Ap.nr _), trivial⟩⟩⟩⟩, ⟨⟨(Ap.lt aI bC (z3 a6 a7 a8)), ⟨(Ap.nr _), ⟨(Ap.nr _), trivial⟩⟩⟩, ⟨⟨(Ap.nr _), ⟨(Ap.nr _), trivial⟩⟩, ⟨⟨(Ap.nl _), trivial⟩, ⟨trivial, trivial⟩⟩⟩⟩⟩⟩⟩, trivial⟩
 have jN := dF bA
 refine cf bA ?_
 refine sr ?_
 refine mw (vp g 0) ?_
 have fE := ((cI.kp e).ch d (nN (nL hgl (nT (z2 b a) h))))
 refine cl wN (csl1Bytes cJ g ca cc cb ⟨_, _, fE, (Rd.chP hcr aN hcn), hcl, (by omega), hcn⟩ 12 (by omega)) ?_
 rintro _ cU ⟨D, t, ⟨jO, jP, fF, jQ, jR, jS, jT⟩, ⟨I, J, rfl, j, bF, jU⟩, jV⟩
 have fG := ChG.ext aN t (fun k hk => .inl hk)
 refine pu (vp M 3) wN ?_
 have fH := (bW.ch t (Ne.symm (nN (nL hgl (nT (z2 b a) h)))))
 refine st (vs I (D).length J) [(vs I (D).length J)] [(vi (1 + (f))), (vi 0), (vs none 0 0), (vs I (D).length J), (vi 0), (vs none 0 0), (vs none 0 0), (vi 0), (vi 0), (vs none 0 0), (vs none 0 0)] wN sizeOf_22 fH ?_
 intro b3 l fI jW
 have fJ := ChG.ext fG l (fun k hk => .inr (by subst hk; exact nT (z2 b a) h))
 refine nx ?_
 refine mw (vp g 0) ?_
 refine ltI ([0, 1, 2, 4294967295] : List Int) wN slTy_67 ?_
 intro jX jY cK m d5
 have d6 := ChG.extk fJ m
 have fK := ((fF.ch l (nN (nL hgl (nT (z2 b a) h)))).kp m)
 refine cl wN (csl1Int cK g ca cc cb ⟨_, _, fK, (Rd.chP hcr d6 hcn), hcl, (by omega), hcn⟩ _ ([0, 1, 2, 4294967295] : List Int) ⟨_, _, rfl, (Rd.of_own d5), (by simp), (fun _ z hz => by have cM := (own_lt d5 z.block (by rw [hz]; rfl)).1; have cN := nL hgl (z6 b a e d t l); omega)⟩ (by simp)) ?_
 rintro _ cX ⟨B, o, ⟨jZ, ka, fL, kb, kc, kd, ke⟩, rfl, fM⟩
 have fN := ChG.ext d6 o (fun k hk => .inl hk)
 have q413m : B = 0 ∨ B = 1 ∨ B = 2 ∨ B = 4294967295 := by simpa only [List.mem_cons, List.not_mem_nil, or_false] using fM
 refine pu (vp M 7) wN ?_
 have fO := ((fI.kp m).ch o (Ne.symm (nN (nL hgl (nT (z2 b a) h)))))
 refine st (vi (B)) [(vi (B))] [(vi (1 + (f))), (vi 0), (vs none 0 0), (vs I (D).length J), (vi 0), (vs none 0 0), (vs none 0 0), (vi (B)), (vi 0), (vs none 0 0), (vs none 0 0)] wN sizeOf_3 fO ?_
 intro bY p fP kf
 have fQ := ChG.ext fN p (fun k hk => .inr (by subst hk; exact nT (z2 b a) h))
 refine nx ?_
 refine mw (vp g 0) ?_
 refine ltI ([0, 1, 70000, 281474976710655] : List Int) wN slTy_67 ?_
 intro kg kh da q d7
 have d8 := ChG.extk fQ q
 have fR := ((fL.ch p (nN (nL hgl (nT (z2 b a) h)))).kp q)
 refine cl wN (csl1Int da g ca cc cb ⟨_, _, fR, (Rd.chP hcr d8 hcn), hcl, (by omega), hcn⟩ _ ([0, 1, 70000, 281474976710655] : List Int) ⟨_, _, rfl, (Rd.of_own d7), (by simp), (fun _ z hz => by have cM := (own_lt d7 z.block (by rw [hz]; rfl)).1; have cN := nL hgl (z9 b a e d t l m o p); omega)⟩ (by simp)) ?_
 rintro _ cO ⟨C, r, ⟨ki, kj, fS, kk, kl, km, kn⟩, rfl, fT⟩
 have fU := ChG.ext d8 r (fun k hk => .inl hk)
 have q436m : C = 0 ∨ C = 1 ∨ C = 70000 ∨ C = 281474976710655 := by simpa only [List.mem_cons, List.not_mem_nil, or_false] using fT
 refine pu (vp M 8) wN ?_
 have fV := ((fP.kp q).ch r (Ne.symm (nN (nL hgl (nT (z2 b a) h)))))
 refine st (vi (C)) [(vi (C))] [(vi (1 + (f))), (vi 0), (vs none 0 0), (vs I (D).length J), (vi 0), (vs none 0 0), (vs none 0 0), (vi (B)), (vi (C)), (vs none 0 0), (vs none 0 0)] wN sizeOf_3 fV ?_
 intro db s fW ko
 have d9 := ChG.ext fU s (fun k hk => .inr (by subst hk; exact nT (z2 b a) h))
 refine nx ?_
 refine mw (vp g 0) ?_
 have fX := (fS.ch s (nN (nL hgl (nT (z2 b a) h))))
 refine cl wN (csl1Bytes db g ca cc cb ⟨_, _, fX, (Rd.chP hcr d9 hcn), hcl, (by omega), hcn⟩ 16 (by omega)) ?_
 rintro _ cP ⟨F, G, ⟨kq, kr, fY, ks, kt, ku, kv⟩, ⟨K, L, rfl, A, bG, kx⟩, ky⟩
 have fZ := ChG.ext d9 G (fun k hk => .inl hk)
 refine pu (vp M 10) wN ?_
 have ga := (fW.ch G (Ne.symm (nN (nL hgl (nT (z2 b a) h)))))
 refine st (vs K (F).length L) [(vs K (F).length L)] [(vi (1 + (f))), (vi 0), (vs none 0 0), (vs I (D).length J), (vi 0), (vs none 0 0), (vs none 0 0), (vi (B)), (vi (C)), (vs none 0 0), (vs K (F).length L)] wN sizeOf_22 ga ?_
 intro de u gb kz
 have gd := ChG.ext fZ u (fun k hk => .inr (by subst hk; exact nT (z2 b a) h))
 refine nx ?_
 refine mw (vp g 0) ?_
 refine ltI ([0, 1, 12, 40] : List Int) wN slTy_67 ?_
 intro k1 k2 cg w dA
 have dB := ChG.extk gd w
 have ge := ((fY.ch u (nN (nL hgl (nT (z2 b a) h)))).kp w)
 refine cl wN (csl1Int cg g ca cc cb ⟨_, _, ge, (Rd.chP hcr dB hcn), hcl, (by omega), hcn⟩ _ ([0, 1, 12, 40] : List Int) ⟨_, _, rfl, (Rd.of_own dA), (by simp), (fun _ z hz => by have cM := (own_lt dA z.block (by rw [hz]; rfl)).1; have cN := nL hgl (t3 (z12 b a e d t l m o p q r s) G.size u.size); omega)⟩ (by simp)) ?_
 rintro _ aP ⟨bl, y, ⟨k3, k4, bH, k5, k6, k7, k8⟩, rfl, gf⟩
 have a9 := ChG.ext dB y (fun k hk => .inl hk)
 have q482m : bl = 0 ∨ bl = 1 ∨ bl = 12 ∨ bl = 40 := by simpa only [List.mem_cons, List.not_mem_nil, or_false] using gf
 refine aw (vi (bl)) ?_
 refine n4 ?_
 refine pu (vp M 0) wN ?_
 have aC := ((gb.kp w).ch y (Ne.symm (nN (nL hgl (nT (z2 b a) h)))))
 refine ld (vi (1 + (f))) wN isAgg_3 aC ?_
 refine pu (vb (decide ((1 + (f)) = 5))) wN ?_
 refine mw (vb (decide ((1 + (f)) = 5))) ?_
 rcases bt (decide ((1 + (f)) = 5)) with aM | aM
 ·have k9 := dT aM
  iterate 3 refine sk aM ?_
  refine pk (vb true) wN aM ?_
  refine n2 ?_
  refine ct (Eq.refl true) ?_
  refine wc_region ?_
  refine aw (vi 12) ?_
  refine n4 ?_
  refine pu (vp M 0) wN ?_
  refine ld (vi (1 + (f))) wN isAgg_3 aC ?_
  refine pu (vb (decide (7 ≤ (1 + (f))))) wN ?_
  refine n2 ?_
  rcases bf (decide (7 ≤ (1 + (f)))) with cm | cm
  ·have kA := dF cm
   refine cf cm ?_
   refine wc_skip <| wq_then <| wc_region ?_
   refine mw (vp g 0) ?_
   refine mw (vi 12) ?_
   refine cl wN (csl1Bytes aP g ca cc cb ⟨_, _, bH, (Rd.chP hcr a9 hcn), hcl, (by omega), hcn⟩ 12 (by omega)) ?_
   rintro _ bc ⟨aS, cn, ⟨kB, kC, gg, kD, kE, kF, kG⟩, ⟨bm, bn, rfl, co, gh, kH⟩, kI⟩
   have gi := ChG.ext a9 cn (fun k hk => .inl hk)
   refine pu (vp M 9) wN ?_
   have gj := (aC.ch cn (Ne.symm (nN (nL hgl (nT (z2 b a) h)))))
   refine st (vs bm (aS).length bn) [(vs bm (aS).length bn)] [(vi (1 + (f))), (vi 0), (vs none 0 0), (vs I (D).length J), (vi 0), (vs none 0 0), (vs none 0 0), (vi (B)), (vi (C)), (vs bm (aS).length bn), (vs K (F).length L)] wN sizeOf_22 gj ?_
   intro bg bI gk kJ
   have gl := ChG.ext gi bI (fun k hk => .inr (by subst hk; exact nT (z2 b a) h))
   refine wl_nil <| wq_blk_normal <| wq_then <| sr ?_
   refine lN [(vi (1 + (f))), (vi 0), (vs none 0 0), (vs I (D).length J), (vi 0), (vs none 0 0), (vs none 0 0), (vi (B)), (vi (C)), (vs bm (aS).length bn), (vs K (F).length L)] wN isAgg_40 sizeOf_40 gk ?_
   have bJ := nL E (nT a.size h)
   have gm := (((((((((((((((((aD.ch a (Ne.symm (nN (nL hgl (i))))).kp e).ch d (nN bJ)).ch t (Ne.symm (nN (nL hgl (i))))).ch l (nN bJ)).kp m).ch o (Ne.symm (nN (nL hgl (i))))).ch p (nN bJ)).kp q).ch r (Ne.symm (nN (nL hgl (i))))).ch s (nN bJ)).ch G (Ne.symm (nN (nL hgl (i))))).ch u (nN bJ)).kp w).ch y (Ne.symm (nN (nL hgl (i))))).ch cn (Ne.symm (nN (nL hgl (i))))).ch bI (nN bJ))
   refine sv [(vi (1 + (f))), (vi 0), (vs none 0 0), (vs I (D).length J), (vi 0), (vs none 0 0), (vs none 0 0), (vi (B)), (vi (C)), (vs bm (aS).length bn), (vs K (F).length L)] wN sizeOf_40 gm ?_
   intro cp cq gn kK
   have dC := ChG.ext gl cq (fun k hk => .inr (by subst hk; exact i))
   refine n3 ?_
   have cr := nL H d.size
   have gp := (own_ch (own_ch (own_ch (own_ch (own_kp (own_ch (own_ch (own_ch (own_ch (own_kp (own_ch (own_ch (own_kp (own_ch j l (ne1 j cr)) m) o (ne1 j (nL hgl (z4 b a e d)))) p (ne1 j cr)) q) r (ne1 j (nL hgl (z4 b a e d)))) s (ne1 j cr)) G (ne1 j (nL hgl (z4 b a e d)))) u (ne1 j cr)) w) y (ne1 j (nL hgl (z4 b a e d)))) cn (ne1 j (nL hgl (z4 b a e d)))) bI (ne1 j cr)) cq (ne1 j (nL E (z3 a e d))))
   have gq := (own_ch (own_ch co bI (ne1 co (nL H (nT (z12 d t l m o p q r s G u w) y.size)))) cq (ne1 co (nL E (t4 (z12 a e d t l m o p q r s G) u.size w.size y.size))))
   have gr := (own_ch (own_ch (own_ch (own_ch (own_kp (own_ch A u (ne1 A (nL H (z9 d t l m o p q r s)))) w) y (ne1 A (nL hgl (z12 b a e d t l m o p q r s)))) cn (ne1 A (nL hgl (z12 b a e d t l m o p q r s)))) bI (ne1 A (nL H (z9 d t l m o p q r s)))) cq (ne1 A (nL E (z11 a e d t l m o p q r s))))
   refine ret_1 (.inl rfl) (va [(vi (1 + (f))), (vi 0), (vs none 0 0), (vs I (D).length J), (vi 0), (vs none 0 0), (vs none 0 0), (vi (B)), (vi (C)), (vs bm (aS).length bn), (vs K (F).length L)]) rfl (rv_c [(vi (1 + (f))), (vi 0), (vs none 0 0), (vs I (D).length J), (vi 0), (vs none 0 0), (vs none 0 0), (vi (B)), (vi (C)), (vs bm (aS).length bn), (vs K (F).length L)] rfl gn isAgg_40 sizeOf_40) ?_
   have gs := ((gg.ch bI (nN (nL hgl (nT (z2 b a) h)))).ch cq (nN (nL hgl (i))))
   exact ⟨{ Kind := (1 + (f)), Id := 0, Cn := [], Sn := (D), Tick := 0, Cookie := [], Proof := [], Epoch := (B), Seq := (C), Body := (aS), Tag := (F) : PFrame }, dC, ⟨_, _, gs, (Rd.chP hcr dC hcn), hcl, (by omega), hcn⟩, ⟨_, _, _, _, _, _, _, _, _, _, _, _, rfl, (by first | exact own_nil _ _ _ _ | exact OLv.nil _ _ _ _), (by simp), (own_lo gp (z4 b a e d)), bF, (by first | exact own_nil _ _ _ _ | exact OLv.nil _ _ _ _), (by simp), (by first | exact own_nil _ _ _ _ | exact OLv.nil _ _ _ _), (by simp), (own_lo gq (t5 (z12 b a e d t l m o p q r s) G.size u.size w.size y.size)), gh, (own_lo gr (z12 b a e d t l m o p q r s)), bG, ⟨⟨(Ap.nl _), ⟨(Ap.nl _), ⟨(Ap.nl _), ⟨(Ap.nl _), ⟨(Ap.nl _), trivial⟩⟩⟩⟩⟩, ⟨⟨(Ap.nr _), ⟨(Ap.nr _), ⟨(Ap.lt j co (z11 l m o p q r s G u w y)), ⟨(Ap.lt j A (z7 l m o p q r s)), trivial⟩⟩⟩⟩, ⟨⟨(Ap.nl _), ⟨(Ap.nl _), ⟨(Ap.nl _), trivial⟩⟩⟩, ⟨⟨(Ap.nl _), ⟨(Ap.nl _), trivial⟩⟩, ⟨⟨(Ap.lt A co (z3 u w y)).symm, trivial⟩, ⟨trivial, trivial⟩⟩⟩⟩⟩⟩⟩, trivial⟩
  have kL := dT cm
  refine ct cm ?_
  refine wc_region ?_
  refine aw (vi 4) ?_
  refine wl_nil <| wq_then <| wc_region ?_
  refine mw (vp g 0) ?_
  refine mw (vi 4) ?_
  refine cl wN (csl1Bytes aP g ca cc cb ⟨_, _, bH, (Rd.chP hcr a9 hcn), hcl, (by omega), hcn⟩ 4 (by omega)) ?_
  rintro _ bc ⟨aT, cs, ⟨kM, kN, gt, kO, kP, kQ, kR⟩, ⟨bo, bp, rfl, cu, gu, kS⟩, kT⟩
  have gv := ChG.ext a9 cs (fun k hk => .inl hk)
  refine pu (vp M 9) wN ?_
  have gw := (aC.ch cs (Ne.symm (nN (nL hgl (nT (z2 b a) h)))))
  refine st (vs bo (aT).length bp) [(vs bo (aT).length bp)] [(vi (1 + (f))), (vi 0), (vs none 0 0), (vs I (D).length J), (vi 0), (vs none 0 0), (vs none 0 0), (vi (B)), (vi (C)), (vs bo (aT).length bp), (vs K (F).length L)] wN sizeOf_22 gw ?_
  intro bg bK gx kU
  have gy := ChG.ext gv bK (fun k hk => .inr (by subst hk; exact nT (z2 b a) h))
  refine wl_nil <| wq_blk_normal <| wq_then <| sr ?_
  refine lN [(vi (1 + (f))), (vi 0), (vs none 0 0), (vs I (D).length J), (vi 0), (vs none 0 0), (vs none 0 0), (vi (B)), (vi (C)), (vs bo (aT).length bp), (vs K (F).length L)] wN isAgg_40 sizeOf_40 gx ?_
  have bL := nL E (nT a.size h)
  have gz := (((((((((((((((((aD.ch a (Ne.symm (nN (nL hgl (i))))).kp e).ch d (nN bL)).ch t (Ne.symm (nN (nL hgl (i))))).ch l (nN bL)).kp m).ch o (Ne.symm (nN (nL hgl (i))))).ch p (nN bL)).kp q).ch r (Ne.symm (nN (nL hgl (i))))).ch s (nN bL)).ch G (Ne.symm (nN (nL hgl (i))))).ch u (nN bL)).kp w).ch y (Ne.symm (nN (nL hgl (i))))).ch cs (Ne.symm (nN (nL hgl (i))))).ch bK (nN bL))
  refine sv [(vi (1 + (f))), (vi 0), (vs none 0 0), (vs I (D).length J), (vi 0), (vs none 0 0), (vs none 0 0), (vi (B)), (vi (C)), (vs bo (aT).length bp), (vs K (F).length L)] wN sizeOf_40 gz ?_
  intro cp cv g0 kV
  have dD := ChG.ext gy cv (fun k hk => .inr (by subst hk; exact i))
  refine n3 ?_
  have cw := nL H d.size
  have g1 := (own_ch (own_ch (own_ch (own_ch (own_kp (own_ch (own_ch (own_ch (own_ch (own_kp (own_ch (own_ch (own_kp (own_ch j l (ne1 j cw)) m) o (ne1 j (nL hgl (z4 b a e d)))) p (ne1 j cw)) q) r (ne1 j (nL hgl (z4 b a e d)))) s (ne1 j cw)) G (ne1 j (nL hgl (z4 b a e d)))) u (ne1 j cw)) w) y (ne1 j (nL hgl (z4 b a e d)))) cs (ne1 j (nL hgl (z4 b a e d)))) bK (ne1 j cw)) cv (ne1 j (nL E (z3 a e d))))
  have g2 := (own_ch (own_ch cu bK (ne1 cu (nL H (nT (z12 d t l m o p q r s G u w) y.size)))) cv (ne1 cu (nL E (t4 (z12 a e d t l m o p q r s G) u.size w.size y.size))))
  have g3 := (own_ch (own_ch (own_ch (own_ch (own_kp (own_ch A u (ne1 A (nL H (z9 d t l m o p q r s)))) w) y (ne1 A (nL hgl (z12 b a e d t l m o p q r s)))) cs (ne1 A (nL hgl (z12 b a e d t l m o p q r s)))) bK (ne1 A (nL H (z9 d t l m o p q r s)))) cv (ne1 A (nL E (z11 a e d t l m o p q r s))))
  refine ret_1 (.inl rfl) (va [(vi (1 + (f))), (vi 0), (vs none 0 0), (vs I (D).length J), (vi 0), (vs none 0 0), (vs none 0 0), (vi (B)), (vi (C)), (vs bo (aT).length bp), (vs K (F).length L)]) rfl (rv_c [(vi (1 + (f))), (vi 0), (vs none 0 0), (vs I (D).length J), (vi 0), (vs none 0 0), (vs none 0 0), (vi (B)), (vi (C)), (vs bo (aT).length bp), (vs K (F).length L)] rfl g0 isAgg_40 sizeOf_40) ?_
  have g4 := ((gt.ch bK (nN (nL hgl (nT (z2 b a) h)))).ch cv (nN (nL hgl (i))))
  exact ⟨{ Kind := (1 + (f)), Id := 0, Cn := [], Sn := (D), Tick := 0, Cookie := [], Proof := [], Epoch := (B), Seq := (C), Body := (aT), Tag := (F) : PFrame }, dD, ⟨_, _, g4, (Rd.chP hcr dD hcn), hcl, (by omega), hcn⟩, ⟨_, _, _, _, _, _, _, _, _, _, _, _, rfl, (by first | exact own_nil _ _ _ _ | exact OLv.nil _ _ _ _), (by simp), (own_lo g1 (z4 b a e d)), bF, (by first | exact own_nil _ _ _ _ | exact OLv.nil _ _ _ _), (by simp), (by first | exact own_nil _ _ _ _ | exact OLv.nil _ _ _ _), (by simp), (own_lo g2 (t5 (z12 b a e d t l m o p q r s) G.size u.size w.size y.size)), gu, (own_lo g3 (z12 b a e d t l m o p q r s)), bG, ⟨⟨(Ap.nl _), ⟨(Ap.nl _), ⟨(Ap.nl _), ⟨(Ap.nl _), ⟨(Ap.nl _), trivial⟩⟩⟩⟩⟩, ⟨⟨(Ap.nr _), ⟨(Ap.nr _), ⟨(Ap.lt j cu (z11 l m o p q r s G u w y)), ⟨(Ap.lt j A (z7 l m o p q r s)), trivial⟩⟩⟩⟩, ⟨⟨(Ap.nl _), ⟨(Ap.nl _), ⟨(Ap.nl _), trivial⟩⟩⟩, ⟨⟨(Ap.nl _), ⟨(Ap.nl _), trivial⟩⟩, ⟨⟨(Ap.lt A cu (z3 u w y)).symm, trivial⟩, ⟨trivial, trivial⟩⟩⟩⟩⟩⟩⟩, trivial⟩
 have kW := dF aM
 refine pu (vp M 0) (wS aM) ?_
 refine ld (vi (1 + (f))) (wS aM) isAgg_3 aC ?_
 refine pu (vb (decide ((1 + (f)) = 6))) (wS aM) ?_
 refine pf (vb (decide ((1 + (f)) = 6))) wN aM ?_
 refine n2 ?_
 rcases bf (decide ((1 + (f)) = 6)) with cx | cx
 ·have kX := dF cx
  refine cf cx ?_
  refine y2 ?_
  refine pu (vp M 0) wN ?_
  refine ld (vi (1 + (f))) wN isAgg_3 aC ?_
  refine pu (vb (decide (7 ≤ (1 + (f))))) wN ?_
  refine n2 ?_
  rcases bf (decide (7 ≤ (1 + (f)))) with cy | cy
  ·have kY := dF cy
   refine cf cy ?_
   refine wc_skip <| wq_then <| wc_region ?_
   refine mw (vp g 0) ?_
   refine mw (vi (bl)) ?_
   refine cl wN (csl1Bytes aP g ca cc cb ⟨_, _, bH, (Rd.chP hcr a9 hcn), hcl, (by omega), hcn⟩ (bl) (by omega)) ?_
   rintro _ bc ⟨aU, cz, ⟨kZ, la, g5, lb, lc, lf, lg⟩, ⟨bq, br, rfl, c0, g6, lh⟩, li⟩
   have g7 := ChG.ext a9 cz (fun k hk => .inl hk)
   refine pu (vp M 9) wN ?_
   have g8 := (aC.ch cz (Ne.symm (nN (nL hgl (nT (z2 b a) h)))))
   refine st (vs bq (aU).length br) [(vs bq (aU).length br)] [(vi (1 + (f))), (vi 0), (vs none 0 0), (vs I (D).length J), (vi 0), (vs none 0 0), (vs none 0 0), (vi (B)), (vi (C)), (vs bq (aU).length br), (vs K (F).length L)] wN sizeOf_22 g8 ?_
   intro bg bM g9 lj
   have gA := ChG.ext g7 bM (fun k hk => .inr (by subst hk; exact nT (z2 b a) h))
   refine wl_nil <| wq_blk_normal <| wq_then <| sr ?_
   refine lN [(vi (1 + (f))), (vi 0), (vs none 0 0), (vs I (D).length J), (vi 0), (vs none 0 0), (vs none 0 0), (vi (B)), (vi (C)), (vs bq (aU).length br), (vs K (F).length L)] wN isAgg_40 sizeOf_40 g9 ?_
   have bN := nL E (nT a.size h)
   have gB := (((((((((((((((((aD.ch a (Ne.symm (nN (nL hgl (i))))).kp e).ch d (nN bN)).ch t (Ne.symm (nN (nL hgl (i))))).ch l (nN bN)).kp m).ch o (Ne.symm (nN (nL hgl (i))))).ch p (nN bN)).kp q).ch r (Ne.symm (nN (nL hgl (i))))).ch s (nN bN)).ch G (Ne.symm (nN (nL hgl (i))))).ch u (nN bN)).kp w).ch y (Ne.symm (nN (nL hgl (i))))).ch cz (Ne.symm (nN (nL hgl (i))))).ch bM (nN bN))
   refine sv [(vi (1 + (f))), (vi 0), (vs none 0 0), (vs I (D).length J), (vi 0), (vs none 0 0), (vs none 0 0), (vi (B)), (vi (C)), (vs bq (aU).length br), (vs K (F).length L)] wN sizeOf_40 gB ?_
   intro cp c1 gC lk
   have dE := ChG.ext gA c1 (fun k hk => .inr (by subst hk; exact i))
   refine n3 ?_
   have c2 := nL H d.size
   have gD := (own_ch (own_ch (own_ch (own_ch (own_kp (own_ch (own_ch (own_ch (own_ch (own_kp (own_ch (own_ch (own_kp (own_ch j l (ne1 j c2)) m) o (ne1 j (nL hgl (z4 b a e d)))) p (ne1 j c2)) q) r (ne1 j (nL hgl (z4 b a e d)))) s (ne1 j c2)) G (ne1 j (nL hgl (z4 b a e d)))) u (ne1 j c2)) w) y (ne1 j (nL hgl (z4 b a e d)))) cz (ne1 j (nL hgl (z4 b a e d)))) bM (ne1 j c2)) c1 (ne1 j (nL E (z3 a e d))))
   have gE := (own_ch (own_ch c0 bM (ne1 c0 (nL H (nT (z12 d t l m o p q r s G u w) y.size)))) c1 (ne1 c0 (nL E (t4 (z12 a e d t l m o p q r s G) u.size w.size y.size))))
   have gF := (own_ch (own_ch (own_ch (own_ch (own_kp (own_ch A u (ne1 A (nL H (z9 d t l m o p q r s)))) w) y (ne1 A (nL hgl (z12 b a e d t l m o p q r s)))) cz (ne1 A (nL hgl (z12 b a e d t l m o p q r s)))) bM (ne1 A (nL H (z9 d t l m o p q r s)))) c1 (ne1 A (nL E (z11 a e d t l m o p q r s))))
   refine ret_1 (.inl rfl) (va [(vi (1 + (f))), (vi 0), (vs none 0 0), (vs I (D).length J), (vi 0), (vs none 0 0), (vs none 0 0), (vi (B)), (vi (C)), (vs bq (aU).length br), (vs K (F).length L)]) rfl (rv_c [(vi (1 + (f))), (vi 0), (vs none 0 0), (vs I (D).length J), (vi 0), (vs none 0 0), (vs none 0 0), (vi (B)), (vi (C)), (vs bq (aU).length br), (vs K (F).length L)] rfl gC isAgg_40 sizeOf_40) ?_
   have gG := ((g5.ch bM (nN (nL hgl (nT (z2 b a) h)))).ch c1 (nN (nL hgl (i))))
   exact ⟨{ Kind := (1 + (f)), Id := 0, Cn := [], Sn := (D), Tick := 0, Cookie := [], Proof := [], Epoch := (B), Seq := (C), Body := (aU), Tag := (F) : PFrame }, dE, ⟨_, _, gG, (Rd.chP hcr dE hcn), hcl, (by omega), hcn⟩, ⟨_, _, _, _, _, _, _, _, _, _, _, _, rfl, (by first | exact own_nil _ _ _ _ | exact OLv.nil _ _ _ _), (by simp), (own_lo gD (z4 b a e d)), bF, (by first | exact own_nil _ _ _ _ | exact OLv.nil _ _ _ _), (by simp), (by first | exact own_nil _ _ _ _ | exact OLv.nil _ _ _ _), (by simp), (own_lo gE (t5 (z12 b a e d t l m o p q r s) G.size u.size w.size y.size)), g6, (own_lo gF (z12 b a e d t l m o p q r s)), bG, ⟨⟨(Ap.nl _), ⟨(Ap.nl _), ⟨(Ap.nl _), ⟨(Ap.nl _), ⟨(Ap.nl _), trivial⟩⟩⟩⟩⟩, ⟨⟨(Ap.nr _), ⟨(Ap.nr _), ⟨(Ap.lt j c0 (z11 l m o p q r s G u w y)), ⟨(Ap.lt j A (z7 l m o p q r s)), trivial⟩⟩⟩⟩, ⟨⟨(Ap.nl _), ⟨(Ap.nl _), ⟨(Ap.nl _), trivial⟩⟩⟩, ⟨⟨(Ap.nl _), ⟨(Ap.nl _), trivial⟩⟩, ⟨⟨(Ap.lt A c0 (z3 u w y)).symm, trivial⟩, ⟨trivial, trivial⟩⟩⟩⟩⟩⟩⟩, trivial⟩
  have ll := dT cy
  refine ct cy ?_
  refine wc_region ?_
  refine aw (vi 4) ?_
  refine wl_nil <| wq_then <| wc_region ?_
  refine mw (vp g 0) ?_
  refine mw (vi 4) ?_
  refine cl wN (csl1Bytes aP g ca cc cb ⟨_, _, bH, (Rd.chP hcr a9 hcn), hcl, (by omega), hcn⟩ 4 (by omega)) ?_
  rintro _ bc ⟨aV, c3, ⟨lm, lo, gH, lp, lq, lr, ls⟩, ⟨bu, bv, rfl, c4, gI, lu⟩, lv⟩
  have gJ := ChG.ext a9 c3 (fun k hk => .inl hk)
  refine pu (vp M 9) wN ?_
  have gK := (aC.ch c3 (Ne.symm (nN (nL hgl (nT (z2 b a) h)))))
  refine st (vs bu (aV).length bv) [(vs bu (aV).length bv)] [(vi (1 + (f))), (vi 0), (vs none 0 0), (vs I (D).length J), (vi 0), (vs none 0 0), (vs none 0 0), (vi (B)), (vi (C)), (vs bu (aV).length bv), (vs K (F).length L)] wN sizeOf_22 gK ?_
  intro bg bO gL lw
  have gM := ChG.ext gJ bO (fun k hk => .inr (by subst hk; exact nT (z2 b a) h))
  refine wl_nil <| wq_blk_normal <| wq_then <| sr ?_
  refine lN [(vi (1 + (f))), (vi 0), (vs none 0 0), (vs I (D).length J), (vi 0), (vs none 0 0), (vs none 0 0), (vi (B)), (vi (C)), (vs bu (aV).length bv), (vs K (F).length L)] wN isAgg_40 sizeOf_40 gL ?_
  have bP := nL E (nT a.size h)
  have gN := (((((((((((((((((aD.ch a (Ne.symm (nN (nL hgl (i))))).kp e).ch d (nN bP)).ch t (Ne.symm (nN (nL hgl (i))))).ch l (nN bP)).kp m).ch o (Ne.symm (nN (nL hgl (i))))).ch p (nN bP)).kp q).ch r (Ne.symm (nN (nL hgl (i))))).ch s (nN bP)).ch G (Ne.symm (nN (nL hgl (i))))).ch u (nN bP)).kp w).ch y (Ne.symm (nN (nL hgl (i))))).ch c3 (Ne.symm (nN (nL hgl (i))))).ch bO (nN bP))
  refine sv [(vi (1 + (f))), (vi 0), (vs none 0 0), (vs I (D).length J), (vi 0), (vs none 0 0), (vs none 0 0), (vi (B)), (vi (C)), (vs bu (aV).length bv), (vs K (F).length L)] wN sizeOf_40 gN ?_
  intro cp c5 gO lx
  have dG := ChG.ext gM c5 (fun k hk => .inr (by subst hk; exact i))
  refine n3 ?_
  have c6 := nL H d.size
  have gP := (own_ch (own_ch (own_ch (own_ch (own_kp (own_ch (own_ch (own_ch (own_ch (own_kp (own_ch (own_ch (own_kp (own_ch j l (ne1 j c6)) m) o (ne1 j (nL hgl (z4 b a e d)))) p (ne1 j c6)) q) r (ne1 j (nL hgl (z4 b a e d)))) s (ne1 j c6)) G (ne1 j (nL hgl (z4 b a e d)))) u (ne1 j c6)) w) y (ne1 j (nL hgl (z4 b a e d)))) c3 (ne1 j (nL hgl (z4 b a e d)))) bO (ne1 j c6)) c5 (ne1 j (nL E (z3 a e d))))
  have gQ := (own_ch (own_ch c4 bO (ne1 c4 (nL H (nT (z12 d t l m o p q r s G u w) y.size)))) c5 (ne1 c4 (nL E (t4 (z12 a e d t l m o p q r s G) u.size w.size y.size))))
  have gR := (own_ch (own_ch (own_ch (own_ch (own_kp (own_ch A u (ne1 A (nL H (z9 d t l m o p q r s)))) w) y (ne1 A (nL hgl (z12 b a e d t l m o p q r s)))) c3 (ne1 A (nL hgl (z12 b a e d t l m o p q r s)))) bO (ne1 A (nL H (z9 d t l m o p q r s)))) c5 (ne1 A (nL E (z11 a e d t l m o p q r s))))
  refine ret_1 (.inl rfl) (va [(vi (1 + (f))), (vi 0), (vs none 0 0), (vs I (D).length J), (vi 0), (vs none 0 0), (vs none 0 0), (vi (B)), (vi (C)), (vs bu (aV).length bv), (vs K (F).length L)]) rfl (rv_c [(vi (1 + (f))), (vi 0), (vs none 0 0), (vs I (D).length J), (vi 0), (vs none 0 0), (vs none 0 0), (vi (B)), (vi (C)), (vs bu (aV).length bv), (vs K (F).length L)] rfl gO isAgg_40 sizeOf_40) ?_
  have gS := ((gH.ch bO (nN (nL hgl (nT (z2 b a) h)))).ch c5 (nN (nL hgl (i))))
  exact ⟨{ Kind := (1 + (f)), Id := 0, Cn := [], Sn := (D), Tick := 0, Cookie := [], Proof := [], Epoch := (B), Seq := (C), Body := (aV), Tag := (F) : PFrame }, dG, ⟨_, _, gS, (Rd.chP hcr dG hcn), hcl, (by omega), hcn⟩, ⟨_, _, _, _, _, _, _, _, _, _, _, _, rfl, (by first | exact own_nil _ _ _ _ | exact OLv.nil _ _ _ _), (by simp), (own_lo gP (z4 b a e d)), bF, (by first | exact own_nil _ _ _ _ | exact OLv.nil _ _ _ _), (by simp), (by first | exact own_nil _ _ _ _ | exact OLv.nil _ _ _ _), (by simp), (own_lo gQ (t5 (z12 b a e d t l m o p q r s) G.size u.size w.size y.size)), gI, (own_lo gR (z12 b a e d t l m o p q r s)), bG, ⟨⟨(Ap.nl _), ⟨(Ap.nl _), ⟨(Ap.nl _), ⟨(Ap.nl _), ⟨(Ap.nl _), trivial⟩⟩⟩⟩⟩, ⟨⟨(Ap.nr _), ⟨(Ap.nr _), ⟨(Ap.lt j c4 (z11 l m o p q r s G u w y)), ⟨(Ap.lt j A (z7 l m o p q r s)), trivial⟩⟩⟩⟩, ⟨⟨(Ap.nl _), ⟨(Ap.nl _), ⟨(Ap.nl _), trivial⟩⟩⟩, ⟨⟨(Ap.nl _), ⟨(Ap.nl _), trivial⟩⟩, ⟨⟨(Ap.lt A c4 (z3 u w y)).symm, trivial⟩, ⟨trivial, trivial⟩⟩⟩⟩⟩⟩⟩, trivial⟩
 have ly := dT cx
 refine ct cx ?_
 refine wc_region ?_
 refine aw (vi 12) ?_
 refine n4 ?_
 refine pu (vp M 0) wN ?_
 refine ld (vi (1 + (f))) wN isAgg_3 aC ?_
 refine pu (vb (decide (7 ≤ (1 + (f))))) wN ?_
 refine n2 ?_
 rcases bf (decide (7 ≤ (1 + (f)))) with c7 | c7
 ·have lz := dF c7
  refine cf c7 ?_
  refine wc_skip <| wq_then <| wc_region ?_
  refine mw (vp g 0) ?_
  refine mw (vi 12) ?_
  refine cl wN (csl1Bytes aP g ca cc cb ⟨_, _, bH, (Rd.chP hcr a9 hcn), hcl, (by omega), hcn⟩ 12 (by omega)) ?_
  rintro _ bc ⟨aW, c8, ⟨l0, l1, gT, l2, l3, l4, l5⟩, ⟨bw, bz, rfl, c9, gU, l6⟩, l7⟩
  have gV := ChG.ext a9 c8 (fun k hk => .inl hk)
  refine pu (vp M 9) wN ?_
  have gW := (aC.ch c8 (Ne.symm (nN (nL hgl (nT (z2 b a) h)))))
  refine st (vs bw (aW).length bz) [(vs bw (aW).length bz)] [(vi (1 + (f))), (vi 0), (vs none 0 0), (vs I (D).length J), (vi 0), (vs none 0 0), (vs none 0 0), (vi (B)), (vi (C)), (vs bw (aW).length bz), (vs K (F).length L)] wN sizeOf_22 gW ?_
  intro bg bQ gX l8
  have gY := ChG.ext gV bQ (fun k hk => .inr (by subst hk; exact nT (z2 b a) h))
  refine wl_nil <| wq_blk_normal <| wq_then <| sr ?_
  refine lN [(vi (1 + (f))), (vi 0), (vs none 0 0), (vs I (D).length J), (vi 0), (vs none 0 0), (vs none 0 0), (vi (B)), (vi (C)), (vs bw (aW).length bz), (vs K (F).length L)] wN isAgg_40 sizeOf_40 gX ?_
  have bR := nL E (nT a.size h)
  have gZ := (((((((((((((((((aD.ch a (Ne.symm (nN (nL hgl (i))))).kp e).ch d (nN bR)).ch t (Ne.symm (nN (nL hgl (i))))).ch l (nN bR)).kp m).ch o (Ne.symm (nN (nL hgl (i))))).ch p (nN bR)).kp q).ch r (Ne.symm (nN (nL hgl (i))))).ch s (nN bR)).ch G (Ne.symm (nN (nL hgl (i))))).ch u (nN bR)).kp w).ch y (Ne.symm (nN (nL hgl (i))))).ch c8 (Ne.symm (nN (nL hgl (i))))).ch bQ (nN bR))
  refine sv [(vi (1 + (f))), (vi 0), (vs none 0 0), (vs I (D).length J), (vi 0), (vs none 0 0), (vs none 0 0), (vi (B)), (vi (C)), (vs bw (aW).length bz), (vs K (F).length L)] wN sizeOf_40 gZ ?_
  intro cp cC ha l9
  have dH := ChG.ext gY cC (fun k hk => .inr (by subst hk; exact i))
  refine n3 ?_
  have cD := nL H d.size
  have hb := (own_ch (own_ch (own_ch (own_ch (own_kp (own_ch (own_ch (own_ch (own_ch (own_kp (own_ch (own_ch (own_kp (own_ch j l (ne1 j cD)) m) o (ne1 j (nL hgl (z4 b a e d)))) p (ne1 j cD)) q) r (ne1 j (nL hgl (z4 b a e d)))) s (ne1 j cD)) G (ne1 j (nL hgl (z4 b a e d)))) u (ne1 j cD)) w) y (ne1 j (nL hgl (z4 b a e d)))) c8 (ne1 j (nL hgl (z4 b a e d)))) bQ (ne1 j cD)) cC (ne1 j (nL E (z3 a e d))))
  have hc := (own_ch (own_ch c9 bQ (ne1 c9 (nL H (nT (z12 d t l m o p q r s G u w) y.size)))) cC (ne1 c9 (nL E (t4 (z12 a e d t l m o p q r s G) u.size w.size y.size))))
  have hd := (own_ch (own_ch (own_ch (own_ch (own_kp (own_ch A u (ne1 A (nL H (z9 d t l m o p q r s)))) w) y (ne1 A (nL hgl (z12 b a e d t l m o p q r s)))) c8 (ne1 A (nL hgl (z12 b a e d t l m o p q r s)))) bQ (ne1 A (nL H (z9 d t l m o p q r s)))) cC (ne1 A (nL E (z11 a e d t l m o p q r s))))
  refine ret_1 (.inl rfl) (va [(vi (1 + (f))), (vi 0), (vs none 0 0), (vs I (D).length J), (vi 0), (vs none 0 0), (vs none 0 0), (vi (B)), (vi (C)), (vs bw (aW).length bz), (vs K (F).length L)]) rfl (rv_c [(vi (1 + (f))), (vi 0), (vs none 0 0), (vs I (D).length J), (vi 0), (vs none 0 0), (vs none 0 0), (vi (B)), (vi (C)), (vs bw (aW).length bz), (vs K (F).length L)] rfl ha isAgg_40 sizeOf_40) ?_
  have he := ((gT.ch bQ (nN (nL hgl (nT (z2 b a) h)))).ch cC (nN (nL hgl (i))))
  exact ⟨{ Kind := (1 + (f)), Id := 0, Cn := [], Sn := (D), Tick := 0, Cookie := [], Proof := [], Epoch := (B), Seq := (C), Body := (aW), Tag := (F) : PFrame }, dH, ⟨_, _, he, (Rd.chP hcr dH hcn), hcl, (by omega), hcn⟩, ⟨_, _, _, _, _, _, _, _, _, _, _, _, rfl, (by first | exact own_nil _ _ _ _ | exact OLv.nil _ _ _ _), (by simp), (own_lo hb (z4 b a e d)), bF, (by first | exact own_nil _ _ _ _ | exact OLv.nil _ _ _ _), (by simp), (by first | exact own_nil _ _ _ _ | exact OLv.nil _ _ _ _), (by simp), (own_lo hc (t5 (z12 b a e d t l m o p q r s) G.size u.size w.size y.size)), gU, (own_lo hd (z12 b a e d t l m o p q r s)), bG, ⟨⟨(Ap.nl _), ⟨(Ap.nl _), ⟨(Ap.nl _), ⟨(Ap.nl _), ⟨(Ap.nl _), trivial⟩⟩⟩⟩⟩, ⟨⟨(Ap.nr _), ⟨(Ap.nr _), ⟨(Ap.lt j c9 (z11 l m o p q r s G u w y)), ⟨(Ap.lt j A (z7 l m o p q r s)), trivial⟩⟩⟩⟩, ⟨⟨(Ap.nl _), ⟨(Ap.nl _), ⟨(Ap.nl _), trivial⟩⟩⟩, ⟨⟨(Ap.nl _), ⟨(Ap.nl _), trivial⟩⟩, ⟨⟨(Ap.lt A c9 (z3 u w y)).symm, trivial⟩, ⟨trivial, trivial⟩⟩⟩⟩⟩⟩⟩, trivial⟩
 have lA := dT c7
 refine ct c7 ?_
 refine wc_region ?_
 refine aw (vi 4) ?_
 refine wl_nil <| wq_then <| wc_region ?_
 refine mw (vp g 0) ?_
 refine mw (vi 4) ?_
 refine cl wN (csl1Bytes aP g ca cc cb ⟨_, _, bH, (Rd.chP hcr a9 hcn), hcl, (by omega), hcn⟩ 4 (by omega)) ?_
 rintro _ bc ⟨aX, cE, ⟨lB, lC, hf, lD, lE, lF, lG⟩, ⟨b0, b1, rfl, cF, hg, lH⟩, lI⟩
 have hh := ChG.ext a9 cE (fun k hk => .inl hk)
 refine pu (vp M 9) wN ?_
 have hi := (aC.ch cE (Ne.symm (nN (nL hgl (nT (z2 b a) h)))))
 refine st (vs b0 (aX).length b1) [(vs b0 (aX).length b1)] [(vi (1 + (f))), (vi 0), (vs none 0 0), (vs I (D).length J), (vi 0), (vs none 0 0), (vs none 0 0), (vi (B)), (vi (C)), (vs b0 (aX).length b1), (vs K (F).length L)] wN sizeOf_22 hi ?_
 intro bg bS hj lJ
 have hl := ChG.ext hh bS (fun k hk => .inr (by subst hk; exact nT (z2 b a) h))
 refine wl_nil <| wq_blk_normal <| wq_then <| sr ?_
 refine lN [(vi (1 + (f))), (vi 0), (vs none 0 0), (vs I (D).length J), (vi 0), (vs none 0 0), (vs none 0 0), (vi (B)), (vi (C)), (vs b0 (aX).length b1), (vs K (F).length L)] wN isAgg_40 sizeOf_40 hj ?_
 have bT := nL E (nT a.size h)
 have hm := (((((((((((((((((aD.ch a (Ne.symm (nN (nL hgl (i))))).kp e).ch d (nN bT)).ch t (Ne.symm (nN (nL hgl (i))))).ch l (nN bT)).kp m).ch o (Ne.symm (nN (nL hgl (i))))).ch p (nN bT)).kp q).ch r (Ne.symm (nN (nL hgl (i))))).ch s (nN bT)).ch G (Ne.symm (nN (nL hgl (i))))).ch u (nN bT)).kp w).ch y (Ne.symm (nN (nL hgl (i))))).ch cE (Ne.symm (nN (nL hgl (i))))).ch bS (nN bT))
 refine sv [(vi (1 + (f))), (vi 0), (vs none 0 0), (vs I (D).length J), (vi 0), (vs none 0 0), (vs none 0 0), (vi (B)), (vi (C)), (vs b0 (aX).length b1), (vs K (F).length L)] wN sizeOf_40 hm ?_
 intro cp cG hn lK
 have dI := ChG.ext hl cG (fun k hk => .inr (by subst hk; exact i))
 refine n3 ?_
 have cH := nL H d.size
 have ho := (own_ch (own_ch (own_ch (own_ch (own_kp (own_ch (own_ch (own_ch (own_ch (own_kp (own_ch (own_ch (own_kp (own_ch j l (ne1 j cH)) m) o (ne1 j (nL hgl (z4 b a e d)))) p (ne1 j cH)) q) r (ne1 j (nL hgl (z4 b a e d)))) s (ne1 j cH)) G (ne1 j (nL hgl (z4 b a e d)))) u (ne1 j cH)) w) y (ne1 j (nL hgl (z4 b a e d)))) cE (ne1 j (nL hgl (z4 b a e d)))) bS (ne1 j cH)) cG (ne1 j (nL E (z3 a e d))))
 have hp := (own_ch (own_ch cF bS (ne1 cF (nL H (nT (z12 d t l m o p q r s G u w) y.size)))) cG (ne1 cF (nL E (t4 (z12 a e d t l m o p q r s G) u.size w.size y.size))))
 have hq := (own_ch (own_ch (own_ch (own_ch (own_kp (own_ch A u (ne1 A (nL H (z9 d t l m o p q r s)))) w) y (ne1 A (nL hgl (z12 b a e d t l m o p q r s)))) cE (ne1 A (nL hgl (z12 b a e d t l m o p q r s)))) bS (ne1 A (nL H (z9 d t l m o p q r s)))) cG (ne1 A (nL E (z11 a e d t l m o p q r s))))
 refine ret_1 (.inl rfl) (va [(vi (1 + (f))), (vi 0), (vs none 0 0), (vs I (D).length J), (vi 0), (vs none 0 0), (vs none 0 0), (vi (B)), (vi (C)), (vs b0 (aX).length b1), (vs K (F).length L)]) rfl (rv_c [(vi (1 + (f))), (vi 0), (vs none 0 0), (vs I (D).length J), (vi 0), (vs none 0 0), (vs none 0 0), (vi (B)), (vi (C)), (vs b0 (aX).length b1), (vs K (F).length L)] rfl hn isAgg_40 sizeOf_40) ?_
 have hr := ((hf.ch bS (nN (nL hgl (nT (z2 b a) h)))).ch cG (nN (nL hgl (i))))
 exact ⟨{ Kind := (1 + (f)), Id := 0, Cn := [], Sn := (D), Tick := 0, Cookie := [], Proof := [], Epoch := (B), Seq := (C), Body := (aX), Tag := (F) : PFrame }, dI, ⟨_, _, hr, (Rd.chP hcr dI hcn), hcl, (by omega), hcn⟩, ⟨_, _, _, _, _, _, _, _, _, _, _, _, rfl, (by first | exact own_nil _ _ _ _ | exact OLv.nil _ _ _ _), (by simp), (own_lo ho (z4 b a e d)), bF, (by first | exact own_nil _ _ _ _ | exact OLv.nil _ _ _ _), (by simp), (by first | exact own_nil _ _ _ _ | exact OLv.nil _ _ _ _), (by simp), (own_lo hp (t5 (z12 b a e d t l m o p q r s) G.size u.size w.size y.size)), hg, (own_lo hq (z12 b a e d t l m o p q r s)), bG, ⟨⟨(Ap.nl _), ⟨(Ap.nl _), ⟨(Ap.nl _), ⟨(Ap.nl _), ⟨(Ap.nl _), trivial⟩⟩⟩⟩⟩, ⟨⟨(Ap.nr _), ⟨(Ap.nr _), ⟨(Ap.lt j cF (z11 l m o p q r s G u w y)), ⟨(Ap.lt j A (z7 l m o p q r s)), trivial⟩⟩⟩⟩, ⟨⟨(Ap.nl _), ⟨(Ap.nl _), ⟨(Ap.nl _), trivial⟩⟩⟩, ⟨⟨(Ap.nl _), ⟨(Ap.nl _), trivial⟩⟩, ⟨⟨(Ap.lt A cF (z3 u w y)).symm, trivial⟩, ⟨trivial, trivial⟩⟩⟩⟩⟩⟩⟩, trivial⟩

abbrev L_40 (x : PFrame) (a : Option Addr) (b : Nat) (d : Option Addr) (e : Nat) (f : Option Addr) (g : Nat) (h : Option Addr) (i : Nat) (j : Option Addr) (k : Nat) (l : Option Addr) (m : Nat) : List Value := [vi x.Kind, vi x.Id, vs a x.Cn.length b, vs d x.Sn.length e, vi x.Tick, vs f x.Cookie.length g, vs h x.Proof.length i, vi x.Epoch, vi x.Seq, vs j x.Body.length k, vs l x.Tag.length m]
theorem csl7Any (ba : World) (g : Nat) (ca : Option Addr) (cc : Nat) (cb : List UInt8) (di : CurX ba g 74 ca cc cb)  : Fn Try.prog 44 #[(vp g 0)] ba (fun v co => ∃ x : (PFrame), Ch (fun k => k = g) ba co ∧ CurX co g 74 ca cc cb ∧ O_40 co ba.heap.size v x ∧ (True)) := by
 obtain ⟨ci, chh, hcb, hcr, hcl, hci, hcn⟩ := di
 have hgl := Blk.lt hcb
 refine fn_ofS (n := 87) [(vp g 0)] Try.func44 rfl rfl ?_
 refine sr ?_
 refine al Z_40 wN zero_40 ?_
 intro gE O j F b T
 have c2 := ChG.extk (Ch.refl (fun k => k = g) ba) b
 refine nx ?_
 refine mw (vp g 0) ?_
 have dj := (hcb.kp b)
 refine cl wN (csl7Draw O g ca cc cb ⟨_, _, dj, (Rd.chP hcr c2 hcn), hcl, (by omega), hcn⟩) ?_
 rintro _ P ⟨a, e, ⟨gF, gG, dk, gH, gI, gJ, gK⟩, ⟨m, p, q, r, s, t, u, w, y, A, B, C, rfl, I, Y, J, Z, K, aa, L, ab, M, ac, N, ad, d⟩, gL⟩
 have dl := ChG.ext c2 e (fun k hk => .inl hk)
 refine al Z_40 wN zero_40 ?_
 intro ae gM f aT D dm
 have dn := ChG.extk dl D
 refine sv (L_40 (a) m p q r s t u w y A B C) wN sizeOf_40 dm ?_
 intro dp l V gN
 have c3 := ChG.ext dn l (fun k hk => .inr (by subst hk; exact nT (z2 b e) f))
 refine n4 ?_
 refine mw (vp g 0) ?_
 have dq := ((dk.kp D).ch l (nN (nL hgl (nT (z2 b e) f))))
 refine cl wN (csl1Below dp g ca cc cb ⟨_, _, dq, (Rd.chP hcr c3 hcn), hcl, (by omega), hcn⟩ 22) ?_
 rintro _ dr ⟨H, i, ⟨gO, gP, W, gQ, gR, gS, gT⟩, rfl, gU⟩
 have S := ChG.ext c3 i (fun k hk => .inl hk)
 refine wl_nil <| wq_then <| wc_block <| sr ?_
 refine pu (vb (decide ((H) = 0))) wN ?_
 refine aw (vb (decide ((H) = 0))) ?_
 refine n2 ?_
 rcases bt (decide ((H) = 0)) with bb | bb
 ·have gV := dT bb
  refine ct bb ?_
  refine wc_region ?_
  refine mw (vp g 0) ?_
  refine cl wN (csl1Below dr g ca cc cb ⟨_, _, W, (Rd.chP hcr S hcn), hcl, (by omega), hcn⟩ 11) ?_
  rintro _ Q ⟨ak, bH, ⟨gW, gX, ds, gY, gZ, ha, hb⟩, rfl, hc⟩
  have dt := ChG.ext S bH (fun k hk => .inl hk)
  refine ar ((ak) - 1) wN ?_
  refine pu (vp ae 0) wN ?_
  have du := ((V.ch i (Ne.symm (nN (nL hgl (nT (z2 b e) f))))).ch bH (Ne.symm (nN (nL hgl (nT (z2 b e) f)))))
  refine st (vi ((ak) - 1)) [(vi ((ak) - 1))] [(vi ((ak) - 1)), (vi ((a).Id)), (vs m ((a).Cn).length p), (vs q ((a).Sn).length r), (vi ((a).Tick)), (vs s ((a).Cookie).length t), (vs u ((a).Proof).length w), (vi ((a).Epoch)), (vi ((a).Seq)), (vs y ((a).Body).length A), (vs B ((a).Tag).length C)] wN sizeOf_3 du ?_
  intro R bI dv hd
  have dw := ChG.ext dt bI (fun k hk => .inr (by subst hk; exact nT (z2 b e) f))
  refine wl_nil <| wq_blk_normal <| wq_then <| sr ?_
  refine lN [(vi ((ak) - 1)), (vi ((a).Id)), (vs m ((a).Cn).length p), (vs q ((a).Sn).length r), (vi ((a).Tick)), (vs s ((a).Cookie).length t), (vs u ((a).Proof).length w), (vi ((a).Epoch)), (vi ((a).Seq)), (vs y ((a).Body).length A), (vs B ((a).Tag).length C)] wN isAgg_40 sizeOf_40 dv ?_
  have dx := ((((((T.ch e (Ne.symm (nN (nL hgl (j))))).kp D).ch l (nN (nL F (nT e.size f)))).ch i (Ne.symm (nN (nL hgl (j))))).ch bH (Ne.symm (nN (nL hgl (j))))).ch bI (nN (nL F (nT e.size f))))
  refine sv [(vi ((ak) - 1)), (vi ((a).Id)), (vs m ((a).Cn).length p), (vs q ((a).Sn).length r), (vi ((a).Tick)), (vs s ((a).Cookie).length t), (vs u ((a).Proof).length w), (vi ((a).Epoch)), (vi ((a).Seq)), (vs y ((a).Body).length A), (vs B ((a).Tag).length C)] wN sizeOf_40 dx ?_
  intro aj cp dy he
  have c4 := ChG.ext dw cp (fun k hk => .inr (by subst hk; exact j))
  refine n3 ?_
  have aU := fun (E sz n : Nat) (v : Value) (G : List Value) (o : World.ownsRow P O.heap.size E sz v n G) (h : World.ownsRow P O.heap.size E sz v n G) => (own_ch (own_ch (own_ch (own_ch (own_ch (own_kp o D) l (ne2 h (f))) i (ne1 h (nL hgl b.size))) bH (ne1 h (nL hgl b.size))) bI (ne2 h (f))) cp (ne1 h (F)))
  have dz := (aU _ _ _ _ _ I I)
  have d0 := (aU _ _ _ _ _ J J)
  have d1 := (aU _ _ _ _ _ K K)
  have d2 := (aU _ _ _ _ _ L L)
  have d3 := (aU _ _ _ _ _ M M)
  have d4 := (aU _ _ _ _ _ N N)
  refine ret_1 (.inl rfl) (va [(vi ((ak) - 1)), (vi ((a).Id)), (vs m ((a).Cn).length p), (vs q ((a).Sn).length r), (vi ((a).Tick)), (vs s ((a).Cookie).length t), (vs u ((a).Proof).length w), (vi ((a).Epoch)), (vi ((a).Seq)), (vs y ((a).Body).length A), (vs B ((a).Tag).length C)]) rfl (rv_c [(vi ((ak) - 1)), (vi ((a).Id)), (vs m ((a).Cn).length p), (vs q ((a).Sn).length r), (vi ((a).Tick)), (vs s ((a).Cookie).length t), (vs u ((a).Proof).length w), (vi ((a).Epoch)), (vi ((a).Seq)), (vs y ((a).Body).length A), (vs B ((a).Tag).length C)] rfl dy isAgg_40 sizeOf_40) ?_
  have d5 := ((ds.ch bI (nN (nL hgl (nT (z2 b e) f)))).ch cp (nN (nL hgl (j))))
  exact ⟨{ Kind := ((ak) - 1), Id := (a).Id, Cn := (a).Cn, Sn := (a).Sn, Tick := (a).Tick, Cookie := (a).Cookie, Proof := (a).Proof, Epoch := (a).Epoch, Seq := (a).Seq, Body := (a).Body, Tag := (a).Tag : PFrame }, c4, ⟨_, _, d5, (Rd.chP hcr c4 hcn), hcl, (by omega), hcn⟩, ⟨_, _, _, _, _, _, _, _, _, _, _, _, rfl, (own_lo dz b.size), Y, (own_lo d0 b.size), Z, (own_lo d1 b.size), aa, (own_lo d2 b.size), ab, (own_lo d3 b.size), ac, (own_lo d4 b.size), ad, ⟨⟨(d.1.1), ⟨(d.1.2.1), ⟨(d.1.2.2.1), ⟨(d.1.2.2.2.1), ⟨(d.1.2.2.2.2.1), trivial⟩⟩⟩⟩⟩, ⟨⟨(d.2.1.1), ⟨(d.2.1.2.1), ⟨(d.2.1.2.2.1), ⟨(d.2.1.2.2.2.1), trivial⟩⟩⟩⟩, ⟨⟨(d.2.2.1.1), ⟨(d.2.2.1.2.1), ⟨(d.2.2.1.2.2.1), trivial⟩⟩⟩, ⟨⟨(d.2.2.2.1.1), ⟨(d.2.2.2.1.2.1), trivial⟩⟩, ⟨⟨(d.2.2.2.2.1.1), trivial⟩, ⟨trivial, trivial⟩⟩⟩⟩⟩⟩⟩, trivial⟩
 have hf := dF bb
 refine cf bb ?_
 refine sr ?_
 refine pu (vb (decide ((H) = 1))) wN ?_
 refine aw (vb (decide ((H) = 1))) ?_
 refine n2 ?_
 rcases bt (decide ((H) = 1)) with bc | bc
 ·have hg := dT bc
  refine ct bc ?_
  refine wc_region ?_
  refine mw (vp g 0) ?_
  refine ltI ([0, 1, 10, (-1)] : List Int) wN slTy_67 ?_
  intro hh hi Q bd c5
  have c6 := ChG.extk S bd
  have d6 := (W.kp bd)
  refine cl wN (csl1Int Q g ca cc cb ⟨_, _, d6, (Rd.chP hcr c6 hcn), hcl, (by omega), hcn⟩ _ ([0, 1, 10, (-1)] : List Int) ⟨_, _, rfl, (Rd.of_own c5), (by simp), (fun _ z hz => by have am := (own_lt c5 z.block (by rw [hz]; rfl)).1; have an := nL hgl (z5 b e D l i); omega)⟩ (by simp)) ?_
  rintro _ R ⟨X, bJ, ⟨hj, hl, d7, hm, hn, ho, hp⟩, rfl, d8⟩
  have d9 := ChG.ext c6 bJ (fun k hk => .inl hk)
  have q115m : X = 0 ∨ X = 1 ∨ X = 10 ∨ X = (-1) := by simpa only [List.mem_cons, List.not_mem_nil, or_false] using d8
  refine pu (vp ae 1) wN ?_
  have dA := (((V.ch i (Ne.symm (nN (nL hgl (nT (z2 b e) f))))).kp bd).ch bJ (Ne.symm (nN (nL hgl (nT (z2 b e) f)))))
  refine st (vi (X)) [(vi (X))] [(vi ((a).Kind)), (vi (X)), (vs m ((a).Cn).length p), (vs q ((a).Sn).length r), (vi ((a).Tick)), (vs s ((a).Cookie).length t), (vs u ((a).Proof).length w), (vi ((a).Epoch)), (vi ((a).Seq)), (vs y ((a).Body).length A), (vs B ((a).Tag).length C)] wN sizeOf_3 dA ?_
  intro aj bK dB hq
  have dC := ChG.ext d9 bK (fun k hk => .inr (by subst hk; exact nT (z2 b e) f))
  refine wl_nil <| wq_blk_normal <| wq_then <| sr ?_
  refine lN [(vi ((a).Kind)), (vi (X)), (vs m ((a).Cn).length p), (vs q ((a).Sn).length r), (vi ((a).Tick)), (vs s ((a).Cookie).length t), (vs u ((a).Proof).length w), (vi ((a).Epoch)), (vi ((a).Seq)), (vs y ((a).Body).length A), (vs B ((a).Tag).length C)] wN isAgg_40 sizeOf_40 dB ?_
  have dD := (((((((T.ch e (Ne.symm (nN (nL hgl (j))))).kp D).ch l (nN (nL F (nT e.size f)))).ch i (Ne.symm (nN (nL hgl (j))))).kp bd).ch bJ (Ne.symm (nN (nL hgl (j))))).ch bK (nN (nL F (nT e.size f))))
  refine sv [(vi ((a).Kind)), (vi (X)), (vs m ((a).Cn).length p), (vs q ((a).Sn).length r), (vi ((a).Tick)), (vs s ((a).Cookie).length t), (vs u ((a).Proof).length w), (vi ((a).Epoch)), (vi ((a).Seq)), (vs y ((a).Body).length A), (vs B ((a).Tag).length C)] wN sizeOf_40 dD ?_
  intro ao cq dE hr
  have c7 := ChG.ext dC cq (fun k hk => .inr (by subst hk; exact j))
  refine n3 ?_
  have aV := fun (E sz n : Nat) (v : Value) (G : List Value) (o : World.ownsRow P O.heap.size E sz v n G) (h : World.ownsRow P O.heap.size E sz v n G) => (own_ch (own_ch (own_ch (own_kp (own_ch (own_ch (own_kp o D) l (ne2 h (f))) i (ne1 h (nL hgl b.size))) bd) bJ (ne1 h (nL hgl b.size))) bK (ne2 h (f))) cq (ne1 h (F)))
  have dG := (aV _ _ _ _ _ I I)
  have dH := (aV _ _ _ _ _ J J)
  have dI := (aV _ _ _ _ _ K K)
  have dJ := (aV _ _ _ _ _ L L)
  have dK := (aV _ _ _ _ _ M M)
  have dL := (aV _ _ _ _ _ N N)
  refine ret_1 (.inl rfl) (va [(vi ((a).Kind)), (vi (X)), (vs m ((a).Cn).length p), (vs q ((a).Sn).length r), (vi ((a).Tick)), (vs s ((a).Cookie).length t), (vs u ((a).Proof).length w), (vi ((a).Epoch)), (vi ((a).Seq)), (vs y ((a).Body).length A), (vs B ((a).Tag).length C)]) rfl (rv_c [(vi ((a).Kind)), (vi (X)), (vs m ((a).Cn).length p), (vs q ((a).Sn).length r), (vi ((a).Tick)), (vs s ((a).Cookie).length t), (vs u ((a).Proof).length w), (vi ((a).Epoch)), (vi ((a).Seq)), (vs y ((a).Body).length A), (vs B ((a).Tag).length C)] rfl dE isAgg_40 sizeOf_40) ?_
  have dM := ((d7.ch bK (nN (nL hgl (nT (z2 b e) f)))).ch cq (nN (nL hgl (j))))
  exact ⟨{ Kind := (a).Kind, Id := (X), Cn := (a).Cn, Sn := (a).Sn, Tick := (a).Tick, Cookie := (a).Cookie, Proof := (a).Proof, Epoch := (a).Epoch, Seq := (a).Seq, Body := (a).Body, Tag := (a).Tag : PFrame }, c7, ⟨_, _, dM, (Rd.chP hcr c7 hcn), hcl, (by omega), hcn⟩, ⟨_, _, _, _, _, _, _, _, _, _, _, _, rfl, (own_lo dG b.size), Y, (own_lo dH b.size), Z, (own_lo dI b.size), aa, (own_lo dJ b.size), ab, (own_lo dK b.size), ac, (own_lo dL b.size), ad, ⟨⟨(d.1.1), ⟨(d.1.2.1), ⟨(d.1.2.2.1), ⟨(d.1.2.2.2.1), ⟨(d.1.2.2.2.2.1), trivial⟩⟩⟩⟩⟩, ⟨⟨(d.2.1.1), ⟨(d.2.1.2.1), ⟨(d.2.1.2.2.1), ⟨(d.2.1.2.2.2.1), trivial⟩⟩⟩⟩, ⟨⟨(d.2.2.1.1), ⟨(d.2.2.1.2.1), ⟨(d.2.2.1.2.2.1), trivial⟩⟩⟩, ⟨⟨(d.2.2.2.1.1), ⟨(d.2.2.2.1.2.1), trivial⟩⟩, ⟨⟨(d.2.2.2.2.1.1), trivial⟩, ⟨trivial, trivial⟩⟩⟩⟩⟩⟩⟩, trivial⟩
 have hs := dF bc
 refine cf bc ?_
 refine sr ?_
 refine pu (vb (decide ((H) = 2))) wN ?_
 refine aw (vb (decide ((H) = 2))) ?_
 refine n2 ?_
 rcases bt (decide ((H) = 2)) with be | be
 ·have ht := dT be
  refine ct be ?_
  refine wc_region ?_
  refine mw (vp g 0) ?_
  refine mw (vp g 0) ?_
  refine ltI ([0, 11, 12, 13] : List Int) wN slTy_67 ?_
  intro hu hv Q ap c8
  have c9 := ChG.extk S ap
  have dN := (W.kp ap)
  refine cl wN (csl1Int Q g ca cc cb ⟨_, _, dN, (Rd.chP hcr c9 hcn), hcl, (by omega), hcn⟩ _ ([0, 11, 12, 13] : List Int) ⟨_, _, rfl, (Rd.of_own c8), (by simp), (fun _ z hz => by have am := (own_lt c8 z.block (by rw [hz]; rfl)).1; have an := nL hgl (z5 b e D l i); omega)⟩ (by simp)) ?_
  rintro _ R ⟨bg, az, ⟨hw, hx, dO, hy, h0, h1, h2⟩, rfl, dP⟩
  have cC := ChG.ext c9 az (fun k hk => .inl hk)
  have q154m : bg = 0 ∨ bg = 11 ∨ bg = 12 ∨ bg = 13 := by simpa only [List.mem_cons, List.not_mem_nil, or_false] using dP
  refine cl wN (csl1Bytes R g ca cc cb ⟨_, _, dO, (Rd.chP hcr cC hcn), hcl, (by omega), hcn⟩ (bg) (by omega)) ?_
  rintro _ aj ⟨a0, bL, ⟨h3, h4, dQ, h5, h6, h7, h8⟩, ⟨aH, aI, rfl, a1, dR, h9⟩, hA⟩
  have dS := ChG.ext cC bL (fun k hk => .inl hk)
  refine pu (vp ae 2) wN ?_
  have cr := nT (z2 b e) f
  have dU := ((((V.ch i (Ne.symm (nN (nL hgl cr)))).kp ap).ch az (Ne.symm (nN (nL hgl cr)))).ch bL (Ne.symm (nN (nL hgl cr))))
  refine st (vs aH (a0).length aI) [(vs aH (a0).length aI)] [(vi ((a).Kind)), (vi ((a).Id)), (vs aH (a0).length aI), (vs q ((a).Sn).length r), (vi ((a).Tick)), (vs s ((a).Cookie).length t), (vs u ((a).Proof).length w), (vi ((a).Epoch)), (vi ((a).Seq)), (vs y ((a).Body).length A), (vs B ((a).Tag).length C)] wN sizeOf_22 dU ?_
  intro ao bh dV hB
  have dW := ChG.ext dS bh (fun k hk => .inr (by subst hk; exact nT (z2 b e) f))
  refine wl_nil <| wq_blk_normal <| wq_then <| sr ?_
  refine lN [(vi ((a).Kind)), (vi ((a).Id)), (vs aH (a0).length aI), (vs q ((a).Sn).length r), (vi ((a).Tick)), (vs s ((a).Cookie).length t), (vs u ((a).Proof).length w), (vi ((a).Epoch)), (vi ((a).Seq)), (vs y ((a).Body).length A), (vs B ((a).Tag).length C)] wN isAgg_40 sizeOf_40 dV ?_
  have dX := ((((((((T.ch e (Ne.symm (nN (nL hgl (j))))).kp D).ch l (nN (nL F (nT e.size f)))).ch i (Ne.symm (nN (nL hgl (j))))).kp ap).ch az (Ne.symm (nN (nL hgl (j))))).ch bL (Ne.symm (nN (nL hgl (j))))).ch bh (nN (nL F (nT e.size f))))
  refine sv [(vi ((a).Kind)), (vi ((a).Id)), (vs aH (a0).length aI), (vs q ((a).Sn).length r), (vi ((a).Tick)), (vs s ((a).Cookie).length t), (vs u ((a).Proof).length w), (vi ((a).Epoch)), (vi ((a).Seq)), (vs y ((a).Body).length A), (vs B ((a).Tag).length C)] wN sizeOf_40 dX ?_
  intro bi bM dY hC
  have cD := ChG.ext dW bM (fun k hk => .inr (by subst hk; exact j))
  refine n3 ?_
  have dZ := (own_ch (own_ch a1 bh (ne1 a1 (nL aT (z4 l i ap az)))) bM (ne1 a1 (nL F (z6 e D l i ap az))))
  have bj := fun (E sz n : Nat) (v : Value) (G : List Value) (o : World.ownsRow P O.heap.size E sz v n G) (h : World.ownsRow P O.heap.size E sz v n G) => (own_ch (own_ch (own_ch (own_ch (own_kp (own_ch (own_ch (own_kp o D) l (ne2 h (f))) i (ne1 h (nL hgl b.size))) ap) az (ne1 h (nL hgl b.size))) bL (ne1 h (nL hgl b.size))) bh (ne2 h (f))) bM (ne1 h (F)))
  have ea := (bj _ _ _ _ _ J J)
  have ec := (bj _ _ _ _ _ K K)
  have ed := (bj _ _ _ _ _ L L)
  have ee := (bj _ _ _ _ _ M M)
  have ef := (bj _ _ _ _ _ N N)
  refine ret_1 (.inl rfl) (va [(vi ((a).Kind)), (vi ((a).Id)), (vs aH (a0).length aI), (vs q ((a).Sn).length r), (vi ((a).Tick)), (vs s ((a).Cookie).length t), (vs u ((a).Proof).length w), (vi ((a).Epoch)), (vi ((a).Seq)), (vs y ((a).Body).length A), (vs B ((a).Tag).length C)]) rfl (rv_c [(vi ((a).Kind)), (vi ((a).Id)), (vs aH (a0).length aI), (vs q ((a).Sn).length r), (vi ((a).Tick)), (vs s ((a).Cookie).length t), (vs u ((a).Proof).length w), (vi ((a).Epoch)), (vi ((a).Seq)), (vs y ((a).Body).length A), (vs B ((a).Tag).length C)] rfl dY isAgg_40 sizeOf_40) ?_
  have eg := ((dQ.ch bh (nN (nL hgl (nT (z2 b e) f)))).ch bM (nN (nL hgl (j))))
  have bk := z5 D l i ap az
  exact ⟨{ Kind := (a).Kind, Id := (a).Id, Cn := (a0), Sn := (a).Sn, Tick := (a).Tick, Cookie := (a).Cookie, Proof := (a).Proof, Epoch := (a).Epoch, Seq := (a).Seq, Body := (a).Body, Tag := (a).Tag : PFrame }, cD, ⟨_, _, eg, (Rd.chP hcr cD hcn), hcl, (by omega), hcn⟩, ⟨_, _, _, _, _, _, _, _, _, _, _, _, rfl, (own_lo dZ (z7 b e D l i ap az)), dR, (own_lo ea b.size), Z, (own_lo ec b.size), aa, (own_lo ed b.size), ab, (own_lo ee b.size), ac, (own_lo ef b.size), ad, ⟨⟨(Ap.lt J a1 bk).symm, ⟨(Ap.lt K a1 bk).symm, ⟨(Ap.lt L a1 bk).symm, ⟨(Ap.lt M a1 bk).symm, ⟨(Ap.lt N a1 bk).symm, trivial⟩⟩⟩⟩⟩, ⟨⟨(d.2.1.1), ⟨(d.2.1.2.1), ⟨(d.2.1.2.2.1), ⟨(d.2.1.2.2.2.1), trivial⟩⟩⟩⟩, ⟨⟨(d.2.2.1.1), ⟨(d.2.2.1.2.1), ⟨(d.2.2.1.2.2.1), trivial⟩⟩⟩, ⟨⟨(d.2.2.2.1.1), ⟨(d.2.2.2.1.2.1), trivial⟩⟩, ⟨⟨(d.2.2.2.2.1.1), trivial⟩, ⟨trivial, trivial⟩⟩⟩⟩⟩⟩⟩, trivial⟩
 have hD := dF be
 refine cf be ?_
 refine sr ?_
 refine pu (vb (decide ((H) = 3))) wN ?_
 refine aw (vb (decide ((H) = 3))) ?_
 refine n2 ?_
 rcases bt (decide ((H) = 3)) with bl | bl
 ·have hF := dT bl
  refine ct bl ?_
  refine wc_region ?_
  refine mw (vp g 0) ?_
  refine mw (vp g 0) ?_
  refine ltI ([0, 11, 12, 13] : List Int) wN slTy_67 ?_
  intro hG hH Q aq cE
  have cF := ChG.extk S aq
  have eh := (W.kp aq)
  refine cl wN (csl1Int Q g ca cc cb ⟨_, _, eh, (Rd.chP hcr cF hcn), hcl, (by omega), hcn⟩ _ ([0, 11, 12, 13] : List Int) ⟨_, _, rfl, (Rd.of_own cE), (by simp), (fun _ z hz => by have am := (own_lt cE z.block (by rw [hz]; rfl)).1; have an := nL hgl (z5 b e D l i); omega)⟩ (by simp)) ?_
  rintro _ R ⟨bm, a2, ⟨hI, hJ, ej, hK, hL, hM, hN⟩, rfl, ek⟩
  have cG := ChG.ext cF a2 (fun k hk => .inl hk)
  have q210m : bm = 0 ∨ bm = 11 ∨ bm = 12 ∨ bm = 13 := by simpa only [List.mem_cons, List.not_mem_nil, or_false] using ek
  refine cl wN (csl1Bytes R g ca cc cb ⟨_, _, ej, (Rd.chP hcr cG hcn), hcl, (by omega), hcn⟩ (bm) (by omega)) ?_
  rintro _ aj ⟨a3, bN, ⟨hO, hP, em, hQ, hR, hS, hT⟩, ⟨aJ, aK, rfl, a4, en, hU⟩, hW⟩
  have eo := ChG.ext cG bN (fun k hk => .inl hk)
  refine pu (vp ae 3) wN ?_
  have cs := nT (z2 b e) f
  have ep := ((((V.ch i (Ne.symm (nN (nL hgl cs)))).kp aq).ch a2 (Ne.symm (nN (nL hgl cs)))).ch bN (Ne.symm (nN (nL hgl cs))))
  refine st (vs aJ (a3).length aK) [(vs aJ (a3).length aK)] [(vi ((a).Kind)), (vi ((a).Id)), (vs m ((a).Cn).length p), (vs aJ (a3).length aK), (vi ((a).Tick)), (vs s ((a).Cookie).length t), (vs u ((a).Proof).length w), (vi ((a).Epoch)), (vi ((a).Seq)), (vs y ((a).Body).length A), (vs B ((a).Tag).length C)] wN sizeOf_22 ep ?_
  intro ao bn er hX
  have es := ChG.ext eo bn (fun k hk => .inr (by subst hk; exact nT (z2 b e) f))
  refine wl_nil <| wq_blk_normal <| wq_then <| sr ?_
  refine lN [(vi ((a).Kind)), (vi ((a).Id)), (vs m ((a).Cn).length p), (vs aJ (a3).length aK), (vi ((a).Tick)), (vs s ((a).Cookie).length t), (vs u ((a).Proof).length w), (vi ((a).Epoch)), (vi ((a).Seq)), (vs y ((a).Body).length A), (vs B ((a).Tag).length C)] wN isAgg_40 sizeOf_40 er ?_
  have et := ((((((((T.ch e (Ne.symm (nN (nL hgl (j))))).kp D).ch l (nN (nL F (nT e.size f)))).ch i (Ne.symm (nN (nL hgl (j))))).kp aq).ch a2 (Ne.symm (nN (nL hgl (j))))).ch bN (Ne.symm (nN (nL hgl (j))))).ch bn (nN (nL F (nT e.size f))))
  refine sv [(vi ((a).Kind)), (vi ((a).Id)), (vs m ((a).Cn).length p), (vs aJ (a3).length aK), (vi ((a).Tick)), (vs s ((a).Cookie).length t), (vs u ((a).Proof).length w), (vi ((a).Epoch)), (vi ((a).Seq)), (vs y ((a).Body).length A), (vs B ((a).Tag).length C)] wN sizeOf_40 et ?_
  intro bi bO eu hY
  have cH := ChG.ext es bO (fun k hk => .inr (by subst hk; exact j))
  refine n3 ?_
  have bo := fun (E sz n : Nat) (v : Value) (G : List Value) (o : World.ownsRow P O.heap.size E sz v n G) (h : World.ownsRow P O.heap.size E sz v n G) => (own_ch (own_ch (own_ch (own_ch (own_kp (own_ch (own_ch (own_kp o D) l (ne2 h (f))) i (ne1 h (nL hgl b.size))) aq) a2 (ne1 h (nL hgl b.size))) bN (ne1 h (nL hgl b.size))) bn (ne2 h (f))) bO (ne1 h (F)))
  have ew := (bo _ _ _ _ _ I I)
  have ex := (own_ch (own_ch a4 bn (ne1 a4 (nL aT (z4 l i aq a2)))) bO (ne1 a4 (nL F (z6 e D l i aq a2))))
  have ey := (bo _ _ _ _ _ K K)
  have ez := (bo _ _ _ _ _ L L)
  have e0 := (bo _ _ _ _ _ M M)
  have e1 := (bo _ _ _ _ _ N N)
  refine ret_1 (.inl rfl) (va [(vi ((a).Kind)), (vi ((a).Id)), (vs m ((a).Cn).length p), (vs aJ (a3).length aK), (vi ((a).Tick)), (vs s ((a).Cookie).length t), (vs u ((a).Proof).length w), (vi ((a).Epoch)), (vi ((a).Seq)), (vs y ((a).Body).length A), (vs B ((a).Tag).length C)]) rfl (rv_c [(vi ((a).Kind)), (vi ((a).Id)), (vs m ((a).Cn).length p), (vs aJ (a3).length aK), (vi ((a).Tick)), (vs s ((a).Cookie).length t), (vs u ((a).Proof).length w), (vi ((a).Epoch)), (vi ((a).Seq)), (vs y ((a).Body).length A), (vs B ((a).Tag).length C)] rfl eu isAgg_40 sizeOf_40) ?_
  have e2 := ((em.ch bn (nN (nL hgl (nT (z2 b e) f)))).ch bO (nN (nL hgl (j))))
  have bp := z5 D l i aq a2
  exact ⟨{ Kind := (a).Kind, Id := (a).Id, Cn := (a).Cn, Sn := (a3), Tick := (a).Tick, Cookie := (a).Cookie, Proof := (a).Proof, Epoch := (a).Epoch, Seq := (a).Seq, Body := (a).Body, Tag := (a).Tag : PFrame }, cH, ⟨_, _, e2, (Rd.chP hcr cH hcn), hcl, (by omega), hcn⟩, ⟨_, _, _, _, _, _, _, _, _, _, _, _, rfl, (own_lo ew b.size), Y, (own_lo ex (z7 b e D l i aq a2)), en, (own_lo ey b.size), aa, (own_lo ez b.size), ab, (own_lo e0 b.size), ac, (own_lo e1 b.size), ad, ⟨⟨(Ap.lt I a4 bp), ⟨(d.1.2.1), ⟨(d.1.2.2.1), ⟨(d.1.2.2.2.1), ⟨(d.1.2.2.2.2.1), trivial⟩⟩⟩⟩⟩, ⟨⟨(Ap.lt K a4 bp).symm, ⟨(Ap.lt L a4 bp).symm, ⟨(Ap.lt M a4 bp).symm, ⟨(Ap.lt N a4 bp).symm, trivial⟩⟩⟩⟩, ⟨⟨(d.2.2.1.1), ⟨(d.2.2.1.2.1), ⟨(d.2.2.1.2.2.1), trivial⟩⟩⟩, ⟨⟨(d.2.2.2.1.1), ⟨(d.2.2.2.1.2.1), trivial⟩⟩, ⟨⟨(d.2.2.2.2.1.1), trivial⟩, ⟨trivial, trivial⟩⟩⟩⟩⟩⟩⟩, trivial⟩
 have hZ := dF bl
 refine cf bl ?_
 refine sr ?_
 refine pu (vb (decide ((H) = 4))) wN ?_
 refine aw (vb (decide ((H) = 4))) ?_
 refine n2 ?_
 rcases bt (decide ((H) = 4)) with bq | bq
 ·have ia := dT bq
  refine ct bq ?_
  refine wc_region ?_
  refine mw (vp g 0) ?_
  refine ltI ([(-1), 0, 1000001] : List Int) wN slTy_67 ?_
  intro ib ic Q br cI
  have cJ := ChG.extk S br
  have e3 := (W.kp br)
  refine cl wN (csl1Int Q g ca cc cb ⟨_, _, e3, (Rd.chP hcr cJ hcn), hcl, (by omega), hcn⟩ _ ([(-1), 0, 1000001] : List Int) ⟨_, _, rfl, (Rd.of_own cI), (by simp), (fun _ z hz => by have am := (own_lt cI z.block (by rw [hz]; rfl)).1; have an := nL hgl (z5 b e D l i); omega)⟩ (by simp)) ?_
  rintro _ R ⟨af, bP, ⟨ie, ig, e4, ih, ii, ij, ik⟩, rfl, e5⟩
  have e6 := ChG.ext cJ bP (fun k hk => .inl hk)
  have q266m : af = (-1) ∨ af = 0 ∨ af = 1000001 := by simpa only [List.mem_cons, List.not_mem_nil, or_false] using e5
  refine pu (vp ae 4) wN ?_
  have e7 := (((V.ch i (Ne.symm (nN (nL hgl (nT (z2 b e) f))))).kp br).ch bP (Ne.symm (nN (nL hgl (nT (z2 b e) f)))))
  refine st (vi (af)) [(vi (af))] [(vi ((a).Kind)), (vi ((a).Id)), (vs m ((a).Cn).length p), (vs q ((a).Sn).length r), (vi (af)), (vs s ((a).Cookie).length t), (vs u ((a).Proof).length w), (vi ((a).Epoch)), (vi ((a).Seq)), (vs y ((a).Body).length A), (vs B ((a).Tag).length C)] wN sizeOf_3 e7 ?_
  intro aj bQ e8 il
  have e9 := ChG.ext e6 bQ (fun k hk => .inr (by subst hk; exact nT (z2 b e) f))
  refine wl_nil <| wq_blk_normal <| wq_then <| sr ?_
  refine lN [(vi ((a).Kind)), (vi ((a).Id)), (vs m ((a).Cn).length p), (vs q ((a).Sn).length r), (vi (af)), (vs s ((a).Cookie).length t), (vs u ((a).Proof).length w), (vi ((a).Epoch)), (vi ((a).Seq)), (vs y ((a).Body).length A), (vs B ((a).Tag).length C)] wN isAgg_40 sizeOf_40 e8 ?_
  have eA := (((((((T.ch e (Ne.symm (nN (nL hgl (j))))).kp D).ch l (nN (nL F (nT e.size f)))).ch i (Ne.symm (nN (nL hgl (j))))).kp br).ch bP (Ne.symm (nN (nL hgl (j))))).ch bQ (nN (nL F (nT e.size f))))
  refine sv [(vi ((a).Kind)), (vi ((a).Id)), (vs m ((a).Cn).length p), (vs q ((a).Sn).length r), (vi (af)), (vs s ((a).Cookie).length t), (vs u ((a).Proof).length w), (vi ((a).Epoch)), (vi ((a).Seq)), (vs y ((a).Body).length A), (vs B ((a).Tag).length C)] wN sizeOf_40 eA ?_
  intro ao cu eB im
  have cK := ChG.ext e9 cu (fun k hk => .inr (by subst hk; exact j))
  refine n3 ?_
  have aW := fun (E sz n : Nat) (v : Value) (G : List Value) (o : World.ownsRow P O.heap.size E sz v n G) (h : World.ownsRow P O.heap.size E sz v n G) => (own_ch (own_ch (own_ch (own_kp (own_ch (own_ch (own_kp o D) l (ne2 h (f))) i (ne1 h (nL hgl b.size))) br) bP (ne1 h (nL hgl b.size))) bQ (ne2 h (f))) cu (ne1 h (F)))
  have eC := (aW _ _ _ _ _ I I)
  have eD := (aW _ _ _ _ _ J J)
  have eE := (aW _ _ _ _ _ K K)
  have eF := (aW _ _ _ _ _ L L)
  have eG := (aW _ _ _ _ _ M M)
  have eH := (aW _ _ _ _ _ N N)
  refine ret_1 (.inl rfl) (va [(vi ((a).Kind)), (vi ((a).Id)), (vs m ((a).Cn).length p), (vs q ((a).Sn).length r), (vi (af)), (vs s ((a).Cookie).length t), (vs u ((a).Proof).length w), (vi ((a).Epoch)), (vi ((a).Seq)), (vs y ((a).Body).length A), (vs B ((a).Tag).length C)]) rfl (rv_c [(vi ((a).Kind)), (vi ((a).Id)), (vs m ((a).Cn).length p), (vs q ((a).Sn).length r), (vi (af)), (vs s ((a).Cookie).length t), (vs u ((a).Proof).length w), (vi ((a).Epoch)), (vi ((a).Seq)), (vs y ((a).Body).length A), (vs B ((a).Tag).length C)] rfl eB isAgg_40 sizeOf_40) ?_
  have eI := ((e4.ch bQ (nN (nL hgl (nT (z2 b e) f)))).ch cu (nN (nL hgl (j))))
  exact ⟨{ Kind := (a).Kind, Id := (a).Id, Cn := (a).Cn, Sn := (a).Sn, Tick := (af), Cookie := (a).Cookie, Proof := (a).Proof, Epoch := (a).Epoch, Seq := (a).Seq, Body := (a).Body, Tag := (a).Tag : PFrame }, cK, ⟨_, _, eI, (Rd.chP hcr cK hcn), hcl, (by omega), hcn⟩, ⟨_, _, _, _, _, _, _, _, _, _, _, _, rfl, (own_lo eC b.size), Y, (own_lo eD b.size), Z, (own_lo eE b.size), aa, (own_lo eF b.size), ab, (own_lo eG b.size), ac, (own_lo eH b.size), ad, ⟨⟨(d.1.1), ⟨(d.1.2.1), ⟨(d.1.2.2.1), ⟨(d.1.2.2.2.1), ⟨(d.1.2.2.2.2.1), trivial⟩⟩⟩⟩⟩, ⟨⟨(d.2.1.1), ⟨(d.2.1.2.1), ⟨(d.2.1.2.2.1), ⟨(d.2.1.2.2.2.1), trivial⟩⟩⟩⟩, ⟨⟨(d.2.2.1.1), ⟨(d.2.2.1.2.1), ⟨(d.2.2.1.2.2.1), trivial⟩⟩⟩, ⟨⟨(d.2.2.2.1.1), ⟨(d.2.2.2.1.2.1), trivial⟩⟩, ⟨⟨(d.2.2.2.2.1.1), trivial⟩, ⟨trivial, trivial⟩⟩⟩⟩⟩⟩⟩, trivial⟩
 have io := dF bq
 refine cf bq ?_
 refine sr ?_
 refine pu (vb (decide ((H) = 5))) wN ?_
 refine aw (vb (decide ((H) = 5))) ?_
 refine n2 ?_
 rcases bt (decide ((H) = 5)) with bu | bu
 ·have ip := dT bu
  refine ct bu ?_
  refine wc_region ?_
  refine mw (vp g 0) ?_
  refine mw (vp g 0) ?_
  refine ltI ([0, 15, 16] : List Int) wN slTy_67 ?_
  intro iq ir Q au cL
  have cM := ChG.extk S au
  have eJ := (W.kp au)
  refine cl wN (csl1Int Q g ca cc cb ⟨_, _, eJ, (Rd.chP hcr cM hcn), hcl, (by omega), hcn⟩ _ ([0, 15, 16] : List Int) ⟨_, _, rfl, (Rd.of_own cL), (by simp), (fun _ z hz => by have am := (own_lt cL z.block (by rw [hz]; rfl)).1; have an := nL hgl (z5 b e D l i); omega)⟩ (by simp)) ?_
  rintro _ R ⟨bR, a5, ⟨it, iu, eK, iv, iw, iy, iz⟩, rfl, eL⟩
  have cN := ChG.ext cM a5 (fun k hk => .inl hk)
  have q305m : bR = 0 ∨ bR = 15 ∨ bR = 16 := by simpa only [List.mem_cons, List.not_mem_nil, or_false] using eL
  refine cl wN (csl1Bytes R g ca cc cb ⟨_, _, eK, (Rd.chP hcr cN hcn), hcl, (by omega), hcn⟩ (bR) (by omega)) ?_
  rintro _ aj ⟨a6, bS, ⟨i0, i1, eM, i2, i3, i4, i5⟩, ⟨aL, aM, rfl, a7, eN, i6⟩, i7⟩
  have eO := ChG.ext cN bS (fun k hk => .inl hk)
  refine pu (vp ae 5) wN ?_
  have cv := nT (z2 b e) f
  have eP := ((((V.ch i (Ne.symm (nN (nL hgl cv)))).kp au).ch a5 (Ne.symm (nN (nL hgl cv)))).ch bS (Ne.symm (nN (nL hgl cv))))
  refine st (vs aL (a6).length aM) [(vs aL (a6).length aM)] [(vi ((a).Kind)), (vi ((a).Id)), (vs m ((a).Cn).length p), (vs q ((a).Sn).length r), (vi ((a).Tick)), (vs aL (a6).length aM), (vs u ((a).Proof).length w), (vi ((a).Epoch)), (vi ((a).Seq)), (vs y ((a).Body).length A), (vs B ((a).Tag).length C)] wN sizeOf_22 eP ?_
  intro ao bv eQ i8
  have eR := ChG.ext eO bv (fun k hk => .inr (by subst hk; exact nT (z2 b e) f))
  refine wl_nil <| wq_blk_normal <| wq_then <| sr ?_
  refine lN [(vi ((a).Kind)), (vi ((a).Id)), (vs m ((a).Cn).length p), (vs q ((a).Sn).length r), (vi ((a).Tick)), (vs aL (a6).length aM), (vs u ((a).Proof).length w), (vi ((a).Epoch)), (vi ((a).Seq)), (vs y ((a).Body).length A), (vs B ((a).Tag).length C)] wN isAgg_40 sizeOf_40 eQ ?_
  have eS := ((((((((T.ch e (Ne.symm (nN (nL hgl (j))))).kp D).ch l (nN (nL F (nT e.size f)))).ch i (Ne.symm (nN (nL hgl (j))))).kp au).ch a5 (Ne.symm (nN (nL hgl (j))))).ch bS (Ne.symm (nN (nL hgl (j))))).ch bv (nN (nL F (nT e.size f))))
  refine sv [(vi ((a).Kind)), (vi ((a).Id)), (vs m ((a).Cn).length p), (vs q ((a).Sn).length r), (vi ((a).Tick)), (vs aL (a6).length aM), (vs u ((a).Proof).length w), (vi ((a).Epoch)), (vi ((a).Seq)), (vs y ((a).Body).length A), (vs B ((a).Tag).length C)] wN sizeOf_40 eS ?_
  intro bi bT eT i9
  have cO := ChG.ext eR bT (fun k hk => .inr (by subst hk; exact j))
  refine n3 ?_
  have bw := fun (E sz n : Nat) (v : Value) (G : List Value) (o : World.ownsRow P O.heap.size E sz v n G) (h : World.ownsRow P O.heap.size E sz v n G) => (own_ch (own_ch (own_ch (own_ch (own_kp (own_ch (own_ch (own_kp o D) l (ne2 h (f))) i (ne1 h (nL hgl b.size))) au) a5 (ne1 h (nL hgl b.size))) bS (ne1 h (nL hgl b.size))) bv (ne2 h (f))) bT (ne1 h (F)))
  have eU := (bw _ _ _ _ _ I I)
  have eV := (bw _ _ _ _ _ J J)
  have eW := (own_ch (own_ch a7 bv (ne1 a7 (nL aT (z4 l i au a5)))) bT (ne1 a7 (nL F (z6 e D l i au a5))))
  have eX := (bw _ _ _ _ _ L L)
  have eY := (bw _ _ _ _ _ M M)
  have eZ := (bw _ _ _ _ _ N N)
  refine ret_1 (.inl rfl) (va [(vi ((a).Kind)), (vi ((a).Id)), (vs m ((a).Cn).length p), (vs q ((a).Sn).length r), (vi ((a).Tick)), (vs aL (a6).length aM), (vs u ((a).Proof).length w), (vi ((a).Epoch)), (vi ((a).Seq)), (vs y ((a).Body).length A), (vs B ((a).Tag).length C)]) rfl (rv_c [(vi ((a).Kind)), (vi ((a).Id)), (vs m ((a).Cn).length p), (vs q ((a).Sn).length r), (vi ((a).Tick)), (vs aL (a6).length aM), (vs u ((a).Proof).length w), (vi ((a).Epoch)), (vi ((a).Seq)), (vs y ((a).Body).length A), (vs B ((a).Tag).length C)] rfl eT isAgg_40 sizeOf_40) ?_
  have fa := ((eM.ch bv (nN (nL hgl (nT (z2 b e) f)))).ch bT (nN (nL hgl (j))))
  have bz := z5 D l i au a5
  exact ⟨{ Kind := (a).Kind, Id := (a).Id, Cn := (a).Cn, Sn := (a).Sn, Tick := (a).Tick, Cookie := (a6), Proof := (a).Proof, Epoch := (a).Epoch, Seq := (a).Seq, Body := (a).Body, Tag := (a).Tag : PFrame }, cO, ⟨_, _, fa, (Rd.chP hcr cO hcn), hcl, (by omega), hcn⟩, ⟨_, _, _, _, _, _, _, _, _, _, _, _, rfl, (own_lo eU b.size), Y, (own_lo eV b.size), Z, (own_lo eW (z7 b e D l i au a5)), eN, (own_lo eX b.size), ab, (own_lo eY b.size), ac, (own_lo eZ b.size), ad, ⟨⟨(d.1.1), ⟨(Ap.lt I a7 bz), ⟨(d.1.2.2.1), ⟨(d.1.2.2.2.1), ⟨(d.1.2.2.2.2.1), trivial⟩⟩⟩⟩⟩, ⟨⟨(Ap.lt J a7 bz), ⟨(d.2.1.2.1), ⟨(d.2.1.2.2.1), ⟨(d.2.1.2.2.2.1), trivial⟩⟩⟩⟩, ⟨⟨(Ap.lt L a7 bz).symm, ⟨(Ap.lt M a7 bz).symm, ⟨(Ap.lt N a7 bz).symm, trivial⟩⟩⟩, ⟨⟨(d.2.2.2.1.1), ⟨(d.2.2.2.1.2.1), trivial⟩⟩, ⟨⟨(d.2.2.2.2.1.1), trivial⟩, ⟨trivial, trivial⟩⟩⟩⟩⟩⟩⟩, trivial⟩
 have iA := dF bu
 refine cf bu ?_
 refine sr ?_
 refine pu (vb (decide ((H) = 6))) wN ?_
 refine aw (vb (decide ((H) = 6))) ?_
 refine n2 ?_
 rcases bt (decide ((H) = 6)) with b0 | b0
 ·have iB := dT b0
  refine ct b0 ?_
  refine wc_region ?_
  refine mw (vp g 0) ?_
  refine mw (vp g 0) ?_
  refine ltI ([0, 15, 16] : List Int) wN slTy_67 ?_
  intro iC iD Q av cP
  have cQ := ChG.extk S av
  have fb := (W.kp av)
  refine cl wN (csl1Int Q g ca cc cb ⟨_, _, fb, (Rd.chP hcr cQ hcn), hcl, (by omega), hcn⟩ _ ([0, 15, 16] : List Int) ⟨_, _, rfl, (Rd.of_own cP), (by simp), (fun _ z hz => by have am := (own_lt cP z.block (by rw [hz]; rfl)).1; have an := nL hgl (z5 b e D l i); omega)⟩ (by simp)) ?_
  rintro _ R ⟨bU, a8, ⟨iE, iF, fc, iG, iH, iI, iJ⟩, rfl, fd⟩
  have cR := ChG.ext cQ a8 (fun k hk => .inl hk)
  have q361m : bU = 0 ∨ bU = 15 ∨ bU = 16 := by simpa only [List.mem_cons, List.not_mem_nil, or_false] using fd
  refine cl wN (csl1Bytes R g ca cc cb ⟨_, _, fc, (Rd.chP hcr cR hcn), hcl, (by omega), hcn⟩ (bU) (by omega)) ?_
  rintro _ aj ⟨a9, bW, ⟨iK, iL, fe, iM, iN, iO, iP⟩, ⟨aN, aO, rfl, aA, ff, iQ⟩, iR⟩
  have fg := ChG.ext cR bW (fun k hk => .inl hk)
  refine pu (vp ae 6) wN ?_
  have cw := nT (z2 b e) f
  have fh := ((((V.ch i (Ne.symm (nN (nL hgl cw)))).kp av).ch a8 (Ne.symm (nN (nL hgl cw)))).ch bW (Ne.symm (nN (nL hgl cw))))
  refine st (vs aN (a9).length aO) [(vs aN (a9).length aO)] [(vi ((a).Kind)), (vi ((a).Id)), (vs m ((a).Cn).length p), (vs q ((a).Sn).length r), (vi ((a).Tick)), (vs s ((a).Cookie).length t), (vs aN (a9).length aO), (vi ((a).Epoch)), (vi ((a).Seq)), (vs y ((a).Body).length A), (vs B ((a).Tag).length C)] wN sizeOf_22 fh ?_
  intro ao b1 fi iS
  have fj := ChG.ext fg b1 (fun k hk => .inr (by subst hk; exact nT (z2 b e) f))
  refine wl_nil <| wq_blk_normal <| wq_then <| sr ?_
  refine lN [(vi ((a).Kind)), (vi ((a).Id)), (vs m ((a).Cn).length p), (vs q ((a).Sn).length r), (vi ((a).Tick)), (vs s ((a).Cookie).length t), (vs aN (a9).length aO), (vi ((a).Epoch)), (vi ((a).Seq)), (vs y ((a).Body).length A), (vs B ((a).Tag).length C)] wN isAgg_40 sizeOf_40 fi ?_
  have fk := ((((((((T.ch e (Ne.symm (nN (nL hgl (j))))).kp D).ch l (nN (nL F (nT e.size f)))).ch i (Ne.symm (nN (nL hgl (j))))).kp av).ch a8 (Ne.symm (nN (nL hgl (j))))).ch bW (Ne.symm (nN (nL hgl (j))))).ch b1 (nN (nL F (nT e.size f))))
  refine sv [(vi ((a).Kind)), (vi ((a).Id)), (vs m ((a).Cn).length p), (vs q ((a).Sn).length r), (vi ((a).Tick)), (vs s ((a).Cookie).length t), (vs aN (a9).length aO), (vi ((a).Epoch)), (vi ((a).Seq)), (vs y ((a).Body).length A), (vs B ((a).Tag).length C)] wN sizeOf_40 fk ?_
  intro bi bX fl iT
  have cS := ChG.ext fj bX (fun k hk => .inr (by subst hk; exact j))
  refine n3 ?_
  have b2 := fun (E sz n : Nat) (v : Value) (G : List Value) (o : World.ownsRow P O.heap.size E sz v n G) (h : World.ownsRow P O.heap.size E sz v n G) => (own_ch (own_ch (own_ch (own_ch (own_kp (own_ch (own_ch (own_kp o D) l (ne2 h (f))) i (ne1 h (nL hgl b.size))) av) a8 (ne1 h (nL hgl b.size))) bW (ne1 h (nL hgl b.size))) b1 (ne2 h (f))) bX (ne1 h (F)))
  have fm := (b2 _ _ _ _ _ I I)
  have fo := (b2 _ _ _ _ _ J J)
  have fp := (b2 _ _ _ _ _ K K)
  have fq := (own_ch (own_ch aA b1 (ne1 aA (nL aT (z4 l i av a8)))) bX (ne1 aA (nL F (z6 e D l i av a8))))
  have fr := (b2 _ _ _ _ _ M M)
  have fs := (b2 _ _ _ _ _ N N)
  refine ret_1 (.inl rfl) (va [(vi ((a).Kind)), (vi ((a).Id)), (vs m ((a).Cn).length p), (vs q ((a).Sn).length r), (vi ((a).Tick)), (vs s ((a).Cookie).length t), (vs aN (a9).length aO), (vi ((a).Epoch)), (vi ((a).Seq)), (vs y ((a).Body).length A), (vs B ((a).Tag).length C)]) rfl (rv_c [(vi ((a).Kind)), (vi ((a).Id)), (vs m ((a).Cn).length p), (vs q ((a).Sn).length r), (vi ((a).Tick)), (vs s ((a).Cookie).length t), (vs aN (a9).length aO), (vi ((a).Epoch)), (vi ((a).Seq)), (vs y ((a).Body).length A), (vs B ((a).Tag).length C)] rfl fl isAgg_40 sizeOf_40) ?_
  have ft := ((fe.ch b1 (nN (nL hgl (nT (z2 b e) f)))).ch bX (nN (nL hgl (j))))
  have b3 := z5 D l i av a8
  exact ⟨{ Kind := (a).Kind, Id := (a).Id, Cn := (a).Cn, Sn := (a).Sn, Tick := (a).Tick, Cookie := (a).Cookie, Proof := (a9), Epoch := (a).Epoch, Seq := (a).Seq, Body := (a).Body, Tag := (a).Tag : PFrame }, cS, ⟨_, _, ft, (Rd.chP hcr cS hcn), hcl, (by omega), hcn⟩, ⟨_, _, _, _, _, _, _, _, _, _, _, _, rfl, (own_lo fm b.size), Y, (own_lo fo b.size), Z, (own_lo fp b.size), aa, (own_lo fq (z7 b e D l i av a8)), ff, (own_lo fr b.size), ac, (own_lo fs b.size), ad, ⟨⟨(d.1.1), ⟨(d.1.2.1), ⟨(Ap.lt I aA b3), ⟨(d.1.2.2.2.1), ⟨(d.1.2.2.2.2.1), trivial⟩⟩⟩⟩⟩, ⟨⟨(d.2.1.1), ⟨(Ap.lt J aA b3), ⟨(d.2.1.2.2.1), ⟨(d.2.1.2.2.2.1), trivial⟩⟩⟩⟩, ⟨⟨(Ap.lt K aA b3), ⟨(d.2.2.1.2.1), ⟨(d.2.2.1.2.2.1), trivial⟩⟩⟩, ⟨⟨(Ap.lt M aA b3).symm, ⟨(Ap.lt N aA b3).symm, trivial⟩⟩, ⟨⟨(d.2.2.2.2.1.1), trivial⟩, ⟨trivial, trivial⟩⟩⟩⟩⟩⟩⟩, trivial⟩
 have iU := dF b0
 refine cf b0 ?_
 refine sr ?_
 refine pu (vb (decide ((H) = 7))) wN ?_
 refine aw (vb (decide ((H) = 7))) ?_
 refine n2 ?_
 rcases bt (decide ((H) = 7)) with b4 | b4
 ·have iW := dT b4
  refine ct b4 ?_
  refine wc_region ?_
  refine mw (vp g 0) ?_
  refine ltI ([(-1), 0, 4294967296] : List Int) wN slTy_67 ?_
  intro iX iY Q b5 cT
  have cU := ChG.extk S b5
  have fu := (W.kp b5)
  refine cl wN (csl1Int Q g ca cc cb ⟨_, _, fu, (Rd.chP hcr cU hcn), hcl, (by omega), hcn⟩ _ ([(-1), 0, 4294967296] : List Int) ⟨_, _, rfl, (Rd.of_own cT), (by simp), (fun _ z hz => by have am := (own_lt cT z.block (by rw [hz]; rfl)).1; have an := nL hgl (z5 b e D l i); omega)⟩ (by simp)) ?_
  rintro _ R ⟨ah, bY, ⟨iZ, ja, fv, jb, jc, jd, je⟩, rfl, fw⟩
  have fx := ChG.ext cU bY (fun k hk => .inl hk)
  have q417m : ah = (-1) ∨ ah = 0 ∨ ah = 4294967296 := by simpa only [List.mem_cons, List.not_mem_nil, or_false] using fw
  refine pu (vp ae 7) wN ?_
  have fy := (((V.ch i (Ne.symm (nN (nL hgl (nT (z2 b e) f))))).kp b5).ch bY (Ne.symm (nN (nL hgl (nT (z2 b e) f)))))
  refine st (vi (ah)) [(vi (ah))] [(vi ((a).Kind)), (vi ((a).Id)), (vs m ((a).Cn).length p), (vs q ((a).Sn).length r), (vi ((a).Tick)), (vs s ((a).Cookie).length t), (vs u ((a).Proof).length w), (vi (ah)), (vi ((a).Seq)), (vs y ((a).Body).length A), (vs B ((a).Tag).length C)] wN sizeOf_3 fy ?_
  intro aj bZ fz jf
  have f0 := ChG.ext fx bZ (fun k hk => .inr (by subst hk; exact nT (z2 b e) f))
  refine wl_nil <| wq_blk_normal <| wq_then <| sr ?_
  refine lN [(vi ((a).Kind)), (vi ((a).Id)), (vs m ((a).Cn).length p), (vs q ((a).Sn).length r), (vi ((a).Tick)), (vs s ((a).Cookie).length t), (vs u ((a).Proof).length w), (vi (ah)), (vi ((a).Seq)), (vs y ((a).Body).length A), (vs B ((a).Tag).length C)] wN isAgg_40 sizeOf_40 fz ?_
  have f3 := (((((((T.ch e (Ne.symm (nN (nL hgl (j))))).kp D).ch l (nN (nL F (nT e.size f)))).ch i (Ne.symm (nN (nL hgl (j))))).kp b5).ch bY (Ne.symm (nN (nL hgl (j))))).ch bZ (nN (nL F (nT e.size f))))
  refine sv [(vi ((a).Kind)), (vi ((a).Id)), (vs m ((a).Cn).length p), (vs q ((a).Sn).length r), (vi ((a).Tick)), (vs s ((a).Cookie).length t), (vs u ((a).Proof).length w), (vi (ah)), (vi ((a).Seq)), (vs y ((a).Body).length A), (vs B ((a).Tag).length C)] wN sizeOf_40 f3 ?_
  intro ao cx f4 jg
  have cV := ChG.ext f0 cx (fun k hk => .inr (by subst hk; exact j))
  refine n3 ?_
  have aX := fun (E sz n : Nat) (v : Value) (G : List Value) (o : World.ownsRow P O.heap.size E sz v n G) (h : World.ownsRow P O.heap.size E sz v n G) => (own_ch (own_ch (own_ch (own_kp (own_ch (own_ch (own_kp o D) l (ne2 h (f))) i (ne1 h (nL hgl b.size))) b5) bY (ne1 h (nL hgl b.size))) bZ (ne2 h (f))) cx (ne1 h (F)))
  have f5 := (aX _ _ _ _ _ I I)
  have f6 := (aX _ _ _ _ _ J J)
  have f7 := (aX _ _ _ _ _ K K)
  have f8 := (aX _ _ _ _ _ L L)
  have f9 := (aX _ _ _ _ _ M M)
  have fA := (aX _ _ _ _ _ N N)
  refine ret_1 (.inl rfl) (va [(vi ((a).Kind)), (vi ((a).Id)), (vs m ((a).Cn).length p), (vs q ((a).Sn).length r), (vi ((a).Tick)), (vs s ((a).Cookie).length t), (vs u ((a).Proof).length w), (vi (ah)), (vi ((a).Seq)), (vs y ((a).Body).length A), (vs B ((a).Tag).length C)]) rfl (rv_c [(vi ((a).Kind)), (vi ((a).Id)), (vs m ((a).Cn).length p), (vs q ((a).Sn).length r), (vi ((a).Tick)), (vs s ((a).Cookie).length t), (vs u ((a).Proof).length w), (vi (ah)), (vi ((a).Seq)), (vs y ((a).Body).length A), (vs B ((a).Tag).length C)] rfl f4 isAgg_40 sizeOf_40) ?_
  have fB := ((fv.ch bZ (nN (nL hgl (nT (z2 b e) f)))).ch cx (nN (nL hgl (j))))
  exact ⟨{ Kind := (a).Kind, Id := (a).Id, Cn := (a).Cn, Sn := (a).Sn, Tick := (a).Tick, Cookie := (a).Cookie, Proof := (a).Proof, Epoch := (ah), Seq := (a).Seq, Body := (a).Body, Tag := (a).Tag : PFrame }, cV, ⟨_, _, fB, (Rd.chP hcr cV hcn), hcl, (by omega), hcn⟩, ⟨_, _, _, _, _, _, _, _, _, _, _, _, rfl, (own_lo f5 b.size), Y, (own_lo f6 b.size), Z, (own_lo f7 b.size), aa, (own_lo f8 b.size), ab, (own_lo f9 b.size), ac, (own_lo fA b.size), ad, ⟨⟨(d.1.1), ⟨(d.1.2.1), ⟨(d.1.2.2.1), ⟨(d.1.2.2.2.1), ⟨(d.1.2.2.2.2.1), trivial⟩⟩⟩⟩⟩, ⟨⟨(d.2.1.1), ⟨(d.2.1.2.1), ⟨(d.2.1.2.2.1), ⟨(d.2.1.2.2.2.1), trivial⟩⟩⟩⟩, ⟨⟨(d.2.2.1.1), ⟨(d.2.2.1.2.1), ⟨(d.2.2.1.2.2.1), trivial⟩⟩⟩, ⟨⟨(d.2.2.2.1.1), ⟨(d.2.2.2.1.2.1), trivial⟩⟩, ⟨⟨(d.2.2.2.2.1.1), trivial⟩, ⟨trivial, trivial⟩⟩⟩⟩⟩⟩⟩, trivial⟩
 have jh := dF b4
 refine cf b4 ?_
 refine sr ?_
 refine pu (vb (decide ((H) = 8))) wN ?_
 refine aw (vb (decide ((H) = 8))) ?_
 refine n2 ?_
 rcases bt (decide ((H) = 8)) with b6 | b6
 ·have ji := dT b6
  refine ct b6 ?_
  refine wc_region ?_
  refine mw (vp g 0) ?_
  refine ltI ([(-1), 0, 281474976710656] : List Int) wN slTy_67 ?_
  intro jj jk Q b7 cW
  have cX := ChG.extk S b7
  have fC := (W.kp b7)
  refine cl wN (csl1Int Q g ca cc cb ⟨_, _, fC, (Rd.chP hcr cX hcn), hcl, (by omega), hcn⟩ _ ([(-1), 0, 281474976710656] : List Int) ⟨_, _, rfl, (Rd.of_own cW), (by simp), (fun _ z hz => by have am := (own_lt cW z.block (by rw [hz]; rfl)).1; have an := nL hgl (z5 b e D l i); omega)⟩ (by simp)) ?_
  rintro _ R ⟨ai, cd, ⟨jl, jm, fD, jn, jo, jp, jq⟩, rfl, fE⟩
  have fF := ChG.ext cX cd (fun k hk => .inl hk)
  have q456m : ai = (-1) ∨ ai = 0 ∨ ai = 281474976710656 := by simpa only [List.mem_cons, List.not_mem_nil, or_false] using fE
  refine pu (vp ae 8) wN ?_
  have fG := (((V.ch i (Ne.symm (nN (nL hgl (nT (z2 b e) f))))).kp b7).ch cd (Ne.symm (nN (nL hgl (nT (z2 b e) f)))))
  refine st (vi (ai)) [(vi (ai))] [(vi ((a).Kind)), (vi ((a).Id)), (vs m ((a).Cn).length p), (vs q ((a).Sn).length r), (vi ((a).Tick)), (vs s ((a).Cookie).length t), (vs u ((a).Proof).length w), (vi ((a).Epoch)), (vi (ai)), (vs y ((a).Body).length A), (vs B ((a).Tag).length C)] wN sizeOf_3 fG ?_
  intro aj ce fH jr
  have fI := ChG.ext fF ce (fun k hk => .inr (by subst hk; exact nT (z2 b e) f))
  refine wl_nil <| wq_blk_normal <| wq_then <| sr ?_
  refine lN [(vi ((a).Kind)), (vi ((a).Id)), (vs m ((a).Cn).length p), (vs q ((a).Sn).length r), (vi ((a).Tick)), (vs s ((a).Cookie).length t), (vs u ((a).Proof).length w), (vi ((a).Epoch)), (vi (ai)), (vs y ((a).Body).length A), (vs B ((a).Tag).length C)] wN isAgg_40 sizeOf_40 fH ?_
  have fJ := (((((((T.ch e (Ne.symm (nN (nL hgl (j))))).kp D).ch l (nN (nL F (nT e.size f)))).ch i (Ne.symm (nN (nL hgl (j))))).kp b7).ch cd (Ne.symm (nN (nL hgl (j))))).ch ce (nN (nL F (nT e.size f))))
  refine sv [(vi ((a).Kind)), (vi ((a).Id)), (vs m ((a).Cn).length p), (vs q ((a).Sn).length r), (vi ((a).Tick)), (vs s ((a).Cookie).length t), (vs u ((a).Proof).length w), (vi ((a).Epoch)), (vi (ai)), (vs y ((a).Body).length A), (vs B ((a).Tag).length C)] wN sizeOf_40 fJ ?_
  intro ao cy fK js
  have cY := ChG.ext fI cy (fun k hk => .inr (by subst hk; exact j))
  refine n3 ?_
  have aY := fun (E sz n : Nat) (v : Value) (G : List Value) (o : World.ownsRow P O.heap.size E sz v n G) (h : World.ownsRow P O.heap.size E sz v n G) => (own_ch (own_ch (own_ch (own_kp (own_ch (own_ch (own_kp o D) l (ne2 h (f))) i (ne1 h (nL hgl b.size))) b7) cd (ne1 h (nL hgl b.size))) ce (ne2 h (f))) cy (ne1 h (F)))
  have fL := (aY _ _ _ _ _ I I)
  have fM := (aY _ _ _ _ _ J J)
  have fN := (aY _ _ _ _ _ K K)
  have fO := (aY _ _ _ _ _ L L)
  have fP := (aY _ _ _ _ _ M M)
  have fQ := (aY _ _ _ _ _ N N)
  refine ret_1 (.inl rfl) (va [(vi ((a).Kind)), (vi ((a).Id)), (vs m ((a).Cn).length p), (vs q ((a).Sn).length r), (vi ((a).Tick)), (vs s ((a).Cookie).length t), (vs u ((a).Proof).length w), (vi ((a).Epoch)), (vi (ai)), (vs y ((a).Body).length A), (vs B ((a).Tag).length C)]) rfl (rv_c [(vi ((a).Kind)), (vi ((a).Id)), (vs m ((a).Cn).length p), (vs q ((a).Sn).length r), (vi ((a).Tick)), (vs s ((a).Cookie).length t), (vs u ((a).Proof).length w), (vi ((a).Epoch)), (vi (ai)), (vs y ((a).Body).length A), (vs B ((a).Tag).length C)] rfl fK isAgg_40 sizeOf_40) ?_
  have fR := ((fD.ch ce (nN (nL hgl (nT (z2 b e) f)))).ch cy (nN (nL hgl (j))))
  exact ⟨{ Kind := (a).Kind, Id := (a).Id, Cn := (a).Cn, Sn := (a).Sn, Tick := (a).Tick, Cookie := (a).Cookie, Proof := (a).Proof, Epoch := (a).Epoch, Seq := (ai), Body := (a).Body, Tag := (a).Tag : PFrame }, cY, ⟨_, _, fR, (Rd.chP hcr cY hcn), hcl, (by omega), hcn⟩, ⟨_, _, _, _, _, _, _, _, _, _, _, _, rfl, (own_lo fL b.size), Y, (own_lo fM b.size), Z, (own_lo fN b.size), aa, (own_lo fO b.size), ab, (own_lo fP b.size), ac, (own_lo fQ b.size), ad, ⟨⟨(d.1.1), ⟨(d.1.2.1), ⟨(d.1.2.2.1), ⟨(d.1.2.2.2.1), ⟨(d.1.2.2.2.2.1), trivial⟩⟩⟩⟩⟩, ⟨⟨(d.2.1.1), ⟨(d.2.1.2.1), ⟨(d.2.1.2.2.1), ⟨(d.2.1.2.2.2.1), trivial⟩⟩⟩⟩, ⟨⟨(d.2.2.1.1), ⟨(d.2.2.1.2.1), ⟨(d.2.2.1.2.2.1), trivial⟩⟩⟩, ⟨⟨(d.2.2.2.1.1), ⟨(d.2.2.2.1.2.1), trivial⟩⟩, ⟨⟨(d.2.2.2.2.1.1), trivial⟩, ⟨trivial, trivial⟩⟩⟩⟩⟩⟩⟩, trivial⟩
 have jt := dF b6
 refine cf b6 ?_
 refine sr ?_
 refine pu (vb (decide ((H) = 9))) wN ?_
 refine aw (vb (decide ((H) = 9))) ?_
 refine n2 ?_
 rcases bt (decide ((H) = 9)) with b8 | b8
 ·have ju := dT b8
  refine ct b8 ?_
  refine wc_region ?_
  refine mw (vp g 0) ?_
  refine mw (vp g 0) ?_
  refine ltI ([0, 4, 12, 41] : List Int) wN slTy_67 ?_
  intro jv jw Q ax cZ
  have da := ChG.extk S ax
  have fS := (W.kp ax)
  refine cl wN (csl1Int Q g ca cc cb ⟨_, _, fS, (Rd.chP hcr da hcn), hcl, (by omega), hcn⟩ _ ([0, 4, 12, 41] : List Int) ⟨_, _, rfl, (Rd.of_own cZ), (by simp), (fun _ z hz => by have am := (own_lt cZ z.block (by rw [hz]; rfl)).1; have an := nL hgl (z5 b e D l i); omega)⟩ (by simp)) ?_
  rintro _ R ⟨b9, aB, ⟨jx, jy, fT, jz, j0, j1, j2⟩, rfl, fU⟩
  have db := ChG.ext da aB (fun k hk => .inl hk)
  have q495m : b9 = 0 ∨ b9 = 4 ∨ b9 = 12 ∨ b9 = 41 := by simpa only [List.mem_cons, List.not_mem_nil, or_false] using fU
  refine cl wN (csl1Bytes R g ca cc cb ⟨_, _, fT, (Rd.chP hcr db hcn), hcl, (by omega), hcn⟩ (b9) (by omega)) ?_
  rintro _ aj ⟨aC, cg, ⟨j3, j4, fV, j5, j6, j7, j8⟩, ⟨aP, aQ, rfl, aD, fW, j9⟩, jA⟩
  have fX := ChG.ext db cg (fun k hk => .inl hk)
  refine pu (vp ae 9) wN ?_
  have cz := nT (z2 b e) f
  have fY := ((((V.ch i (Ne.symm (nN (nL hgl cz)))).kp ax).ch aB (Ne.symm (nN (nL hgl cz)))).ch cg (Ne.symm (nN (nL hgl cz))))
  refine st (vs aP (aC).length aQ) [(vs aP (aC).length aQ)] [(vi ((a).Kind)), (vi ((a).Id)), (vs m ((a).Cn).length p), (vs q ((a).Sn).length r), (vi ((a).Tick)), (vs s ((a).Cookie).length t), (vs u ((a).Proof).length w), (vi ((a).Epoch)), (vi ((a).Seq)), (vs aP (aC).length aQ), (vs B ((a).Tag).length C)] wN sizeOf_22 fY ?_
  intro ao bA fZ jC
  have ga := ChG.ext fX bA (fun k hk => .inr (by subst hk; exact nT (z2 b e) f))
  refine wl_nil <| wq_blk_normal <| wq_then <| sr ?_
  refine lN [(vi ((a).Kind)), (vi ((a).Id)), (vs m ((a).Cn).length p), (vs q ((a).Sn).length r), (vi ((a).Tick)), (vs s ((a).Cookie).length t), (vs u ((a).Proof).length w), (vi ((a).Epoch)), (vi ((a).Seq)), (vs aP (aC).length aQ), (vs B ((a).Tag).length C)] wN isAgg_40 sizeOf_40 fZ ?_
  have gb := ((((((((T.ch e (Ne.symm (nN (nL hgl (j))))).kp D).ch l (nN (nL F (nT e.size f)))).ch i (Ne.symm (nN (nL hgl (j))))).kp ax).ch aB (Ne.symm (nN (nL hgl (j))))).ch cg (Ne.symm (nN (nL hgl (j))))).ch bA (nN (nL F (nT e.size f))))
  refine sv [(vi ((a).Kind)), (vi ((a).Id)), (vs m ((a).Cn).length p), (vs q ((a).Sn).length r), (vi ((a).Tick)), (vs s ((a).Cookie).length t), (vs u ((a).Proof).length w), (vi ((a).Epoch)), (vi ((a).Seq)), (vs aP (aC).length aQ), (vs B ((a).Tag).length C)] wN sizeOf_40 gb ?_
  intro bi cj gd jD
  have dc := ChG.ext ga cj (fun k hk => .inr (by subst hk; exact j))
  refine n3 ?_
  have bB := fun (E sz n : Nat) (v : Value) (G : List Value) (o : World.ownsRow P O.heap.size E sz v n G) (h : World.ownsRow P O.heap.size E sz v n G) => (own_ch (own_ch (own_ch (own_ch (own_kp (own_ch (own_ch (own_kp o D) l (ne2 h (f))) i (ne1 h (nL hgl b.size))) ax) aB (ne1 h (nL hgl b.size))) cg (ne1 h (nL hgl b.size))) bA (ne2 h (f))) cj (ne1 h (F)))
  have ge := (bB _ _ _ _ _ I I)
  have gf := (bB _ _ _ _ _ J J)
  have gg := (bB _ _ _ _ _ K K)
  have gh := (bB _ _ _ _ _ L L)
  have gi := (own_ch (own_ch aD bA (ne1 aD (nL aT (z4 l i ax aB)))) cj (ne1 aD (nL F (z6 e D l i ax aB))))
  have gj := (bB _ _ _ _ _ N N)
  refine ret_1 (.inl rfl) (va [(vi ((a).Kind)), (vi ((a).Id)), (vs m ((a).Cn).length p), (vs q ((a).Sn).length r), (vi ((a).Tick)), (vs s ((a).Cookie).length t), (vs u ((a).Proof).length w), (vi ((a).Epoch)), (vi ((a).Seq)), (vs aP (aC).length aQ), (vs B ((a).Tag).length C)]) rfl (rv_c [(vi ((a).Kind)), (vi ((a).Id)), (vs m ((a).Cn).length p), (vs q ((a).Sn).length r), (vi ((a).Tick)), (vs s ((a).Cookie).length t), (vs u ((a).Proof).length w), (vi ((a).Epoch)), (vi ((a).Seq)), (vs aP (aC).length aQ), (vs B ((a).Tag).length C)] rfl gd isAgg_40 sizeOf_40) ?_
  have gk := ((fV.ch bA (nN (nL hgl (nT (z2 b e) f)))).ch cj (nN (nL hgl (j))))
  have bC := z5 D l i ax aB
  exact ⟨{ Kind := (a).Kind, Id := (a).Id, Cn := (a).Cn, Sn := (a).Sn, Tick := (a).Tick, Cookie := (a).Cookie, Proof := (a).Proof, Epoch := (a).Epoch, Seq := (a).Seq, Body := (aC), Tag := (a).Tag : PFrame }, dc, ⟨_, _, gk, (Rd.chP hcr dc hcn), hcl, (by omega), hcn⟩, ⟨_, _, _, _, _, _, _, _, _, _, _, _, rfl, (own_lo ge b.size), Y, (own_lo gf b.size), Z, (own_lo gg b.size), aa, (own_lo gh b.size), ab, (own_lo gi (z7 b e D l i ax aB)), fW, (own_lo gj b.size), ad, ⟨⟨(d.1.1), ⟨(d.1.2.1), ⟨(d.1.2.2.1), ⟨(Ap.lt I aD bC), ⟨(d.1.2.2.2.2.1), trivial⟩⟩⟩⟩⟩, ⟨⟨(d.2.1.1), ⟨(d.2.1.2.1), ⟨(Ap.lt J aD bC), ⟨(d.2.1.2.2.2.1), trivial⟩⟩⟩⟩, ⟨⟨(d.2.2.1.1), ⟨(Ap.lt K aD bC), ⟨(d.2.2.1.2.2.1), trivial⟩⟩⟩, ⟨⟨(Ap.lt L aD bC), ⟨(d.2.2.2.1.2.1), trivial⟩⟩, ⟨⟨(Ap.lt N aD bC).symm, trivial⟩, ⟨trivial, trivial⟩⟩⟩⟩⟩⟩⟩, trivial⟩
 have jE := dF b8
 refine cf b8 ?_
 refine sr ?_
 refine pu (vb (decide ((H) = 10))) wN ?_
 refine aw (vb (decide ((H) = 10))) ?_
 refine n2 ?_
 rcases bf (decide ((H) = 10)) with bD | bD
 ·have jF := dF bD
  refine cf bD ?_
  refine wc_skip <| wq_blk_normal <| wq_then <| sr ?_
  have gl := (V.ch i (Ne.symm (nN (nL hgl (nT (z2 b e) f)))))
  refine lN (L_40 (a) m p q r s t u w y A B C) wN isAgg_40 sizeOf_40 gl ?_
  have gm := ((((T.ch e (Ne.symm (nN (nL hgl (j))))).kp D).ch l (nN (nL F (nT e.size f)))).ch i (Ne.symm (nN (nL hgl (j)))))
  refine sv (L_40 (a) m p q r s t u w y A B C) wN sizeOf_40 gm ?_
  intro Q c0 gn jG
  have dd := ChG.ext S c0 (fun k hk => .inr (by subst hk; exact j))
  refine n3 ?_
  have aZ := fun (E sz n : Nat) (v : Value) (G : List Value) (o : World.ownsRow P O.heap.size E sz v n G) (h : World.ownsRow P O.heap.size E sz v n G) => (own_ch (own_ch (own_ch (own_kp o D) l (ne2 h (f))) i (ne1 h (nL hgl b.size))) c0 (ne1 h (F)))
  have gp := (aZ _ _ _ _ _ I I)
  have gq := (aZ _ _ _ _ _ J J)
  have gr := (aZ _ _ _ _ _ K K)
  have gs := (aZ _ _ _ _ _ L L)
  have gt := (aZ _ _ _ _ _ M M)
  have gu := (aZ _ _ _ _ _ N N)
  refine ret_1 (.inl rfl) (va (L_40 (a) m p q r s t u w y A B C)) rfl (rv_c (L_40 (a) m p q r s t u w y A B C) rfl gn isAgg_40 sizeOf_40) ?_
  have gv := (W.ch c0 (nN (nL hgl (j))))
  exact ⟨(a), dd, ⟨_, _, gv, (Rd.chP hcr dd hcn), hcl, (by omega), hcn⟩, ⟨_, _, _, _, _, _, _, _, _, _, _, _, rfl, (own_lo gp b.size), Y, (own_lo gq b.size), Z, (own_lo gr b.size), aa, (own_lo gs b.size), ab, (own_lo gt b.size), ac, (own_lo gu b.size), ad, ⟨⟨(d.1.1), ⟨(d.1.2.1), ⟨(d.1.2.2.1), ⟨(d.1.2.2.2.1), ⟨(d.1.2.2.2.2.1), trivial⟩⟩⟩⟩⟩, ⟨⟨(d.2.1.1), ⟨(d.2.1.2.1), ⟨(d.2.1.2.2.1), ⟨(d.2.1.2.2.2.1), trivial⟩⟩⟩⟩, ⟨⟨(d.2.2.1.1), ⟨(d.2.2.1.2.1), ⟨(d.2.2.1.2.2.1), trivial⟩⟩⟩, ⟨⟨(d.2.2.2.1.1), ⟨(d.2.2.2.1.2.1), trivial⟩⟩, ⟨⟨(d.2.2.2.2.1.1), trivial⟩, ⟨trivial, trivial⟩⟩⟩⟩⟩⟩⟩, trivial⟩
 have jH := dT bD
 refine ct bD ?_
 refine wc_region ?_
 refine mw (vp g 0) ?_
 refine mw (vp g 0) ?_
 refine ltI ([0, 15, 17] : List Int) wN slTy_67 ?_
 intro jI jJ Q ay de
 have df := ChG.extk S ay
 have gw := (W.kp ay)
 refine cl wN (csl1Int Q g ca cc cb ⟨_, _, gw, (Rd.chP hcr df hcn), hcl, (by omega), hcn⟩ _ ([0, 15, 17] : List Int) ⟨_, _, rfl, (Rd.of_own de), (by simp), (fun _ z hz => by have am := (own_lt de z.block (by rw [hz]; rfl)).1; have an := nL hgl (z5 b e D l i); omega)⟩ (by simp)) ?_
 rintro _ R ⟨ck, aE, ⟨jK, jL, gx, jM, jN, jO, jP⟩, rfl, gy⟩
 have dg := ChG.ext df aE (fun k hk => .inl hk)
 have q551m : ck = 0 ∨ ck = 15 ∨ ck = 17 := by simpa only [List.mem_cons, List.not_mem_nil, or_false] using gy
 refine cl wN (csl1Bytes R g ca cc cb ⟨_, _, gx, (Rd.chP hcr dg hcn), hcl, (by omega), hcn⟩ (ck) (by omega)) ?_
 rintro _ aj ⟨aF, cm, ⟨jQ, jR, gz, jS, jT, jU, jV⟩, ⟨aR, aS, rfl, aG, g0, jW⟩, jX⟩
 have g1 := ChG.ext dg cm (fun k hk => .inl hk)
 refine pu (vp ae 10) wN ?_
 have c1 := nT (z2 b e) f
 have g2 := ((((V.ch i (Ne.symm (nN (nL hgl c1)))).kp ay).ch aE (Ne.symm (nN (nL hgl c1)))).ch cm (Ne.symm (nN (nL hgl c1))))
 refine st (vs aR (aF).length aS) [(vs aR (aF).length aS)] [(vi ((a).Kind)), (vi ((a).Id)), (vs m ((a).Cn).length p), (vs q ((a).Sn).length r), (vi ((a).Tick)), (vs s ((a).Cookie).length t), (vs u ((a).Proof).length w), (vi ((a).Epoch)), (vi ((a).Seq)), (vs y ((a).Body).length A), (vs aR (aF).length aS)] wN sizeOf_22 g2 ?_
 intro ao bE g3 jY
 have g4 := ChG.ext g1 bE (fun k hk => .inr (by subst hk; exact nT (z2 b e) f))
 refine wl_nil <| wq_blk_normal <| wq_then <| sr ?_
 refine lN [(vi ((a).Kind)), (vi ((a).Id)), (vs m ((a).Cn).length p), (vs q ((a).Sn).length r), (vi ((a).Tick)), (vs s ((a).Cookie).length t), (vs u ((a).Proof).length w), (vi ((a).Epoch)), (vi ((a).Seq)), (vs y ((a).Body).length A), (vs aR (aF).length aS)] wN isAgg_40 sizeOf_40 g3 ?_
 have g5 := ((((((((T.ch e (Ne.symm (nN (nL hgl (j))))).kp D).ch l (nN (nL F (nT e.size f)))).ch i (Ne.symm (nN (nL hgl (j))))).kp ay).ch aE (Ne.symm (nN (nL hgl (j))))).ch cm (Ne.symm (nN (nL hgl (j))))).ch bE (nN (nL F (nT e.size f))))
 refine sv [(vi ((a).Kind)), (vi ((a).Id)), (vs m ((a).Cn).length p), (vs q ((a).Sn).length r), (vi ((a).Tick)), (vs s ((a).Cookie).length t), (vs u ((a).Proof).length w), (vi ((a).Epoch)), (vi ((a).Seq)), (vs y ((a).Body).length A), (vs aR (aF).length aS)] wN sizeOf_40 g5 ?_
 intro bi cn g6 jZ
 have dh := ChG.ext g4 cn (fun k hk => .inr (by subst hk; exact j))
 refine n3 ?_
 have bF := fun (E sz n : Nat) (v : Value) (G : List Value) (o : World.ownsRow P O.heap.size E sz v n G) (h : World.ownsRow P O.heap.size E sz v n G) => (own_ch (own_ch (own_ch (own_ch (own_kp (own_ch (own_ch (own_kp o D) l (ne2 h (f))) i (ne1 h (nL hgl b.size))) ay) aE (ne1 h (nL hgl b.size))) cm (ne1 h (nL hgl b.size))) bE (ne2 h (f))) cn (ne1 h (F)))
 have g7 := (bF _ _ _ _ _ I I)
 have g8 := (bF _ _ _ _ _ J J)
 have g9 := (bF _ _ _ _ _ K K)
 have gA := (bF _ _ _ _ _ L L)
 have gB := (bF _ _ _ _ _ M M)
 have gC := (own_ch (own_ch aG bE (ne1 aG (nL aT (z4 l i ay aE)))) cn (ne1 aG (nL F (z6 e D l i ay aE))))
 refine ret_1 (.inl rfl) (va [(vi ((a).Kind)), (vi ((a).Id)), (vs m ((a).Cn).length p), (vs q ((a).Sn).length r), (vi ((a).Tick)), (vs s ((a).Cookie).length t), (vs u ((a).Proof).length w), (vi ((a).Epoch)), (vi ((a).Seq)), (vs y ((a).Body).length A), (vs aR (aF).length aS)]) rfl (rv_c [(vi ((a).Kind)), (vi ((a).Id)), (vs m ((a).Cn).length p), (vs q ((a).Sn).length r), (vi ((a).Tick)), (vs s ((a).Cookie).length t), (vs u ((a).Proof).length w), (vi ((a).Epoch)), (vi ((a).Seq)), (vs y ((a).Body).length A), (vs aR (aF).length aS)] rfl g6 isAgg_40 sizeOf_40) ?_
 have gD := ((gz.ch bE (nN (nL hgl (nT (z2 b e) f)))).ch cn (nN (nL hgl (j))))
 have bG := z5 D l i ay aE
 exact ⟨{ Kind := (a).Kind, Id := (a).Id, Cn := (a).Cn, Sn := (a).Sn, Tick := (a).Tick, Cookie := (a).Cookie, Proof := (a).Proof, Epoch := (a).Epoch, Seq := (a).Seq, Body := (a).Body, Tag := (aF) : PFrame }, dh, ⟨_, _, gD, (Rd.chP hcr dh hcn), hcl, (by omega), hcn⟩, ⟨_, _, _, _, _, _, _, _, _, _, _, _, rfl, (own_lo g7 b.size), Y, (own_lo g8 b.size), Z, (own_lo g9 b.size), aa, (own_lo gA b.size), ab, (own_lo gB b.size), ac, (own_lo gC (z7 b e D l i ay aE)), g0, ⟨⟨(d.1.1), ⟨(d.1.2.1), ⟨(d.1.2.2.1), ⟨(d.1.2.2.2.1), ⟨(Ap.lt I aG bG), trivial⟩⟩⟩⟩⟩, ⟨⟨(d.2.1.1), ⟨(d.2.1.2.1), ⟨(d.2.1.2.2.1), ⟨(Ap.lt J aG bG), trivial⟩⟩⟩⟩, ⟨⟨(d.2.2.1.1), ⟨(d.2.2.1.2.1), ⟨(Ap.lt K aG bG), trivial⟩⟩⟩, ⟨⟨(d.2.2.2.1.1), ⟨(Ap.lt L aG bG), trivial⟩⟩, ⟨⟨(Ap.lt M aG bG), trivial⟩, ⟨trivial, trivial⟩⟩⟩⟩⟩⟩⟩, trivial⟩
end Go.Proofs.Ytfnagaidikejjaa.K
