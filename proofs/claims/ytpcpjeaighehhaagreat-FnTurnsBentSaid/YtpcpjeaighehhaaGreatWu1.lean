import Derived.Test.YtpcpjeaighehhaaGreatCore
import Derived.Test.YtpcpjeaighehhaaGreatProg
import Derived.Test.YtpcpjeaighehhaaGreatHeld
import Derived.Test.YtpcpjeaighehhaaGreatFun
import Derived.Test.YtpcpjeaighehhaaGreatFunZ
import Derived.Test.YtpcpjeaighehhaaGreatSqz
import Derived.Test.YtpcpjeaighehhaaGreatHash
import Derived.Test.YtpcpjeaighehhaaGreatCur
import Derived.Test.YtpcpjeaighehhaaGreatDrawW
import Derived.Test.YtpcpjeaighehhaaGreatAead
namespace Go.Proofs.YtpcpjeaighehhaaGreat.K
open Go.RowKit
set_option linter.unusedVariables false
set_option linter.unusedSimpArgs false
set_option maxRecDepth 100000
set_option maxHeartbeats 4000000
def tot_PWin (x : PWin) : Int := (x.Bits.length : Int)
def tot_PEp (x : PEp) : Int := (x.Key.length : Int) + tot_PWin x.Win
def tot_PChan (x : PChan) : Int := (x.Sn.length : Int) + tot_PEp x.Cur + tot_PEp x.Old + (x.Next.length : Int)
def mk_PChan (x : PChan) (k : Int) : PChan := { Role := x.Role, Sn := marksB k x.Sn.length, Cur := { N := x.Cur.N, Key := marksB (k + (x.Sn.length : Int)) x.Cur.Key.length, Seq := x.Cur.Seq, Win := { Top := x.Cur.Win.Top, Bits := marksI ((k + (x.Sn.length : Int)) + (x.Cur.Key.length : Int)) x.Cur.Win.Bits.length : PWin } : PEp }, Old := { N := x.Old.N, Key := marksB ((k + (x.Sn.length : Int)) + tot_PEp x.Cur) x.Old.Key.length, Seq := x.Old.Seq, Win := { Top := x.Old.Win.Top, Bits := marksI (((k + (x.Sn.length : Int)) + tot_PEp x.Cur) + (x.Old.Key.length : Int)) x.Old.Win.Bits.length : PWin } : PEp }, HasOld := x.HasOld, Until := x.Until, Next := marksB (((k + (x.Sn.length : Int)) + tot_PEp x.Cur) + tot_PEp x.Old) x.Next.length : PChan }
abbrev L_38 (x : PChan) (a : Option Addr) (b : Nat) (d : Option Addr) (e : Nat) (f : Option Addr) (g : Nat) (h : Option Addr) (i : Nat) (j : Option Addr) (k : Nat) (l : Option Addr) (m : Nat) : List Value := [vi x.Role, vs a x.Sn.length b, vi x.Cur.N, vs d x.Cur.Key.length e, vi x.Cur.Seq, vi x.Cur.Win.Top, vs f x.Cur.Win.Bits.length g, vi x.Old.N, vs h x.Old.Key.length i, vi x.Old.Seq, vi x.Old.Win.Top, vs j x.Old.Win.Bits.length k, vb x.HasOld, vi x.Until, vs l x.Next.length m]
def mk_PEp (x : PEp) (k : Int) : PEp := { N := x.N, Key := marksB k x.Key.length, Seq := x.Seq, Win := { Top := x.Win.Top, Bits := marksI (k + (x.Key.length : Int)) x.Win.Bits.length : PWin } : PEp }
abbrev L_36 (x : PEp) (a : Option Addr) (b : Nat) (d : Option Addr) (e : Nat) : List Value := [vi x.N, vs a x.Key.length b, vi x.Seq, vi x.Win.Top, vs d x.Win.Bits.length e]
def mk_PWin (x : PWin) (k : Int) : PWin := { Top := x.Top, Bits := marksI k x.Bits.length : PWin }
abbrev L_34 (x : PWin) (a : Option Addr) (b : Nat) : List Value := [vi x.Top, vs a x.Bits.length b]
theorem slTy_22 : SlTy Tryz.prog 22 5 1 1 (v8 0) := slTy Tryz.underlying22 (by kernel_rfl) rfl rfl
def R_38 (w : World) (v : Value) (x : (PChan)) : Prop := ∃ (a : Option Addr) (b : Nat) (d : Option Addr) (e : Nat) (f : Option Addr) (g : Nat) (h : Option Addr) (i : Nat) (j : Option Addr) (k : Nat) (l : Option Addr) (m : Nat), v = .agg #[.int .i64 x.Role, .slice a x.Sn.length b, .int .i64 x.Cur.N, .slice d x.Cur.Key.length e, .int .i64 x.Cur.Seq, .int .i64 x.Cur.Win.Top, .slice f x.Cur.Win.Bits.length g, .int .i64 x.Old.N, .slice h x.Old.Key.length i, .int .i64 x.Old.Seq, .int .i64 x.Old.Win.Top, .slice j x.Old.Win.Bits.length k, .bool x.HasOld, .int .i64 x.Until, .slice l x.Next.length m] ∧ Rd w 1 (.slice a x.Sn.length b) x.Sn.length (x.Sn.map bV) ∧ x.Sn.length ≤ 1073741824 ∧ Rd w 1 (.slice d x.Cur.Key.length e) x.Cur.Key.length (x.Cur.Key.map bV) ∧ x.Cur.Key.length ≤ 1073741824 ∧ Rd w 1 (.slice f x.Cur.Win.Bits.length g) x.Cur.Win.Bits.length (x.Cur.Win.Bits.map iV) ∧ x.Cur.Win.Bits.length ≤ 1073741824 ∧ Rd w 1 (.slice h x.Old.Key.length i) x.Old.Key.length (x.Old.Key.map bV) ∧ x.Old.Key.length ≤ 1073741824 ∧ Rd w 1 (.slice j x.Old.Win.Bits.length k) x.Old.Win.Bits.length (x.Old.Win.Bits.map iV) ∧ x.Old.Win.Bits.length ≤ 1073741824 ∧ Rd w 1 (.slice l x.Next.length m) x.Next.length (x.Next.map bV) ∧ x.Next.length ≤ 1073741824
theorem mkR_38 {w : World} {x : PChan} {k : Int} {a : Option Addr} {b : Nat} {d : Option Addr} {e : Nat} {f : Option Addr} {g : Nat} {h : Option Addr} {i : Nat} {j : Option Addr} {l : Nat} {m : Option Addr} {o : Nat} (p : Rd w 1 (.slice a x.Sn.length b) x.Sn.length ((marksB k x.Sn.length).map bV)) (q : x.Sn.length ≤ 1073741824) (r : Rd w 1 (.slice d x.Cur.Key.length e) x.Cur.Key.length ((marksB (k + (x.Sn.length : Int)) x.Cur.Key.length).map bV)) (s : x.Cur.Key.length ≤ 1073741824) (t : Rd w 1 (.slice f x.Cur.Win.Bits.length g) x.Cur.Win.Bits.length ((marksI ((k + (x.Sn.length : Int)) + (x.Cur.Key.length : Int)) x.Cur.Win.Bits.length).map iV)) (u : x.Cur.Win.Bits.length ≤ 1073741824) (v : Rd w 1 (.slice h x.Old.Key.length i) x.Old.Key.length ((marksB ((k + (x.Sn.length : Int)) + tot_PEp x.Cur) x.Old.Key.length).map bV)) (y : x.Old.Key.length ≤ 1073741824) (A : Rd w 1 (.slice j x.Old.Win.Bits.length l) x.Old.Win.Bits.length ((marksI (((k + (x.Sn.length : Int)) + tot_PEp x.Cur) + (x.Old.Key.length : Int)) x.Old.Win.Bits.length).map iV)) (B : x.Old.Win.Bits.length ≤ 1073741824) (C : Rd w 1 (.slice m x.Next.length o) x.Next.length ((marksB (((k + (x.Sn.length : Int)) + tot_PEp x.Cur) + tot_PEp x.Old) x.Next.length).map bV)) (D : x.Next.length ≤ 1073741824) : R_38 w (va (L_38 x a b d e f g h i j l m o)) (mk_PChan x k) := ⟨_, _, _, _, _, _, _, _, _, _, _, _, by simp only [mk_PChan, marksB_len, marksI_len]; try rfl, by simpa only [mk_PChan, marksB_len, marksI_len] using p, by simpa only [mk_PChan, marksB_len, marksI_len] using q, by simpa only [mk_PChan, marksB_len, marksI_len] using r, by simpa only [mk_PChan, marksB_len, marksI_len] using s, by simpa only [mk_PChan, marksB_len, marksI_len] using t, by simpa only [mk_PChan, marksB_len, marksI_len] using u, by simpa only [mk_PChan, marksB_len, marksI_len] using v, by simpa only [mk_PChan, marksB_len, marksI_len] using y, by simpa only [mk_PChan, marksB_len, marksI_len] using A, by simpa only [mk_PChan, marksB_len, marksI_len] using B, by simpa only [mk_PChan, marksB_len, marksI_len] using C, by simpa only [mk_PChan, marksB_len, marksI_len] using D⟩
theorem mkR_38_b {x : PChan} (a : x.Sn.length ≤ 1073741824) (b : x.Cur.Key.length ≤ 1073741824) (d : x.Cur.Win.Bits.length ≤ 1073741824) (e : x.Old.Key.length ≤ 1073741824) (f : x.Old.Win.Bits.length ≤ 1073741824) (g : x.Next.length ≤ 1073741824) : 0 ≤ tot_PChan x ∧ tot_PChan x ≤ 6442450944 := by
  simp only [tot_PChan, tot_PEp, tot_PWin]
  omega
def R_36 (w : World) (v : Value) (x : (PEp)) : Prop := ∃ (a : Option Addr) (b : Nat) (d : Option Addr) (e : Nat), v = .agg #[.int .i64 x.N, .slice a x.Key.length b, .int .i64 x.Seq, .int .i64 x.Win.Top, .slice d x.Win.Bits.length e] ∧ Rd w 1 (.slice a x.Key.length b) x.Key.length (x.Key.map bV) ∧ x.Key.length ≤ 1073741824 ∧ Rd w 1 (.slice d x.Win.Bits.length e) x.Win.Bits.length (x.Win.Bits.map iV) ∧ x.Win.Bits.length ≤ 1073741824
theorem mkR_36 {w : World} {x : PEp} {k : Int} {a : Option Addr} {b : Nat} {d : Option Addr} {e : Nat} (f : Rd w 1 (.slice a x.Key.length b) x.Key.length ((marksB k x.Key.length).map bV)) (g : x.Key.length ≤ 1073741824) (h : Rd w 1 (.slice d x.Win.Bits.length e) x.Win.Bits.length ((marksI (k + (x.Key.length : Int)) x.Win.Bits.length).map iV)) (i : x.Win.Bits.length ≤ 1073741824) : R_36 w (va (L_36 x a b d e)) (mk_PEp x k) := ⟨_, _, _, _, by simp only [mk_PEp, marksB_len, marksI_len]; try rfl, by simpa only [mk_PEp, marksB_len, marksI_len] using f, by simpa only [mk_PEp, marksB_len, marksI_len] using g, by simpa only [mk_PEp, marksB_len, marksI_len] using h, by simpa only [mk_PEp, marksB_len, marksI_len] using i⟩
theorem mkR_36_b {x : PEp} (a : x.Key.length ≤ 1073741824) (b : x.Win.Bits.length ≤ 1073741824) : 0 ≤ tot_PEp x ∧ tot_PEp x ≤ 2147483648 := by
  simp only [tot_PEp, tot_PWin]
  omega
def R_34 (w : World) (v : Value) (x : (PWin)) : Prop := ∃ (a : Option Addr) (b : Nat), v = .agg #[.int .i64 x.Top, .slice a x.Bits.length b] ∧ Rd w 1 (.slice a x.Bits.length b) x.Bits.length (x.Bits.map iV) ∧ x.Bits.length ≤ 1073741824
theorem mkR_34 {w : World} {x : PWin} {k : Int} {a : Option Addr} {b : Nat} (d : Rd w 1 (.slice a x.Bits.length b) x.Bits.length ((marksI k x.Bits.length).map iV)) (e : x.Bits.length ≤ 1073741824) : R_34 w (va (L_34 x a b)) (mk_PWin x k) := ⟨_, _, by simp only [mk_PWin, marksB_len, marksI_len]; try rfl, by simpa only [mk_PWin, marksB_len, marksI_len] using d, by simpa only [mk_PWin, marksB_len, marksI_len] using e⟩
theorem mkR_34_b {x : PWin} (a : x.Bits.length ≤ 1073741824) : 0 ≤ tot_PWin x ∧ tot_PWin x ≤ 1073741824 := by
  simp only [tot_PWin]
  omega
def Q_22 (w : World) (v : Value) (x : (List UInt8)) : Prop := ∃ (a : Option Addr) (b : Nat), v = .slice a x.length b ∧ Rd w 1 (.slice a x.length b) x.length (x.map bV) ∧ x.length ≤ 9223372036854775807
def O_4 (w : World) (lo : Nat) (v : Value) (x : (Bool)) : Prop := v = .bool x
def l_big (a : List UInt8) : (Bool) := decide (1048576 < (a.length : Int))
theorem clbig (b : World) (d : Value) (a : List UInt8) (h : Q_22 b d a)  : Fn Tryz.prog 19 #[d] b (fun v e => Keep b e ∧ O_4 e b.heap.size v (l_big a)) := by
 obtain ⟨f, g, rfl, i, k⟩ := h
 refine fn_ofS (n := 6) [(vs f a.length g)] Tryz.func19 rfl rfl ?_
 refine sr ?_
 refine aw (vb false) ?_
 refine nx ?_
 refine mw (vs f a.length g) ?_
 refine ln wN slTy_22 i ?_
 refine pu (vb (decide (1048576 < (a.length : Int)))) wN ?_
 refine aw (vb (decide (1048576 < (a.length : Int)))) ?_
 refine n3 ?_
 refine rt (vb (decide (1048576 < (a.length : Int)))) ?_
 refine ⟨Ch.refl _ _, ?_⟩
 have j : l_big a = decide (1048576 < (a.length : Int)) := by rfl
 rw [j]
 exact rfl
theorem big_f {x : List UInt8} (h : l_big x = false) : x.length ≤ 1048576 := by
  have := dF h
  omega

theorem isAgg_5 : ∀ w, (isAgg 5).run Tryz.prog w = .ok false w := fun w => by kernel_rfl
def R_22 (w : World) (v : Value) (x : (List UInt8)) : Prop := ∃ (a : Option Addr) (b : Nat), v = .slice a x.length b ∧ Rd w 1 (.slice a x.length b) x.length (x.map bV) ∧ x.length ≤ 1073741824
theorem csl1New (d : World) (p : Value) (b : List UInt8) (E : R_22 d p b)  : Fn Tryz.prog 55 #[p] d (fun v l => ∃ g, Keep d l ∧ d.heap.size ≤ g ∧ v = vp g 0 ∧ ∀ (a : Option Addr) (c : Nat), p = .slice a b.length c → CurX l g 100 a c b) := by
 obtain ⟨e, f, rfl, h, w⟩ := E
 refine fn_ofS (n := 32) [(vs e b.length f)] Tryz.func55 rfl rfl ?_
 refine sr ?_
 refine aw (.pointer none) ?_
 refine nx ?_
 refine mw (vs e b.length f) ?_
 refine ln wN slTy_22 h ?_
 refine ar (127812 + (b.length : Int)) wN ?_
 refine aw (vi (127812 + (b.length : Int))) ?_
 refine n4 ?_
 refine aw (vi 0) ?_
 refine wl_nil <| wq_then <| wc_block ?_
 refine wc_loopP [(0, (vs e b.length f)), (2, (.pointer none)), (3, (vi (127812 + (b.length : Int)))), (4, (vi ((0 : Nat) : Int)))] ⟨rfl, rfl, rfl, (cA (Value.int .i64) (show (0 : Int) = ((0 : Nat) : Int) by omega)), trivial⟩ (fun e' l => ∃ (k : Nat) (q : Int) (y : Env), e' = pt y [(0, (vs e b.length f)), (2, (.pointer none)), (3, (vi q)), (4, (vi ((k : Nat) : Int)))] ∧ Ch (fun k => d.heap.size ≤ k) d l ∧ Ch (fun k => d.heap.size ≤ k) d l ∧ k ≤ b.length ∧ 0 ≤ q ∧ q ≤ 1073869636) (fun e' _ => b.length - ((intOf (e' 4))).toNat) ?_ ?_
 ·exact fun u => ⟨0, (127812 + (b.length : Int)), u, rfl, (Ch.base d), (Ch.refl (fun k => d.heap.size ≤ k) d), (by omega), (by omega), (by omega)⟩
 ·rintro _ F ⟨k, q, y, rfl, j, m, L, M, N⟩
  have O : (b.getD k 0).toNat < 256 := UInt8.toNat_lt _
  refine wc_seq <| sr ?_
  refine mw (vi ((k : Nat) : Int)) ?_
  refine mw (vs e b.length f) ?_
  refine ln wN slTy_22 (h.from0 j) ?_
  refine pu (vb (decide (((k : Nat) : Int) < (b.length : Int)))) wN ?_
  refine mw (vb (decide (((k : Nat) : Int) < (b.length : Int)))) ?_
  rcases bf (decide (((k : Nat) : Int) < (b.length : Int))) with i | i
  ·have P := dF i
   iterate 2 refine sk i ?_
   refine pf (vb false) wN i ?_
   refine n2 ?_
   refine cf (Eq.refl false) ?_
   refine wc_exit <| wq_then_exit <| wq_then_exit <| wq_blk_exit <| wq_then <| sr ?_
   refine mw (vs e b.length f) ?_
   refine mw (vi q) ?_
   refine pu (va [(vs e b.length f), (vi 0), (vi q)]) wN ?_
   refine bx [(vs e b.length f), (vi 0), (vi q)] wN ?_
   intro r G A Q H I
   have B := j.extk H
   refine aw (vp r 0) ?_
   refine n3 ?_
   refine rt (vp r 0) ?_
   refine ⟨r, B.keep0, (nT m.size A), rfl, fun a c hv => ?_⟩
   cases hv
   exact ⟨_, _, I, (h.from0 B), w, (by omega), (fun s z hz => nN (nL (rd_posB h s z hz) (nT m.size A)))⟩
  have R := dT i
  refine mv (vi ((k : Nat) : Int)) (wS i) ?_
  refine pu (vb (decide (((k : Nat) : Int) < 4000))) (wS i) ?_
  refine pk (vb (decide (((k : Nat) : Int) < 4000))) wN i ?_
  refine n2 ?_
  rcases bf (decide (((k : Nat) : Int) < 4000)) with o | o
  ·have S := dF o
   refine cf o ?_
   refine wc_exit <| wq_then_exit <| wq_then_exit <| wq_blk_exit <| wq_then <| sr ?_
   refine mw (vs e b.length f) ?_
   refine mw (vi q) ?_
   refine pu (va [(vs e b.length f), (vi 0), (vi q)]) wN ?_
   refine bx [(vs e b.length f), (vi 0), (vi q)] wN ?_
   intro t G C T J K
   have D := j.extk J
   refine aw (vp t 0) ?_
   refine n3 ?_
   refine rt (vp t 0) ?_
   refine ⟨t, D.keep0, (nT m.size C), rfl, fun a c hv => ?_⟩
   cases hv
   exact ⟨_, _, K, (h.from0 D), w, (by omega), (fun s z hz => nN (nL (rd_posB h s z hz) (nT m.size C)))⟩
  have V := dT o
  refine ct o ?_
  refine wc_skip <| wq_then <| wc_seq <| wc_block <| wc_region ?_
  refine mw (vi q) ?_
  refine ar (q * 137) wN ?_
  refine mw (vs e b.length f) ?_
  refine mw (vi ((k : Nat) : Int)) ?_
  refine ix wN ((k : Nat) : Int) slTy_22 (h.from0 j) ?_
  refine eb (x := b) k wN isAgg_5 (h.from0 j) ?_
  refine ar ((b.getD k 0).toNat : Int) wN ?_
  refine ar ((q * 137) + ((b.getD k 0).toNat : Int)) wN ?_
  refine ar (((q * 137) + ((b.getD k 0).toNat : Int)) + 11) wN ?_
  refine wl_and (((q * 137) + ((b.getD k 0).toNat : Int)) + 11) 1073741823 1073741824 30 wN rfl rfl (by decide) (by decide) (by decide) (by kernel_rfl) ?_
  refine aw (vi ((((q * 137) + ((b.getD k 0).toNat : Int)) + 11) % 1073741824)) ?_
  refine wl_nil <| wq_blk_normal <| wq_then <| wc_region ?_
  refine mw (vi ((k : Nat) : Int)) ?_
  refine ar (((k : Nat) : Int) + 1) wN ?_
  refine aw (vi (((k : Nat) : Int) + 1)) ?_
  refine wl_nil ?_
  refine wq_loopP (w0 := F) [(0, (vs e b.length f)), (2, (.pointer none)), (3, (vi ((((q * 137) + ((b.getD k 0).toNat : Int)) + 11) % 1073741824))), (4, (vi (((k + 1) : Nat) : Int)))] ?_ ?_ ?_
  · exact ⟨rfl, rfl, rfl, (cA (Value.int .i64) (show ((((k : Nat) : Int) + 1) : Int) = (((k + 1) : Nat) : Int) by omega)), trivial⟩
  · exact fun u => ⟨(k + 1), ((((q * 137) + ((b.getD k 0).toNat : Int)) + 11) % 1073741824), u, rfl, j, ((Ch.refl (fun k => d.heap.size ≤ k) d).ext m (fun k hk => hk)), (by omega), (by omega), (by omega)⟩
  · show b.length - ((((k + 1) : Nat) : Int)).toNat < b.length - (((k : Nat) : Int)).toNat; omega

theorem isAgg_3 : ∀ w, (isAgg 3).run Tryz.prog w = .ok false w := fun w => by kernel_rfl
theorem sizeOf_3 : ∀ w, (sizeOf 3).run Tryz.prog w = .ok 1 w := fun w => by kernel_rfl
theorem mixed : Tryz.prog.follows .mixedOrders = true := by kernel_rfl
theorem isAgg_22 : ∀ w, (isAgg 22).run Tryz.prog w = .ok false w := fun w => by kernel_rfl
def O_3 (w : World) (lo : Nat) (v : Value) (x : (Int)) : Prop := v = .int .i64 x
theorem csl1Byte (m : World) (g : Nat) (ca : Option Addr) (cc : Nat) (cb : List UInt8) (w : CurX m g 100 ca cc cb)  : Fn Tryz.prog 102 #[(vp g 0)] m (fun v f => ∃ x : (Int), Ch (fun k => k = g) m f ∧ CurX f g 100 ca cc cb ∧ O_3 f m.heap.size v x ∧ (0 ≤ x ∧ x ≤ 255)) := by
 obtain ⟨ci, chh, hcb, hcr, hcl, hci, hcn⟩ := w
 have hgl := Blk.lt hcb
 refine fn_ofS (n := 58) [(vp g 0)] Tryz.func102 rfl rfl ?_
 have aa : (cb.getD ci.toNat 0).toNat < 256 := UInt8.toNat_lt _
 refine sr ?_
 refine aw (vi 0) ?_
 refine nx ?_
 refine mw (vp g 0) ?_
 refine mw (vp g 0) ?_
 refine pu (vp g 0) wN ?_
 refine pu (vp g 2) wN ?_
 refine ld (vi chh) wN isAgg_3 hcb ?_
 refine wl_arb (IntKind.i64.wrap (chh * 6364136223846793005)) wN rfl rfl (by kernel_rfl) ?_
 intro y
 refine wl_arb (IntKind.i64.wrap (y + 1442695040888963407)) wN rfl rfl (by kernel_rfl) ?_
 intro a
 refine pu (vp g 0) wN ?_
 refine pu (vp g 2) wN ?_
 refine st (vi a) [(vi a)] [(vs ca cb.length cc), (vi ci), (vi a)] wN sizeOf_3 hcb ?_
 intro A B i ab
 have C := ChG.ext (Ch.refl (fun k => k = g) m) B (fun k hk => .inl hk)
 refine wl_nil <| wq_then <| wc_seq ?_
 refine wc_drawT ([(13, [], [], (fun _ v _ => v = (vp g 0))), (14, [], [0], (fun _ v _ => v = (vp g 0))), (15, [], [0, 1], (fun _ v _ => v = (vp g 2))), (16, [], [0, 1, 2], (fun _ v _ => v = (vi a))), (17, [], [0, 1, 2, 3], (fun _ v _ => v = (vi (a / (2 : Int) ^ ((33 : Int)).toNat)))), (18, [], [], (fun _ v _ => v = (vp g 0))), (19, [], [5], (fun _ v _ => v = (vp g 0))), (20, [], [5, 6], (fun _ v _ => v = (vp g 2))), (21, [], [5, 6, 7], (fun _ v _ => v = (vi a))), (22, [], [5, 6, 7, 8], (fun _ v _ => v = (vi (a / (2 : Int) ^ ((47 : Int)).toNat))))] : GV) (fun _ f => Keep A f) [] mixed rfl (by kernel_rfl) (by kernel_rfl) ?_ (fun _ _ h => h) (fun _ _ _ _ h _ k => h.trans k) trivial ?_ ?_ ?_
 ·exact ⟨hV, hE, ⟨hV, hE, ⟨hV, hE, ⟨hV, hE, ⟨hV, hE, ⟨hV, hE, ⟨hV, hE, ⟨hV, hE, ⟨hV, hE, ⟨hV, hE, trivial⟩⟩⟩⟩⟩⟩⟩⟩⟩⟩
 ·exact trivial
 ·refine ⟨?_, ⟨?_, ⟨?_, ⟨?_, ⟨?_, ⟨?_, ⟨?_, ⟨?_, ⟨?_, ⟨?_, trivial⟩⟩⟩⟩⟩⟩⟩⟩⟩⟩
  ·intro _ d ac _
   rintro _ _ _ _ _ _ _ _ _ _
   show WL _ _ _ _ _ _ _
   refine mw (vp g 0) ?_
   exact f1
  ·intro _ d ad _
   rintro _ rfl _ _ _ _ _ _ _ _ _
   show WL _ _ _ _ _ _ _
   refine pu (vp g 0) wN ?_
   exact f1
  ·intro _ d ae _
   rintro _ rfl _ rfl _ _ _ _ _ _ _ _
   show WL _ _ _ _ _ _ _
   refine pu (vp g 2) wN ?_
   exact f1
  ·intro _ d D _
   rintro _ rfl _ rfl _ rfl _ _ _ _ _ _ _
   show WL _ _ _ _ _ _ _
   have E := (i.kp D)
   refine ld (vi a) wN isAgg_3 E ?_
   exact f1
  ·intro _ d af _
   rintro _ rfl _ rfl _ rfl _ rfl _ _ _ _ _ _
   show WL _ _ _ _ _ _ _
   refine wl_shrU a (33 : Int) wN rfl rfl rfl rfl rfl (by omega) (by omega) ?_
   exact f1
  ·intro _ d ah _
   rintro _ _ _ _ _ _ _ _ _ _
   show WL _ _ _ _ _ _ _
   refine mw (vp g 0) ?_
   exact f1
  ·intro _ d ai _
   rintro _ _ _ _ _ _ rfl _ _ _ _
   show WL _ _ _ _ _ _ _
   refine pu (vp g 0) wN ?_
   exact f1
  ·intro _ d aj _
   rintro _ _ _ _ _ _ rfl _ rfl _ _ _
   show WL _ _ _ _ _ _ _
   refine pu (vp g 2) wN ?_
   exact f1
  ·intro _ d F _
   rintro _ _ _ _ _ _ rfl _ rfl _ rfl _ _
   show WL _ _ _ _ _ _ _
   have G := (i.kp F)
   refine ld (vi a) wN isAgg_3 G ?_
   exact f1
  ·intro _ d ak _
   rintro _ _ _ _ _ _ rfl _ rfl _ rfl _ rfl _
   show WL _ _ _ _ _ _ _
   refine wl_shrU a (47 : Int) wN rfl rfl rfl rfl rfl (by omega) (by omega) ?_
   exact f1
 ·intro _ d j
  have r := ChG.extk C j
  rintro _ rfl _ rfl _ rfl _ rfl _ rfl _ rfl _ rfl _ rfl _ rfl _ rfl
  show WL _ _ _ _ _ _ _
  refine wl_xorA (a / (2 : Int) ^ ((33 : Int)).toNat) (a / (2 : Int) ^ ((47 : Int)).toNat) wN rfl rfl (by kernel_rfl) ?_
  refine wl_and (xorA (a / (2 : Int) ^ ((33 : Int)).toNat) (a / (2 : Int) ^ ((47 : Int)).toNat)) 255 256 8 wN rfl rfl (by decide) (by decide) (by decide) (by kernel_rfl) ?_
  refine aw (vi ((xorA (a / (2 : Int) ^ ((33 : Int)).toNat) (a / (2 : Int) ^ ((47 : Int)).toNat)) % 256)) ?_
  refine wl_nil <| wq_then <| wc_seq <| wc_seq ?_
  refine wc_drawT ([(25, [], [], (fun _ v _ => v = (vp g 0))), (26, [], [0], (fun _ v _ => v = (vp g 0))), (27, [], [0, 1], (fun _ v _ => v = (vp g 1))), (28, [], [0, 1, 2], (fun _ v _ => v = (vi ci))), (29, [], [], (fun _ v _ => v = (vp g 0))), (30, [], [4], (fun _ v _ => v = (vp g 0))), (31, [], [4, 5], (fun _ v _ => v = (vp g 0))), (32, [], [4, 5, 6], (fun _ v _ => v = (vs ca cb.length cc))), (33, [], [4, 5, 6, 7], (fun _ v _ => v = (vi (cb.length : Int))))] : GV) (fun _ f => Keep d f) [] mixed rfl (by kernel_rfl) (by kernel_rfl) ?_ (fun _ _ h => h) (fun _ _ _ _ h _ k => h.trans k) trivial ?_ ?_ ?_
  ·exact ⟨hV, hE, ⟨hV, hE, ⟨hV, hE, ⟨hV, hE, ⟨hV, hE, ⟨hV, hE, ⟨hV, hE, ⟨hV, hE, ⟨hV, hE, trivial⟩⟩⟩⟩⟩⟩⟩⟩⟩
  ·exact trivial
  ·refine ⟨?_, ⟨?_, ⟨?_, ⟨?_, ⟨?_, ⟨?_, ⟨?_, ⟨?_, ⟨?_, trivial⟩⟩⟩⟩⟩⟩⟩⟩⟩
   ·intro _ e am _
    rintro _ _ _ _ _ _ _ _ _
    show WL _ _ _ _ _ _ _
    refine mw (vp g 0) ?_
    exact f1
   ·intro _ e an _
    rintro _ rfl _ _ _ _ _ _ _ _
    show WL _ _ _ _ _ _ _
    refine pu (vp g 0) wN ?_
    exact f1
   ·intro _ e ao _
    rintro _ rfl _ rfl _ _ _ _ _ _ _
    show WL _ _ _ _ _ _ _
    refine pu (vp g 1) wN ?_
    exact f1
   ·intro _ e H _
    rintro _ rfl _ rfl _ rfl _ _ _ _ _ _
    show WL _ _ _ _ _ _ _
    have I := ((i.kp j).kp H)
    refine ld (vi ci) wN isAgg_3 I ?_
    exact f1
   ·intro _ e ap _
    rintro _ _ _ _ _ _ _ _ _
    show WL _ _ _ _ _ _ _
    refine mw (vp g 0) ?_
    exact f1
   ·intro _ e aq _
    rintro _ _ _ _ _ rfl _ _ _ _
    show WL _ _ _ _ _ _ _
    refine pu (vp g 0) wN ?_
    exact f1
   ·intro _ e au _
    rintro _ _ _ _ _ rfl _ rfl _ _ _
    show WL _ _ _ _ _ _ _
    refine pu (vp g 0) wN ?_
    exact f1
   ·intro _ e J _
    rintro _ _ _ _ _ rfl _ rfl _ rfl _ _
    show WL _ _ _ _ _ _ _
    have K := ((i.kp j).kp J)
    refine ld (vs ca cb.length cc) wN isAgg_22 K ?_
    exact f1
   ·intro _ e L _
    have M := ChG.extk r L
    rintro _ _ _ _ _ rfl _ rfl _ rfl _ rfl _
    show WL _ _ _ _ _ _ _
    refine ln wN slTy_22 (Rd.chP hcr M hcn) ?_
    exact f1
  ·intro _ e o
   have p := ChG.extk r o
   rintro _ rfl _ rfl _ rfl _ rfl _ rfl _ rfl _ rfl _ rfl _ rfl
   show WL _ _ _ _ _ _ _
   refine pu (vb (decide (ci < (cb.length : Int)))) wN ?_
   refine n2 ?_
   rcases bf (decide (ci < (cb.length : Int))) with q | q
   ·have av := dF q
    refine cf q ?_
    refine y1 ?_
    refine mw (vi ((xorA (a / (2 : Int) ^ ((33 : Int)).toNat) (a / (2 : Int) ^ ((47 : Int)).toNat)) % 256)) ?_
    refine aw (vi ((xorA (a / (2 : Int) ^ ((33 : Int)).toNat) (a / (2 : Int) ^ ((47 : Int)).toNat)) % 256)) ?_
    refine n3 ?_
    refine rt (vi ((xorA (a / (2 : Int) ^ ((33 : Int)).toNat) (a / (2 : Int) ^ ((47 : Int)).toNat)) % 256)) ?_
    have N := ((i.kp j).kp o)
    exact ⟨((xorA (a / (2 : Int) ^ ((33 : Int)).toNat) (a / (2 : Int) ^ ((47 : Int)).toNat)) % 256), p, ⟨_, _, N, (Rd.chP hcr p hcn), hcl, (by omega), hcn⟩, rfl, (by omega)⟩
   have ax := dT q
   refine ct q ?_
   refine wc_seq ?_
   refine wc_drawT ([(35, [], [], (fun _ v _ => v = (vi ((xorA (a / (2 : Int) ^ ((33 : Int)).toNat) (a / (2 : Int) ^ ((47 : Int)).toNat)) % 256)))), (36, [], [], (fun _ v _ => v = (vp g 0))), (37, [], [1], (fun _ v _ => v = (vp g 0))), (38, [], [1, 2], (fun _ v _ => v = (vp g 0))), (39, [], [1, 2, 3], (fun _ v _ => v = (vs ca cb.length cc))), (40, [], [], (fun _ v _ => v = (vp g 0))), (41, [], [5], (fun _ v _ => v = (vp g 0))), (42, [], [5, 6], (fun _ v _ => v = (vp g 1))), (43, [], [5, 6, 7], (fun _ v _ => v = (vi ci))), (44, [], [1, 2, 3, 4, 5, 6, 7, 8], (fun _ v _ => v = (ve (vs ca cb.length cc) ((ci).toNat * 1)))), (45, [], [1, 2, 3, 4, 5, 6, 7, 8, 9], (fun _ v _ => v = (v8 ((cb.getD (ci).toNat 0).toNat : Int)))), (46, [], [1, 2, 3, 4, 5, 6, 7, 8, 9, 10], (fun _ v _ => v = (vi ((cb.getD (ci).toNat 0).toNat : Int))))] : GV) (fun _ f => Keep e f) [] mixed rfl (by kernel_rfl) (by kernel_rfl) ?_ (fun _ _ h => h) (fun _ _ _ _ h _ k => h.trans k) trivial ?_ ?_ ?_
   ·exact ⟨hV, hE, ⟨hV, hE, ⟨hV, hE, ⟨hV, hE, ⟨hV, hE, ⟨hV, hE, ⟨hV, hE, ⟨hV, hE, ⟨hV, hE, ⟨hV, hE, ⟨hV, hE, ⟨hV, hE, trivial⟩⟩⟩⟩⟩⟩⟩⟩⟩⟩⟩⟩
   ·exact trivial
   ·refine ⟨?_, ⟨?_, ⟨?_, ⟨?_, ⟨?_, ⟨?_, ⟨?_, ⟨?_, ⟨?_, ⟨?_, ⟨?_, ⟨?_, trivial⟩⟩⟩⟩⟩⟩⟩⟩⟩⟩⟩⟩
    ·intro _ b ay _
     rintro _ _ _ _ _ _ _ _ _ _ _ _
     show WL _ _ _ _ _ _ _
     refine mw (vi ((xorA (a / (2 : Int) ^ ((33 : Int)).toNat) (a / (2 : Int) ^ ((47 : Int)).toNat)) % 256)) ?_
     exact f1
    ·intro _ b az _
     rintro _ _ _ _ _ _ _ _ _ _ _ _
     show WL _ _ _ _ _ _ _
     refine mw (vp g 0) ?_
     exact f1
    ·intro _ b a0 _
     rintro _ _ rfl _ _ _ _ _ _ _ _ _ _
     show WL _ _ _ _ _ _ _
     refine pu (vp g 0) wN ?_
     exact f1
    ·intro _ b a1 _
     rintro _ _ rfl _ rfl _ _ _ _ _ _ _ _ _
     show WL _ _ _ _ _ _ _
     refine pu (vp g 0) wN ?_
     exact f1
    ·intro _ b O _
     rintro _ _ rfl _ rfl _ rfl _ _ _ _ _ _ _ _
     show WL _ _ _ _ _ _ _
     have P := (((i.kp j).kp o).kp O)
     refine ld (vs ca cb.length cc) wN isAgg_22 P ?_
     exact f1
    ·intro _ b a2 _
     rintro _ _ _ _ _ _ _ _ _ _ _ _
     show WL _ _ _ _ _ _ _
     refine mw (vp g 0) ?_
     exact f1
    ·intro _ b a3 _
     rintro _ _ _ _ _ _ rfl _ _ _ _ _ _
     show WL _ _ _ _ _ _ _
     refine pu (vp g 0) wN ?_
     exact f1
    ·intro _ b a4 _
     rintro _ _ _ _ _ _ rfl _ rfl _ _ _ _ _
     show WL _ _ _ _ _ _ _
     refine pu (vp g 1) wN ?_
     exact f1
    ·intro _ b Q _
     rintro _ _ _ _ _ _ rfl _ rfl _ rfl _ _ _ _
     show WL _ _ _ _ _ _ _
     have R := (((i.kp j).kp o).kp Q)
     refine ld (vi ci) wN isAgg_3 R ?_
     exact f1
    ·intro _ b S _
     have T := ChG.extk p S
     rintro _ _ rfl _ rfl _ rfl _ rfl _ rfl _ rfl _ rfl _ rfl _ _ _
     show WL _ _ _ _ _ _ _
     refine ix wN ci slTy_22 (Rd.chP hcr T hcn) ?_
     exact f1
    ·intro _ b V _
     have W := ChG.extk p V
     rintro _ _ rfl _ rfl _ rfl _ rfl _ rfl _ rfl _ rfl _ rfl _ rfl _ _
     show WL _ _ _ _ _ _ _
     refine eb (x := cb) ((ci).toNat) wN isAgg_5 (Rd.chP hcr W hcn) ?_
     exact f1
    ·intro _ b a5 _
     rintro _ _ rfl _ rfl _ rfl _ rfl _ rfl _ rfl _ rfl _ rfl _ rfl _ rfl _
     show WL _ _ _ _ _ _ _
     refine ar ((cb.getD (ci).toNat 0).toNat : Int) wN ?_
     exact f1
   ·intro _ b s
    have X := ChG.extk p s
    rintro _ rfl _ rfl _ rfl _ rfl _ rfl _ rfl _ rfl _ rfl _ rfl _ rfl _ rfl _ rfl
    show WL _ _ _ _ _ _ _
    refine wl_arb (IntKind.i64.wrap (((xorA (a / (2 : Int) ^ ((33 : Int)).toNat) (a / (2 : Int) ^ ((47 : Int)).toNat)) % 256) + ((cb.getD (ci).toNat 0).toNat : Int))) wN rfl rfl (by kernel_rfl) ?_
    intro l
    refine wl_and l 255 256 8 wN rfl rfl (by decide) (by decide) (by decide) (by kernel_rfl) ?_
    refine aw (vi (l % 256)) ?_
    refine wl_nil <| wq_then <| wc_region ?_
    refine mw (vp g 0) ?_
    refine mw (vp g 0) ?_
    refine pu (vp g 0) wN ?_
    refine pu (vp g 1) wN ?_
    have t := (((i.kp j).kp o).kp s)
    refine ld (vi ci) wN isAgg_3 t ?_
    refine ar (ci + 1) wN ?_
    refine pu (vp g 0) wN ?_
    refine pu (vp g 1) wN ?_
    refine st (vi (ci + 1)) [(vi (ci + 1))] [(vs ca cb.length cc), (vi (ci + 1)), (vi a)] wN sizeOf_3 t ?_
    intro a6 Y Z a7
    have u := ChG.ext X Y (fun k hk => .inl hk)
    refine nx ?_
    refine mw (vi (l % 256)) ?_
    refine aw (vi (l % 256)) ?_
    refine n3 ?_
    refine rt (vi (l % 256)) ?_
    exact ⟨(l % 256), u, ⟨_, _, Z, (Rd.chP hcr u hcn), hcl, (by omega), hcn⟩, rfl, (by omega)⟩

theorem csl1Below (f : World) (g : Nat) (ca : Option Addr) (cc : Nat) (cb : List UInt8) (u : CurX f g 100 ca cc cb) (b : Int)  : Fn Tryz.prog 96 #[(vp g 0), (vi b)] f (fun v o => ∃ x : (Int), Ch (fun k => k = g) f o ∧ CurX o g 100 ca cc cb ∧ O_3 o f.heap.size v x ∧ (0 ≤ x ∧ (x < b ∨ ((b : Int) ≤ 0 ∧ x = 0)))) := by
 obtain ⟨ci, chh, hcb, hcr, hcl, hci, hcn⟩ := u
 have hgl := Blk.lt hcb
 refine fn_ofS (n := 31) [(vp g 0), (vi b)] Tryz.func96 rfl rfl ?_
 refine sr ?_
 refine aw (vi 0) ?_
 refine n4 ?_
 refine mw (vi b) ?_
 refine pu (vb (decide (b ≤ 0))) wN ?_
 refine n2 ?_
 rcases bt (decide (b ≤ 0)) with i | i
 ·have H := dT i
  refine ct i ?_
  refine sr ?_
  refine aw (vi 0) ?_
  refine n1 ?_
  refine rt (vi 0) ?_
  exact ⟨0, (Ch.refl (fun k => k = g) f), ⟨_, _, hcb, hcr, hcl, (by omega), hcn⟩, rfl, (by omega)⟩
 have I := dF i
 refine cf i ?_
 refine y2 ?_
 refine mw (vi b) ?_
 refine pu (vb (decide (b ≤ 256))) wN ?_
 refine n2 ?_
 rcases bt (decide (b ≤ 256)) with j | j
 ·have J := dT j
  refine ct j ?_
  refine sr ?_
  refine mw (vp g 0) ?_
  refine cl wN (csl1Byte f g ca cc cb ⟨_, _, hcb, hcr, hcl, (by omega), hcn⟩) ?_
  rintro _ p ⟨l, w, ⟨K, L, y, M, N, O, P⟩, rfl, Q⟩
  have q := ChG.ext (Ch.refl (fun k => k = g) f) w (fun k hk => .inl hk)
  refine mw (vi b) ?_
  refine wl_remv (l) b wN rfl rfl rfl rfl rfl (by omega) (by omega) ?_
  have R := rem_b (a := (l)) (m := b) (by omega)
  refine aw (vi ((l) % b)) ?_
  refine n1 ?_
  refine rt (vi ((l) % b)) ?_
  exact ⟨((l) % b), q, ⟨_, _, y, (Rd.chP hcr q hcn), hcl, (by omega), hcn⟩, rfl, (by omega)⟩
 have S := dF j
 refine cf j ?_
 refine y1 ?_
 refine mw (vp g 0) ?_
 refine cl wN (csl1Byte f g ca cc cb ⟨_, _, hcb, hcr, hcl, (by omega), hcn⟩) ?_
 rintro _ p ⟨d, A, ⟨T, V, B, W, X, Y, Z⟩, rfl, aa⟩
 have r := ChG.ext (Ch.refl (fun k => k = g) f) A (fun k hk => .inl hk)
 refine aw (vi (d)) ?_
 refine nx ?_
 refine mw (vp g 0) ?_
 refine cl wN (csl1Byte p g ca cc cb ⟨_, _, B, (Rd.chP hcr r hcn), hcl, (by omega), hcn⟩) ?_
 rintro _ C ⟨e, D, ⟨ab, ac, E, ad, ae, af, ah⟩, rfl, ai⟩
 have s := ChG.ext r D (fun k hk => .inl hk)
 refine aw (vi (e)) ?_
 refine nx ?_
 refine mw (vp g 0) ?_
 refine cl wN (csl1Byte C g ca cc cb ⟨_, _, E, (Rd.chP hcr s hcn), hcl, (by omega), hcn⟩) ?_
 rintro _ aj ⟨h, F, ⟨ak, am, G, an, ao, ap, aq⟩, rfl, au⟩
 have t := ChG.ext s F (fun k hk => .inl hk)
 refine aw (vi (h)) ?_
 refine nx ?_
 refine mw (vi (d)) ?_
 refine ar ((d) * 65536) wN ?_
 refine mw (vi (e)) ?_
 refine ar ((e) * 256) wN ?_
 refine ar (((d) * 65536) + ((e) * 256)) wN ?_
 refine mw (vi (h)) ?_
 refine ar ((((d) * 65536) + ((e) * 256)) + (h)) wN ?_
 refine mw (vi b) ?_
 refine wl_remv ((((d) * 65536) + ((e) * 256)) + (h)) b wN rfl rfl rfl rfl rfl (by omega) (by omega) ?_
 have av := rem_b (a := ((((d) * 65536) + ((e) * 256)) + (h))) (m := b) (by omega)
 refine aw (vi (((((d) * 65536) + ((e) * 256)) + (h)) % b)) ?_
 refine n3 ?_
 refine rt (vi (((((d) * 65536) + ((e) * 256)) + (h)) % b)) ?_
 exact ⟨(((((d) * 65536) + ((e) * 256)) + (h)) % b), t, ⟨_, _, G, (Rd.chP hcr t hcn), hcl, (by omega), hcn⟩, rfl, (by omega)⟩

theorem csl1Once (a : World) (g : Nat) (ca : Option Addr) (cc : Nat) (cb : List UInt8) (h : CurX a g 100 ca cc cb) (b : Int)  : Fn Tryz.prog 56 #[(vp g 0), (vi b)] a (fun v e => ∃ x : (Bool), Ch (fun k => k = g) a e ∧ CurX e g 100 ca cc cb ∧ O_4 e a.heap.size v x ∧ (True)) := by
 obtain ⟨ci, chh, hcb, hcr, hcl, hci, hcn⟩ := h
 have hgl := Blk.lt hcb
 refine fn_ofS (n := 9) [(vp g 0), (vi b)] Tryz.func56 rfl rfl ?_
 refine sr ?_
 refine aw (vb false) ?_
 refine nx ?_
 refine mw (vp g 0) ?_
 refine mw (vi b) ?_
 refine cl wN (csl1Below a g ca cc cb ⟨_, _, hcb, hcr, hcl, (by omega), hcn⟩ b) ?_
 rintro _ l ⟨d, i, ⟨m, o, j, p, q, r, s⟩, rfl, t⟩
 have f := ChG.ext (Ch.refl (fun k => k = g) a) i (fun k hk => .inl hk)
 refine pu (vb (decide ((d) = 0))) wN ?_
 refine aw (vb (decide ((d) = 0))) ?_
 refine n3 ?_
 refine rt (vb (decide ((d) = 0))) ?_
 exact ⟨decide ((d) = 0), f, ⟨_, _, j, (Rd.chP hcr f hcn), hcl, (by omega), hcn⟩, rfl, trivial⟩

def O_22 (w : World) (lo : Nat) (v : Value) (x : (List UInt8)) : Prop := ∃ (a : Option Addr) (b : Nat), v = .slice a x.length b ∧ w.ownsRow lo 5 1 (.slice a x.length b) x.length (x.map bV) ∧ x.length ≤ 1073741824 ∧ Aps [(a, b)]
theorem csl1Bytes (a : World) (g : Nat) (ca : Option Addr) (cc : Nat) (cb : List UInt8) (N : CurX a g 100 ca cc cb) (b : Int) (ac : b ≤ 100000) : Fn Tryz.prog 62 #[(vp g 0), (vi b)] a (fun v e => ∃ x : (List UInt8), Ch (fun k => k = g) a e ∧ CurX e g 100 ca cc cb ∧ O_22 e a.heap.size v x ∧ (x.length = (b : Int).toNat)) := by
 obtain ⟨ci, chh, hcb, hcr, hcl, hci, hcn⟩ := N
 have hgl := Blk.lt hcb
 refine fn_ofS (n := 20) [(vp g 0), (vi b)] Tryz.func62 rfl rfl ?_
 refine sr ?_
 refine aw (vs none 0 0) ?_
 refine nx ?_
 refine wl_lit0 wN rfl rfl slTy_22 (fun w => by kernel_rfl) ?_
 intro t y A O
 have C := ChG.extk (Ch.refl (fun k => k = g) a) A
 refine aw (vs (some t) 0 0) ?_
 refine n4 ?_
 refine aw (vi 0) ?_
 refine wl_nil <| wq_then <| wc_block ?_
 have D : ([] : List UInt8) = ([] : List UInt8) := by simp
 have E : 0 = (([] : List UInt8)).length := by rw [← D]; try (first | rfl | simp only [List.length_set] | simp)
 have P := (hcb.kp A)
 refine wc_loopP [(0, (vp g 0)), (1, (vi b)), (4, (vs none 0 0)), (5, (.slice (some t) (([] : List UInt8)).length 0)), (6, (vi ((0 : Nat) : Int)))] ⟨rfl, rfl, rfl, rfl, (cA (Value.int .i64) (show (0 : Int) = ((0 : Nat) : Int) by omega)), trivial⟩ (fun e' e => ∃ (k : Nat) (l : List UInt8) (F : Env) (f : Option Addr) (i : Nat), e' = pt F [(0, (vp g 0)), (1, (vi b)), (4, (vs none 0 0)), (5, (.slice f (l).length i)), (6, (vi ((k : Nat) : Int)))] ∧ Ch (fun k => k = g) a e ∧ Ch (fun k => k = g ∨ a.heap.size ≤ k) y e ∧ l.length = k ∧ k ≤ b.toNat ∧ (World.ownsRow e a.heap.size 5 1 (.slice f (l).length i) (l).length ((l).map bV) ∧ (l).length ≤ 1073741824) ∧ CurX e g 100 ca cc cb) (fun e' _ => (b - (intOf (e' 6))).toNat) ?_ ?_
 ·exact fun u => ⟨0, ([] : List UInt8), u, (some t), 0, rfl, C, (Ch.refl (fun k => k = g ∨ a.heap.size ≤ k) y), (by first | omega | (simp only [List.length_append, List.length_cons, List.length_nil]; omega)), (by omega), ⟨(by rw [← E, ← D]; exact O), (by rw [← E]; first | exact (by simp) | (simp only [List.length_append, List.length_take, List.length_replicate]; omega))⟩, ⟨_, _, P, (Rd.chP hcr C hcn), hcl, (by omega), hcn⟩⟩
 ·rintro _ G ⟨k, l, F, f, i, rfl, p, H, ad, ae, ⟨j, Q⟩, ⟨af, ah, I, ai, aj, ak, am⟩⟩
  refine wc_seq <| sr ?_
  refine mw (vi ((k : Nat) : Int)) ?_
  refine mw (vi b) ?_
  refine pu (vb (decide (((k : Nat) : Int) < b))) wN ?_
  refine n2 ?_
  rcases bf (decide (((k : Nat) : Int) < b)) with m | m
  ·have an := dF m
   refine cf m ?_
   refine wc_exit <| wq_then_exit <| wq_then_exit <| wq_blk_exit <| wq_then <| sr ?_
   refine mw (vs f (l).length i) ?_
   refine aw (vs f (l).length i) ?_
   refine n3 ?_
   refine rt (vs f (l).length i) ?_
   have J : (l).length = (l).length := by first | (simp only [List.length_append, List.length_take, List.length_replicate, List.length_set, List.length_map]; done) | (simp only [List.length_append, List.length_take, List.length_replicate, List.length_set, List.length_map]; omega)
   rw [J] at j ⊢
   exact ⟨l, p, ⟨_, _, I, (Rd.chP hcr p hcn), hcl, (by omega), hcn⟩, ⟨_, _, rfl, j, (by rw [← J]; exact Q), ⟨trivial, trivial⟩⟩, (by omega)⟩
  have ao := dT m
  refine ct m ?_
  refine wc_skip <| wq_then <| wc_seq <| wc_block <| wc_region ?_
  refine mw (vs f (l).length i) ?_
  refine mw (vp g 0) ?_
  refine cl wN (csl1Byte G g ca cc cb ⟨_, _, I, (Rd.chP hcr p hcn), hcl, (by omega), hcn⟩) ?_
  rintro _ ap ⟨d, q, ⟨aq, au, R, av, ax, ay, az⟩, rfl, a0⟩
  have S := ChG.ext p q (fun k hk => .inl hk)
  refine wl_conv8 (d) wN rfl rfl (by kernel_rfl) ?_
  refine ltB ([(by8 (d))] : List UInt8) wN slTy_22 ?_
  intro a1 a2 a3 o T
  have V := ChG.extk S o
  have W := (own_kp (own_ch j q (ne1 j (hgl))) o)
  refine wl_append (v := (vs f (l).length i)) wN rfl rfl rfl slTy_22 rfl rfl W (Rd.of_own T) (all_bV _) (by first | (simp only [List.length_append, List.length_cons, List.length_nil, List.length_replicate, List.length_take, List.length_drop]; omega) | omega) (by simp only [maxLen]; first | (simp only [List.length_append, List.length_cons, List.length_nil, List.length_replicate, List.length_take, List.length_drop]; omega) | omega) (z4 A H q o) ?_
  intro X Y B Z a4
  have K : Y.ownsRow a.heap.size 5 1 X ((l ++ ([(by8 (d))] : List UInt8)) : List UInt8).length (((l ++ ([(by8 (d))] : List UInt8)) : List UInt8).map bV) := by simpa [Nat.add_assoc] using Z
  obtain ⟨r, s, rfl⟩ := own_form K
  have L := ChG.ext V B (fun k hk => .inr (nT (Nat.le_refl a.heap.size) (own_lt j k hk).1))
  have aa : (l ++ ([(by8 (d))] : List UInt8)).length ≤ 1073741824 := by first | (simp only [List.length_append, List.length_cons, List.length_nil, List.length_replicate, List.length_take, List.length_drop]; omega) | omega | assumption
  refine aw (vs r (l ++ ([(by8 (d))] : List UInt8)).length s) ?_
  refine wl_nil <| wq_blk_normal <| wq_then <| wc_region ?_
  refine mw (vi ((k : Nat) : Int)) ?_
  refine ar (((k : Nat) : Int) + 1) wN ?_
  refine aw (vi (((k : Nat) : Int) + 1)) ?_
  refine wl_nil ?_
  have M : ((l ++ ([(by8 (d))] : List UInt8)) : List UInt8) = (l ++ ([(by8 (d))] : List UInt8)) := by simp
  have ab := ((R.kp o).ch B (fun h => by have := (own_lt j _ h).1; have := nL hgl (Nat.le_refl a.heap.size); omega))
  refine wq_loopP (w0 := G) [(0, (vp g 0)), (1, (vi b)), (4, (vs none 0 0)), (5, (.slice r ((l ++ ([(by8 (d))] : List UInt8))).length s)), (6, (vi (((k + 1) : Nat) : Int)))] ?_ ?_ ?_
  · exact ⟨rfl, rfl, rfl, (cA (fun l : List UInt8 => Value.slice r l.length s) M), (cA (Value.int .i64) (show ((((k : Nat) : Int) + 1) : Int) = (((k + 1) : Nat) : Int) by omega)), trivial⟩
  · exact fun u => ⟨(k + 1), (l ++ ([(by8 (d))] : List UInt8)), u, r, s, rfl, L, (ChO.ext (ChO.extk (ChO.ext (ChO.ext (Ch.refl (fun k => k = g ∨ a.heap.size ≤ k) y) H (fun k hk => hk.elim .inl (fun hk => .inr (hk)))) q (fun k hk => .inl hk)) o) B (fun k hk => .inr (nT (Nat.le_refl a.heap.size) (own_lt j k hk).1))), (by first | omega | (simp only [List.length_append, List.length_cons, List.length_nil]; omega)), (by omega), (M ▸ ⟨K, aa⟩), ⟨_, _, ab, (Rd.chP hcr L hcn), hcl, (by omega), hcn⟩⟩
  · show (b - (((k + 1) : Nat) : Int)).toNat < (b - ((k : Nat) : Int)).toNat; omega

def s_l1In (a : Int) (b : Int) (d : Int) : (Bool) := bif (decide (b ≤ a)) then (decide (a ≤ d)) else (false)
theorem csl1In (f : World) (a : Int) (e : Int) (d : Int)  : Fn Tryz.prog 37 #[(vi a), (vi e), (vi d)] f (fun v g => Keep f g ∧ O_4 g f.heap.size v (s_l1In a e d)) := by
 refine fn_ofS (n := 15) [(vi a), (vi e), (vi d)] Tryz.func37 rfl rfl ?_
 refine sr ?_
 refine aw (vb false) ?_
 refine nx ?_
 refine mw (vi a) ?_
 refine mw (vi e) ?_
 refine pu (vb (decide (e ≤ a))) wN ?_
 refine mw (vb (decide (e ≤ a))) ?_
 rcases bf (decide (e ≤ a)) with b | b
 ·have h := dF b
  iterate 3 refine sk b ?_
  refine pf (vb false) wN b ?_
  refine aw (vb false) ?_
  refine n3 ?_
  refine rt (vb false) ?_
  refine ⟨Ch.refl _ _, ?_⟩
  simp only [s_l1In, b, cond_true, cond_false]
  exact rfl
 have i := dT b
 refine mv (vi a) (wS b) ?_
 refine mv (vi d) (wS b) ?_
 refine pu (vb (decide (a ≤ d))) (wS b) ?_
 refine pk (vb (decide (a ≤ d))) wN b ?_
 refine aw (vb (decide (a ≤ d))) ?_
 refine n3 ?_
 refine rt (vb (decide (a ≤ d))) ?_
 refine ⟨Ch.refl _ _, ?_⟩
 simp only [s_l1In, b, cond_true, cond_false]
 exact rfl
theorem spec_l1In_t {n a b : Int} (h : s_l1In n a b = true) : a ≤ n ∧ n ≤ b := by
  unfold s_l1In at h
  by_cases h1 : a ≤ n <;> simp [h1] at h
  exact ⟨h1, h⟩
theorem spec_l1In_f {n a b : Int} (h : s_l1In n a b = false) : n < a ∨ b < n := by
  unfold s_l1In at h
  by_cases h1 : a ≤ n <;> simp [h1] at h <;> omega

theorem zero_34 : ∀ w, (zeroValue 34).run Tryz.prog w = .ok (va [(vi 0), (vs none 0 0)]) w := fun w => by kernel_rfl
theorem sizeOf_34 : ∀ w, (sizeOf 34).run Tryz.prog w = .ok 2 w := fun w => by kernel_rfl
theorem isAgg_23 : ∀ w, (isAgg 23).run Tryz.prog w = .ok false w := fun w => by kernel_rfl
theorem slTy_23 : SlTy Tryz.prog 23 3 1 8 (vi 0) := slTy Tryz.underlying23 (by kernel_rfl) rfl rfl
theorem sizeOf_23 : ∀ w, (sizeOf 23).run Tryz.prog w = .ok 1 w := fun w => by kernel_rfl
theorem isAgg_34 : ∀ w, (isAgg 34).run Tryz.prog w = .ok true w := fun w => by kernel_rfl
def O_34 (w : World) (lo : Nat) (v : Value) (x : (PWin)) : Prop := ∃ (a : Option Addr) (b : Nat), v = .agg #[.int .i64 x.Top, .slice a x.Bits.length b] ∧ w.ownsRow lo 3 1 (.slice a x.Bits.length b) x.Bits.length (x.Bits.map iV) ∧ x.Bits.length ≤ 1073741824 ∧ Aps [(a, b)]
def winNew : PWin := { Top := (-1), Bits := List.replicate 32 0 }
theorem csWinNew (b : World)   : Fn Tryz.prog 83 #[] b (fun v d => Keep b d ∧ O_34 d b.heap.size v (winNew)) := by
 refine fn_ofS (n := 14) [] Tryz.func83 rfl rfl ?_
 refine sr ?_
 refine al [(vi 0), (vs none 0 0)] wN zero_34 ?_
 intro r s H t i I
 refine nx ?_
 refine pu (va [(vi (-1)), (vs none 0 0)]) wN ?_
 refine al [(vi 0), (vs none 0 0)] wN zero_34 ?_
 intro e ae m B f J
 refine sv [(vi (-1)), (vs none 0 0)] wN sizeOf_34 J ?_
 intro o a K af
 have L := (((Ch.base b).extk i).extk f).ext a (fun k hk => by subst hk; exact nT i.size m)
 refine n4 ?_
 refine aw (vi 0) ?_
 refine wl_nil <| wq_then <| wc_block ?_
 have M : (([] : List Int) : List Int) = List.replicate 0 (0 : Int) := by first | rfl | exact List.replicate_succ'.symm
 refine wc_loopP [(0, (vp r 0)), (1, (vp e 0)), (2, (vi ((0 : Nat) : Int)))] ⟨rfl, rfl, (cA (Value.int .i64) (show (0 : Int) = ((0 : Nat) : Int) by omega)), trivial⟩ (fun e' d => ∃ (k : Nat) (C : Env) (ab1_1x : Option Addr) (cb1_1x : Nat), e' = pt C [(0, (vp r 0)), (1, (vp e 0)), (2, (vi ((k : Nat) : Int)))] ∧ Ch (fun k => b.heap.size ≤ k) b d ∧ Ch (fun k => s.heap.size ≤ k) o d ∧ k ≤ 32 ∧ (World.ownsRow d o.heap.size 3 1 (.slice ab1_1x (List.replicate k (0 : Int)).length cb1_1x) (List.replicate k (0 : Int)).length ((List.replicate k (0 : Int)).map iV) ∧ (List.replicate k (0 : Int)).length ≤ 1073741824) ∧ Blk d e 34 [(vi (-1)), (.slice ab1_1x (List.replicate k (0 : Int)).length cb1_1x)]) (fun e' _ => (32 - (intOf (e' 2))).toNat) ?_ ?_
 ·exact fun u => ⟨0, u, none, 0, rfl, L, (Ch.refl (fun k => s.heap.size ≤ k) o), (by omega), (M ▸ ⟨(own_nil _ _ _ _), (by simp)⟩), K⟩
 ·rintro _ N ⟨k, C, ab1_1x, cb1_1x, rfl, D, w, ah, ⟨g, O⟩, x⟩
  have hpl : (List.replicate k (0 : Int)).length = k := List.length_replicate
  refine wc_seq <| sr ?_
  refine mw (vi ((k : Nat) : Int)) ?_
  refine pu (vb (decide (((k : Nat) : Int) < 32))) wN ?_
  refine n2 ?_
  rcases bf (decide (((k : Nat) : Int) < 32)) with j | j
  ·have ai := dF j
   refine cf j ?_
   refine wc_exit <| wq_then_exit <| wq_then_exit <| wq_blk_exit <| wq_then <| sr ?_
   refine lN [(vi (-1)), (vs ab1_1x (List.replicate k (0 : Int)).length cb1_1x)] wN isAgg_34 sizeOf_34 x ?_
   have P := (((I.kp f).ch a (nN (nL t (m)))).ch w (Nat.not_le.2 (t)))
   refine sv [(vi (-1)), (vs ab1_1x (List.replicate k (0 : Int)).length cb1_1x)] wN sizeOf_34 P ?_
   intro Q E R aj
   have S := D.ext E (fun k hk => by subst hk; exact H)
   refine n3 ?_
   have T := (own_ch g E (ne1 g (nL t (z2 f a))))
   refine ret_1 (.inl rfl) (va [(vi (-1)), (vs ab1_1x (List.replicate k (0 : Int)).length cb1_1x)]) rfl (rv_c [(vi (-1)), (vs ab1_1x (List.replicate k (0 : Int)).length cb1_1x)] rfl R isAgg_34 sizeOf_34) ?_
   refine ⟨S.keep0, ?_⟩
   have V : winNew = { Top := (-1), Bits := (List.replicate k (0 : Int)) : PWin } := by (obtain rfl : k = 32 := by omega); rfl
   rw [V]
   exact ⟨_, _, rfl, (own_lo T (z3 i f a)), O, ⟨trivial, trivial⟩⟩
  have ak := dT j
  refine ct j ?_
  refine wc_skip <| wq_then <| wc_seq <| wc_block <| wc_region ?_
  refine pu (vp e 1) wN ?_
  refine ld (vs ab1_1x (List.replicate k (0 : Int)).length cb1_1x) wN isAgg_23 x ?_
  refine ltI ([0] : List Int) wN slTy_23 ?_
  intro am an Q l W
  have X := (own_kp g l)
  refine apI (List.replicate k (0 : Int)) ([0] : List Int) wN slTy_23 X (Rd.of_own W) (z2 w l) ?_
  intro p q ao y F ap Y
  have Z := (D.extk l).ext y (fun k hk => nT (z3 i f a) (own_lt g k hk).1)
  refine pu (vp e 1) wN ?_
  have aa := ((x.kp l).ch y (fun h => by have := (own_lt g _ h).1; have := nL B a.size; omega))
  refine st (vs p ((List.replicate k (0 : Int)) ++ ([0] : List Int)).length q) [(vs p ((List.replicate k (0 : Int)) ++ ([0] : List Int)).length q)] [(vi (-1)), (vs p ((List.replicate k (0 : Int)) ++ ([0] : List Int)).length q)] wN sizeOf_23 aa ?_
  intro aq A ab au
  have ac := Z.ext A (fun k hk => by subst hk; exact nT i.size m)
  refine wl_nil <| wq_blk_normal <| wq_then <| wc_region ?_
  refine mw (vi ((k : Nat) : Int)) ?_
  refine ar (((k : Nat) : Int) + 1) wN ?_
  refine aw (vi (((k : Nat) : Int) + 1)) ?_
  refine wl_nil ?_
  have ad := (own_ch F A (ne1 F (nL B a.size)))
  have G : (((List.replicate k (0 : Int)) ++ ([0] : List Int)) : List Int) = List.replicate (k + 1) (0 : Int) := by first | rfl | exact List.replicate_succ'.symm
  refine wq_loopP (w0 := N) [(0, (vp r 0)), (1, (vp e 0)), (2, (vi (((k + 1) : Nat) : Int)))] ?_ ?_ ?_
  · exact ⟨rfl, rfl, (cA (Value.int .i64) (show ((((k : Nat) : Int) + 1) : Int) = (((k + 1) : Nat) : Int) by omega)), trivial⟩
  · exact fun u => ⟨(k + 1), u, p, q, rfl, ac, (((((Ch.refl (fun k => s.heap.size ≤ k) o).ext w (fun k hk => hk)).extk l).ext y (fun k hk => nT (z2 f a) (own_lt g k hk).1)).ext A (fun k hk => by subst hk; exact m)), (by omega), (G ▸ ⟨ad, Y⟩), (by have hb := ab; first | exact hb | (rw [G] at hb; exact hb))⟩
  · show (32 - (((k + 1) : Nat) : Int)).toNat < (32 - ((k : Nat) : Int)).toNat; omega

abbrev Z_36 : List Value := [(vi 0), (vs none 0 0), (vi 0), (vi 0), (vs none 0 0)]
theorem zero_36 : ∀ w, (zeroValue 36).run Tryz.prog w = .ok (va Z_36) w := fun w => by kernel_rfl
theorem sizeOf_36 : ∀ w, (sizeOf 36).run Tryz.prog w = .ok 5 w := fun w => by kernel_rfl
theorem isAgg_36 : ∀ w, (isAgg 36).run Tryz.prog w = .ok true w := fun w => by kernel_rfl
def O_36 (w : World) (lo : Nat) (v : Value) (x : (PEp)) : Prop := ∃ (a : Option Addr) (b : Nat) (d : Option Addr) (e : Nat), v = .agg #[.int .i64 x.N, .slice a x.Key.length b, .int .i64 x.Seq, .int .i64 x.Win.Top, .slice d x.Win.Bits.length e] ∧ w.ownsRow lo 5 1 (.slice a x.Key.length b) x.Key.length (x.Key.map bV) ∧ x.Key.length ≤ 1073741824 ∧ w.ownsRow lo 3 1 (.slice d x.Win.Bits.length e) x.Win.Bits.length (x.Win.Bits.map iV) ∧ x.Win.Bits.length ≤ 1073741824 ∧ Aps [(a, b), (d, e)]
def s_EpNew (a : Int) (b : List UInt8) : (PEp) := bif (s_l1In a 0 4294967295) then (bif (decide ((b.length : Int) = 32)) then ({ N := a, Key := b, Seq := 0, Win := (winNew) : PEp }) else ({ N := 0, Key := [], Seq := 0, Win := { Top := 0, Bits := [] : PWin } : PEp })) else ({ N := 0, Key := [], Seq := 0, Win := { Top := 0, Bits := [] : PWin } : PEp })
theorem csEpNew (g : World) (a : Int) (y : Value) (b : List UInt8) (L : R_22 g y b)  : Fn Tryz.prog 42 #[(vi a), y] g (fun v A => Keep g A ∧ O_36 A g.heap.size v (s_EpNew a b)) := by
 obtain ⟨i, j, rfl, B, M⟩ := L
 refine fn_ofS (n := 20) [(vi a), (vs i b.length j)] Tryz.func42 rfl rfl ?_
 refine sr ?_
 refine al Z_36 wN zero_36 ?_
 intro O P C D r E
 have F := (Ch.base g).extk r
 refine n4 ?_
 refine jT1 [(0, (vi a)), (1, (vs i b.length j)), (4, (vp O 0))] (s_EpNew a b = { N := 0, Key := [], Seq := 0, Win := { Top := 0, Bits := [] : PWin } : PEp }) ?_ fun G => ?_
 ·intro Q R H ai
  refine sr ?_
  refine pu (va Z_36) wN ?_
  have S := (E.kp H)
  refine sv Z_36 wN sizeOf_36 S ?_
  intro T V W aj
  have X := (F.extk H).ext V (fun k hk => by subst hk; exact C)
  refine n1 ?_
  refine ret_1 (.inl rfl) (va Z_36) rfl (rv_c Z_36 rfl W isAgg_36 sizeOf_36) ?_
  refine ⟨X.keep0, ?_⟩
  rw [Q]
  exact ⟨_, _, _, _, rfl, (by first | exact own_nil _ _ _ _ | exact OLv.nil _ _ _ _), (by simp), (by first | exact own_nil _ _ _ _ | exact OLv.nil _ _ _ _), (by simp), ⟨⟨(Ap.nl _), trivial⟩, ⟨trivial, trivial⟩⟩⟩
 refine mw (vi a) ?_
 refine cl wN (csl1In P a 0 4294967295) ?_
 rintro _ R ⟨e, rfl⟩
 have I := F.extk e
 refine pu (vb (!(s_l1In a 0 4294967295))) wN ?_
 refine mw (vb (!(s_l1In a 0 4294967295))) ?_
 rcases bf (s_l1In a 0 4294967295) with d | d
 ·have ak := spec_l1In_f d
  iterate 3 refine sk (cA not d) ?_
  refine pk (vb true) wN (cA not d) ?_
  refine n2 ?_
  refine ct (Eq.refl true) ?_
  have Y : s_EpNew a b = { N := 0, Key := [], Seq := 0, Win := { Top := 0, Bits := [] : PWin } : PEp } := by simp only [s_EpNew, d, cond_true, cond_false]
  exact wj (G Y _ e)
 have am := spec_l1In_t d
 refine mv (vs i b.length j) (wS (cA not d)) ?_
 refine ln (wS (cA not d)) slTy_22 (B.from0 I) ?_
 refine pu (vb (!(decide ((b.length : Int) = 32)))) (wS (cA not d)) ?_
 refine pf (vb (!(decide ((b.length : Int) = 32)))) wN (cA not d) ?_
 refine n2 ?_
 rcases bf (decide ((b.length : Int) = 32)) with f | f
 ·have an := dF f
  refine ct (cA not f) ?_
  have Z : s_EpNew a b = { N := 0, Key := [], Seq := 0, Win := { Top := 0, Bits := [] : PWin } : PEp } := by simp only [s_EpNew, d, f, cond_true, cond_false]
  exact wj (G Z _ e)
 have ao := dT f
 refine cf (cA not f) ?_
 refine y1 ?_
 refine mw (vi a) ?_
 refine wl_lit0 wN rfl rfl slTy_22 (fun w => by kernel_rfl) ?_
 intro ap T h aa
 have J := I.extk h
 refine mw (vs i b.length j) ?_
 refine ap0 b wN slTy_22 aa (B.from0 J) h.size ?_
 intro l m K o s aq
 refine cl wN (csWinNew K ) ?_
 rintro _ au ⟨t, ⟨p, q, rfl, u, ab, av⟩⟩
 refine pu (va [(vi a), (vs l b.length m), (vi 0), (vi ((winNew).Top)), (vs p ((winNew).Bits).length q)]) wN ?_
 have ac := ((((E.kp e).kp h).kp o).kp t)
 refine sv [(vi a), (vs l b.length m), (vi 0), (vi ((winNew).Top)), (vs p ((winNew).Bits).length q)] wN sizeOf_36 ac ?_
 intro ax x ad ay
 have ae := ((J.extk o).extk t).ext x (fun k hk => by subst hk; exact C)
 refine n3 ?_
 have af := (own_ch (own_kp s t) x (ne1 s (nL D e.size)))
 have ah := (own_ch u x (ne1 u (nL D (z3 e h o))))
 refine ret_1 (.inl rfl) (va [(vi a), (vs l b.length m), (vi 0), (vi ((winNew).Top)), (vs p ((winNew).Bits).length q)]) rfl (rv_c [(vi a), (vs l b.length m), (vi 0), (vi ((winNew).Top)), (vs p ((winNew).Bits).length q)] rfl ad isAgg_36 sizeOf_36) ?_
 refine ⟨ae.keep0, ?_⟩
 simp only [s_EpNew, d, f, cond_true, cond_false]
 exact ⟨_, _, _, _, rfl, (own_lo af (z2 r e)), M, (own_lo ah (z4 r e h o)), ab, ⟨⟨(Ap.lt s u (Nat.le_refl K.heap.size)), trivial⟩, ⟨trivial, trivial⟩⟩⟩
theorem epNew_N (n : Int) (k : List UInt8) : 0 ≤ (s_EpNew n k).N ∧ (s_EpNew n k).N ≤ 4294967295 := by
  unfold s_EpNew
  cases h1 : s_l1In n 0 4294967295 with
  | false => exact ⟨Int.le_refl _, (show (0 : Int) ≤ 4294967295 by decide)⟩
  | true =>
    cases decide ((k.length : Int) = 32) with
    | false => exact ⟨Int.le_refl _, (show (0 : Int) ≤ 4294967295 by decide)⟩
    | true => exact spec_l1In_t h1

abbrev Z_38 : List Value := [(vi 0), (vs none 0 0), (vi 0), (vs none 0 0), (vi 0), (vi 0), (vs none 0 0), (vi 0), (vs none 0 0), (vi 0), (vi 0), (vs none 0 0), (vb false), (vi 0), (vs none 0 0)]
theorem zero_38 : ∀ w, (zeroValue 38).run Tryz.prog w = .ok (va Z_38) w := fun w => by kernel_rfl
theorem sizeOf_38 : ∀ w, (sizeOf 38).run Tryz.prog w = .ok 15 w := fun w => by kernel_rfl
theorem isAgg_38 : ∀ w, (isAgg 38).run Tryz.prog w = .ok true w := fun w => by kernel_rfl
def O_38 (w : World) (lo : Nat) (v : Value) (x : (PChan)) : Prop := ∃ (a : Option Addr) (b : Nat) (d : Option Addr) (e : Nat) (f : Option Addr) (g : Nat) (h : Option Addr) (i : Nat) (j : Option Addr) (k : Nat) (l : Option Addr) (m : Nat), v = .agg #[.int .i64 x.Role, .slice a x.Sn.length b, .int .i64 x.Cur.N, .slice d x.Cur.Key.length e, .int .i64 x.Cur.Seq, .int .i64 x.Cur.Win.Top, .slice f x.Cur.Win.Bits.length g, .int .i64 x.Old.N, .slice h x.Old.Key.length i, .int .i64 x.Old.Seq, .int .i64 x.Old.Win.Top, .slice j x.Old.Win.Bits.length k, .bool x.HasOld, .int .i64 x.Until, .slice l x.Next.length m] ∧ w.ownsRow lo 5 1 (.slice a x.Sn.length b) x.Sn.length (x.Sn.map bV) ∧ x.Sn.length ≤ 1073741824 ∧ w.ownsRow lo 5 1 (.slice d x.Cur.Key.length e) x.Cur.Key.length (x.Cur.Key.map bV) ∧ x.Cur.Key.length ≤ 1073741824 ∧ w.ownsRow lo 3 1 (.slice f x.Cur.Win.Bits.length g) x.Cur.Win.Bits.length (x.Cur.Win.Bits.map iV) ∧ x.Cur.Win.Bits.length ≤ 1073741824 ∧ w.ownsRow lo 5 1 (.slice h x.Old.Key.length i) x.Old.Key.length (x.Old.Key.map bV) ∧ x.Old.Key.length ≤ 1073741824 ∧ w.ownsRow lo 3 1 (.slice j x.Old.Win.Bits.length k) x.Old.Win.Bits.length (x.Old.Win.Bits.map iV) ∧ x.Old.Win.Bits.length ≤ 1073741824 ∧ w.ownsRow lo 5 1 (.slice l x.Next.length m) x.Next.length (x.Next.map bV) ∧ x.Next.length ≤ 1073741824 ∧ Aps [(a, b), (d, e), (f, g), (h, i), (j, k), (l, m)]
theorem mR_22 {w : World} {x : List UInt8} {a : Option Addr} {b : Nat} (d : Rd w 1 (.slice a x.length b) x.length (x.map bV)) (e : x.length ≤ 1073741824) : R_22 w (vs a x.length b) x := ⟨_, _, rfl, d, e⟩
def s_ChanNew (a : Int) (b : List UInt8) (d : List UInt8) : (PChan) := bif (s_l1In a 0 1) then (bif (decide ((b.length : Int) = 12)) then (bif (decide ((d.length : Int) = 32)) then ({ Role := a, Sn := b, Cur := (s_EpNew 0 d), Old := { N := 0, Key := [], Seq := 0, Win := { Top := 0, Bits := [] : PWin } : PEp }, HasOld := false, Until := 0, Next := [] : PChan }) else ({ Role := 0, Sn := [], Cur := { N := 0, Key := [], Seq := 0, Win := { Top := 0, Bits := [] : PWin } : PEp }, Old := { N := 0, Key := [], Seq := 0, Win := { Top := 0, Bits := [] : PWin } : PEp }, HasOld := false, Until := 0, Next := [] : PChan })) else ({ Role := 0, Sn := [], Cur := { N := 0, Key := [], Seq := 0, Win := { Top := 0, Bits := [] : PWin } : PEp }, Old := { N := 0, Key := [], Seq := 0, Win := { Top := 0, Bits := [] : PWin } : PEp }, HasOld := false, Until := 0, Next := [] : PChan })) else ({ Role := 0, Sn := [], Cur := { N := 0, Key := [], Seq := 0, Win := { Top := 0, Bits := [] : PWin } : PEp }, Old := { N := 0, Key := [], Seq := 0, Win := { Top := 0, Bits := [] : PWin } : PEp }, HasOld := false, Until := 0, Next := [] : PChan })
theorem csChanNew (j : World) (d : Int) (K : Value) (b : List UInt8) (X : R_22 j K b) (L : Value) (a : List UInt8) (Y : R_22 j L a)  : Fn Tryz.prog 98 #[(vi d), K, L] j (fun v M => Keep j M ∧ O_38 M j.heap.size v (s_ChanNew d b a)) := by
 obtain ⟨m, o, rfl, O, Z⟩ := X
 obtain ⟨p, q, rfl, P, aa⟩ := Y
 refine fn_ofS (n := 28) [(vi d), (vs m b.length o), (vs p a.length q)] Tryz.func98 rfl rfl ?_
 refine sr ?_
 refine al Z_38 wN zero_38 ?_
 intro ab ac Q D r R
 have S := (Ch.base j).extk r
 refine n4 ?_
 refine jT1 [(0, (vi d)), (1, (vs m b.length o)), (2, (vs p a.length q)), (6, (vp ab 0))] (s_ChanNew d b a = { Role := 0, Sn := [], Cur := { N := 0, Key := [], Seq := 0, Win := { Top := 0, Bits := [] : PWin } : PEp }, Old := { N := 0, Key := [], Seq := 0, Win := { Top := 0, Bits := [] : PWin } : PEp }, HasOld := false, Until := 0, Next := [] : PChan }) ?_ fun E => ?_
 ·intro ad ae T a3
  refine sr ?_
  refine pu (va Z_38) wN ?_
  have af := (R.kp T)
  refine sv Z_38 wN sizeOf_38 af ?_
  intro ah ai aj a4
  have ak := (S.extk T).ext ai (fun k hk => by subst hk; exact Q)
  refine n1 ?_
  refine ret_1 (.inl rfl) (va Z_38) rfl (rv_c Z_38 rfl aj isAgg_38 sizeOf_38) ?_
  refine ⟨ak.keep0, ?_⟩
  rw [ad]
  exact ⟨_, _, _, _, _, _, _, _, _, _, _, _, rfl, (by first | exact own_nil _ _ _ _ | exact OLv.nil _ _ _ _), (by simp), (by first | exact own_nil _ _ _ _ | exact OLv.nil _ _ _ _), (by simp), (by first | exact own_nil _ _ _ _ | exact OLv.nil _ _ _ _), (by simp), (by first | exact own_nil _ _ _ _ | exact OLv.nil _ _ _ _), (by simp), (by first | exact own_nil _ _ _ _ | exact OLv.nil _ _ _ _), (by simp), (by first | exact own_nil _ _ _ _ | exact OLv.nil _ _ _ _), (by simp), ⟨⟨(Ap.nl _), ⟨(Ap.nl _), ⟨(Ap.nl _), ⟨(Ap.nl _), ⟨(Ap.nl _), trivial⟩⟩⟩⟩⟩, ⟨⟨(Ap.nl _), ⟨(Ap.nl _), ⟨(Ap.nl _), ⟨(Ap.nl _), trivial⟩⟩⟩⟩, ⟨⟨(Ap.nl _), ⟨(Ap.nl _), ⟨(Ap.nl _), trivial⟩⟩⟩, ⟨⟨(Ap.nl _), ⟨(Ap.nl _), trivial⟩⟩, ⟨⟨(Ap.nl _), trivial⟩, ⟨trivial, trivial⟩⟩⟩⟩⟩⟩⟩
 refine mw (vi d) ?_
 refine cl wN (csl1In ac d 0 1) ?_
 rintro _ ae ⟨g, rfl⟩
 have F := S.extk g
 refine pu (vb (!(s_l1In d 0 1))) wN ?_
 refine mw (vb (!(s_l1In d 0 1))) ?_
 rcases bf (s_l1In d 0 1) with e | e
 ·have a5 := spec_l1In_f e
  iterate 3 refine sk (cA not e) ?_
  refine pk (vb true) wN (cA not e) ?_
  refine mw (vb true) ?_
  iterate 3 refine sk (Eq.refl true) ?_
  refine pk (vb true) wN (Eq.refl true) ?_
  refine n2 ?_
  refine ct (Eq.refl true) ?_
  have am : s_ChanNew d b a = { Role := 0, Sn := [], Cur := { N := 0, Key := [], Seq := 0, Win := { Top := 0, Bits := [] : PWin } : PEp }, Old := { N := 0, Key := [], Seq := 0, Win := { Top := 0, Bits := [] : PWin } : PEp }, HasOld := false, Until := 0, Next := [] : PChan } := by simp only [s_ChanNew, e, cond_true, cond_false]
  exact wj (E am _ g)
 have a6 := spec_l1In_t e
 refine mv (vs m b.length o) (wS (cA not e)) ?_
 refine ln (wS (cA not e)) slTy_22 (O.from0 F) ?_
 refine pu (vb (!(decide ((b.length : Int) = 12)))) (wS (cA not e)) ?_
 refine pf (vb (!(decide ((b.length : Int) = 12)))) wN (cA not e) ?_
 refine mw (vb (!(decide ((b.length : Int) = 12)))) ?_
 rcases bf (decide ((b.length : Int) = 12)) with f | f
 ·have a7 := dF f
  iterate 3 refine sk (cA not f) ?_
  refine pk (vb true) wN (cA not f) ?_
  refine n2 ?_
  refine ct (Eq.refl true) ?_
  have an : s_ChanNew d b a = { Role := 0, Sn := [], Cur := { N := 0, Key := [], Seq := 0, Win := { Top := 0, Bits := [] : PWin } : PEp }, Old := { N := 0, Key := [], Seq := 0, Win := { Top := 0, Bits := [] : PWin } : PEp }, HasOld := false, Until := 0, Next := [] : PChan } := by simp only [s_ChanNew, e, f, cond_true, cond_false]
  exact wj (E an _ g)
 have a8 := dT f
 refine mv (vs p a.length q) (wS (cA not f)) ?_
 refine ln (wS (cA not f)) slTy_22 (P.from0 F) ?_
 refine pu (vb (!(decide ((a.length : Int) = 32)))) (wS (cA not f)) ?_
 refine pf (vb (!(decide ((a.length : Int) = 32)))) wN (cA not f) ?_
 refine n2 ?_
 rcases bf (decide ((a.length : Int) = 32)) with h | h
 ·have a9 := dF h
  refine ct (cA not h) ?_
  have ao : s_ChanNew d b a = { Role := 0, Sn := [], Cur := { N := 0, Key := [], Seq := 0, Win := { Top := 0, Bits := [] : PWin } : PEp }, Old := { N := 0, Key := [], Seq := 0, Win := { Top := 0, Bits := [] : PWin } : PEp }, HasOld := false, Until := 0, Next := [] : PChan } := by simp only [s_ChanNew, e, f, h, cond_true, cond_false]
  exact wj (E ao _ g)
 have aA := dT h
 refine cf (cA not h) ?_
 refine y1 ?_
 refine mw (vi d) ?_
 refine wl_lit0 wN rfl rfl slTy_22 (fun w => by kernel_rfl) ?_
 intro aB ah i ap
 have V := F.extk i
 refine mw (vs m b.length o) ?_
 refine ap0 b wN slTy_22 ap (O.from0 V) i.size ?_
 intro s t G l u aC
 have W := V.extk l
 refine mw (vs p a.length q) ?_
 refine cl wN (csEpNew G 0 _ a (mR_22 (P.from0 W) aa)) ?_
 rintro _ aD ⟨H, ⟨x, y, A, B, rfl, I, aq, J, au, av⟩⟩
 refine pu (va [(vi d), (vs s b.length t), (vi ((s_EpNew 0 a).N)), (vs x ((s_EpNew 0 a).Key).length y), (vi ((s_EpNew 0 a).Seq)), (vi (((s_EpNew 0 a).Win).Top)), (vs A (((s_EpNew 0 a).Win).Bits).length B), (vi 0), (vs none 0 0), (vi 0), (vi 0), (vs none 0 0), (vb false), (vi 0), (vs none 0 0)]) wN ?_
 have ax := ((((R.kp g).kp i).kp l).kp H)
 refine sv [(vi d), (vs s b.length t), (vi ((s_EpNew 0 a).N)), (vs x ((s_EpNew 0 a).Key).length y), (vi ((s_EpNew 0 a).Seq)), (vi (((s_EpNew 0 a).Win).Top)), (vs A (((s_EpNew 0 a).Win).Bits).length B), (vi 0), (vs none 0 0), (vi 0), (vi 0), (vs none 0 0), (vb false), (vi 0), (vs none 0 0)] wN sizeOf_38 ax ?_
 intro aE C ay aF
 have az := (W.extk H).ext C (fun k hk => by subst hk; exact Q)
 refine n3 ?_
 have a0 := (own_ch (own_kp u H) C (ne1 u (nL D g.size)))
 have a1 := (own_ch I C (ne1 I (nL D (z3 g i l))))
 have a2 := (own_ch J C (ne1 J (nL D (z3 g i l))))
 refine ret_1 (.inl rfl) (va [(vi d), (vs s b.length t), (vi ((s_EpNew 0 a).N)), (vs x ((s_EpNew 0 a).Key).length y), (vi ((s_EpNew 0 a).Seq)), (vi (((s_EpNew 0 a).Win).Top)), (vs A (((s_EpNew 0 a).Win).Bits).length B), (vi 0), (vs none 0 0), (vi 0), (vi 0), (vs none 0 0), (vb false), (vi 0), (vs none 0 0)]) rfl (rv_c [(vi d), (vs s b.length t), (vi ((s_EpNew 0 a).N)), (vs x ((s_EpNew 0 a).Key).length y), (vi ((s_EpNew 0 a).Seq)), (vi (((s_EpNew 0 a).Win).Top)), (vs A (((s_EpNew 0 a).Win).Bits).length B), (vi 0), (vs none 0 0), (vi 0), (vi 0), (vs none 0 0), (vb false), (vi 0), (vs none 0 0)] rfl ay isAgg_38 sizeOf_38) ?_
 refine ⟨az.keep0, ?_⟩
 simp only [s_ChanNew, e, f, h, cond_true, cond_false]
 exact ⟨_, _, _, _, _, _, _, _, _, _, _, _, rfl, (own_lo a0 (z2 r g)), Z, (own_lo a1 (z4 r g i l)), aq, (own_lo a2 (z4 r g i l)), au, (by first | exact own_nil _ _ _ _ | exact OLv.nil _ _ _ _), (by simp), (by first | exact own_nil _ _ _ _ | exact OLv.nil _ _ _ _), (by simp), (by first | exact own_nil _ _ _ _ | exact OLv.nil _ _ _ _), (by simp), ⟨⟨(Ap.lt u I (Nat.le_refl G.heap.size)), ⟨(Ap.lt u J (Nat.le_refl G.heap.size)), ⟨(Ap.nr _), ⟨(Ap.nr _), ⟨(Ap.nr _), trivial⟩⟩⟩⟩⟩, ⟨⟨(av.1.1), ⟨(Ap.nr _), ⟨(Ap.nr _), ⟨(Ap.nr _), trivial⟩⟩⟩⟩, ⟨⟨(Ap.nr _), ⟨(Ap.nr _), ⟨(Ap.nr _), trivial⟩⟩⟩, ⟨⟨(Ap.nl _), ⟨(Ap.nl _), trivial⟩⟩, ⟨⟨(Ap.nl _), trivial⟩, ⟨trivial, trivial⟩⟩⟩⟩⟩⟩⟩

def N_23 (w : World) (g : Nat) (v : Value) (x : (List Int)) : Prop := ∃ (a : Option Addr) (b : Nat), v = .slice a x.length b ∧ Rd w 1 (.slice a x.length b) x.length (x.map iV) ∧ x.length ≤ 1073741824 ∧ (0 < x.length → ∀ z, a = some z → z.block ≠ g)
theorem csl1Int (b : World) (g : Nat) (ca : Option Addr) (cc : Nat) (cb : List UInt8) (o : CurX b g 100 ca cc cb) (l : Value) (a : List Int) (p : N_23 b g l a) (s : 0 < a.length) : Fn Tryz.prog 61 #[(vp g 0), l] b (fun v f => ∃ x : (Int), Ch (fun k => k = g) b f ∧ CurX f g 100 ca cc cb ∧ O_3 f b.heap.size v x ∧ (x ∈ a)) := by
 obtain ⟨ci, chh, hcb, hcr, hcl, hci, hcn⟩ := o
 have hgl := Blk.lt hcb
 obtain ⟨h, i, rfl, j, t, m⟩ := p
 refine fn_ofS (n := 12) [(vp g 0), (vs h a.length i)] Tryz.func61 rfl rfl ?_
 refine sr ?_
 refine aw (vi 0) ?_
 refine nx ?_
 refine mw (vs h a.length i) ?_
 refine mw (vp g 0) ?_
 refine mw (vs h a.length i) ?_
 refine ln wN slTy_23 j ?_
 refine cl wN (csl1Below b g ca cc cb ⟨_, _, hcb, hcr, hcl, (by omega), hcn⟩ (a.length : Int)) ?_
 rintro _ u ⟨d, q, ⟨w, y, r, A, B, C, D⟩, rfl, E⟩
 have e := ChG.ext (Ch.refl (fun k => k = g) b) q (fun k hk => .inl hk)
 refine ix wN (d) slTy_23 (Rd.chP j e m) ?_
 refine ei (x := a) (((d)).toNat) wN isAgg_3 (Rd.chP j e m) ?_
 refine aw (vi (a.getD ((d)).toNat 0)) ?_
 refine n3 ?_
 refine rt (vi (a.getD ((d)).toNat 0)) ?_
 exact ⟨(a.getD ((d)).toNat 0), e, ⟨_, _, r, (Rd.chP hcr e hcn), hcl, (by omega), hcn⟩, rfl, (by exact getD_memI (by omega))⟩

def O_23 (w : World) (lo : Nat) (v : Value) (x : (List Int)) : Prop := ∃ (a : Option Addr) (b : Nat), v = .slice a x.length b ∧ w.ownsRow lo 3 1 (.slice a x.length b) x.length (x.map iV) ∧ x.length ≤ 1073741824 ∧ Aps [(a, b)]
def R_23 (w : World) (v : Value) (x : (List Int)) : Prop := ∃ (a : Option Addr) (b : Nat), v = .slice a x.length b ∧ Rd w 1 (.slice a x.length b) x.length (x.map iV) ∧ x.length ≤ 1073741824
theorem csl8Nums (a : World) (g : Nat) (ca : Option Addr) (cc : Nat) (cb : List UInt8) (aW : CurX a g 100 ca cc cb) (E : Int) (bS : 0 ≤ E ∧ E ≤ 100) : Fn Tryz.prog 131 #[(vp g 0), (vi E)] a (fun v F => ∃ x : (List Int), Ch (fun k => k = g) a F ∧ CurX F g 100 ca cc cb ∧ O_23 F a.heap.size v x ∧ (x.length ≤ 101)) := by
 obtain ⟨ci, chh, hcb, hcr, hcl, hci, hcn⟩ := aW
 have hgl := Blk.lt hcb
 refine fn_ofS (n := 47) [(vp g 0), (vi E)] Tryz.func131 rfl rfl ?_
 refine sr ?_
 refine aw (vs none 0 0) ?_
 refine nx ?_
 refine wl_lit0 wN rfl rfl slTy_23 (fun w => by kernel_rfl) ?_
 intro ak bT s am
 have aX := ChG.extk (Ch.refl (fun k => k = g) a) s
 refine aw (vs (some ak) 0 0) ?_
 refine nx ?_
 refine mw (vp g 0) ?_
 refine ltI ([0, 0, 0, 1000, 5000, 281474976710000] : List Int) wN slTy_23 ?_
 intro bU bW aY t az
 have a0 := ChG.extk aX t
 have aZ := ((hcb.kp s).kp t)
 refine cl wN (csl1Int aY g ca cc cb ⟨_, _, aZ, (Rd.chP hcr a0 hcn), hcl, (by omega), hcn⟩ _ ([0, 0, 0, 1000, 5000, 281474976710000] : List Int) ⟨_, _, rfl, (Rd.of_own az), (by simp), (fun _ z hz => by have Q := (own_lt az z.block (by rw [hz]; rfl)).1; have R := nL hgl s.size; omega)⟩ (by simp)) ?_
 rintro _ ba ⟨A, B, ⟨bX, bY, bb, bZ, cd, ce, cg⟩, rfl, bc⟩
 have a1 := ChG.ext a0 B (fun k hk => .inl hk)
 have q15m : A = 0 ∨ A = 0 ∨ A = 0 ∨ A = 1000 ∨ A = 5000 ∨ A = 281474976710000 := by simpa only [List.mem_cons, List.not_mem_nil, or_false] using bc
 refine aw (vi (A)) ?_
 refine n4 ?_
 refine mw (vp g 0) ?_
 refine mw (vi E) ?_
 refine ar (E + 1) wN ?_
 refine cl wN (csl1Below ba g ca cc cb ⟨_, _, bb, (Rd.chP hcr a1 hcn), hcl, (by omega), hcn⟩ (E + 1)) ?_
 rintro _ S ⟨an, C, ⟨cj, ck, bd, cm, cn, co, cp⟩, rfl, cq⟩
 have a2 := ChG.ext a1 C (fun k hk => .inl hk)
 refine aw (vi (an)) ?_
 refine wl_nil <| wq_then <| wc_block ?_
 have be := (own_ch (own_ch (own_kp am t) B (ne1 am (hgl))) C (ne1 am (hgl)))
 have a3 : ([] : List Int) = ([] : List Int) := by simp
 have a4 : 0 = (([] : List Int)).length := by rw [← a3]; try (first | rfl | simp only [List.length_set] | simp)
 refine wc_loopP [(0, (vp g 0)), (4, (vs none 0 0)), (5, (.slice (some ak) (([] : List Int)).length 0)), (6, (vi (A))), (7, (vi (an)))] ⟨rfl, rfl, rfl, rfl, rfl, trivial⟩ (fun e' F => ∃ (l : List Int) (b : Int) (q : Int) (a5 : Env) (j : Option Addr) (m : Nat), e' = pt a5 [(0, (vp g 0)), (4, (vs none 0 0)), (5, (.slice j (l).length m)), (6, (vi b)), (7, (vi q))] ∧ Ch (fun k => k = g) a F ∧ Ch (fun k => k = g ∨ a.heap.size ≤ k) S F ∧ (l.length : Int) + q ≤ E ∧ 0 ≤ q ∧ 0 ≤ b ∧ b + 3000 * q ≤ 281474977010000 ∧ (World.ownsRow F a.heap.size 3 1 (.slice j (l).length m) (l).length ((l).map iV) ∧ (l).length ≤ 1073741824) ∧ CurX F g 100 ca cc cb) (fun e' _ => ((intOf (e' 7))).toNat) ?_ ?_
 ·exact fun u => ⟨([] : List Int), (A), (an), u, (some ak), 0, rfl, a2, (Ch.refl (fun k => k = g ∨ a.heap.size ≤ k) S), (by first | omega | (simp only [List.length_append, List.length_cons, List.length_nil]; omega)), (by omega), (by omega), (by omega), ⟨(by rw [← a4, ← a3]; exact be), (by rw [← a4]; first | exact (by simp) | (simp only [List.length_append, List.length_take, List.length_replicate]; omega))⟩, ⟨_, _, bd, (Rd.chP hcr a2 hcn), hcl, (by omega), hcn⟩⟩
 ·rintro _ T ⟨l, b, q, a5, j, m, rfl, V, D, cr, cs, cu, cv, ⟨e, bg⟩, ⟨cw, cx, a6, cy, cz, c0, c1⟩⟩
  refine wc_seq <| sr ?_
  refine mw (vi q) ?_
  refine pu (vb (decide (0 < q))) wN ?_
  refine n2 ?_
  rcases bf (decide (0 < q)) with H | H
  ·have c2 := dF H
   refine cf H ?_
   refine wc_exit <| wq_then_exit <| wq_then_exit <| wq_blk_exit <| wq_then <| wc_seq <| sr ?_
   refine mw (vp g 0) ?_
   refine cl wN (csl1Once T g ca cc cb ⟨_, _, a6, (Rd.chP hcr V hcn), hcl, (by omega), hcn⟩ 5) ?_
   rintro _ a7 ⟨bh, I, ⟨c3, c4, a8, c5, c6, c7, c8⟩, rfl, c9⟩
   have ao := ChG.ext V I (fun k hk => .inl hk)
   refine n2 ?_
   rcases bf bh with ap | ap
   ·refine cf ap ?_
    refine y1 ?_
    refine mw (vs j (l).length m) ?_
    refine aw (vs j (l).length m) ?_
    refine n3 ?_
    have a9 := (own_ch e I (ne1 e (hgl)))
    refine rt (vs j (l).length m) ?_
    have aA : (l).length = (l).length := by first | (simp only [List.length_append, List.length_take, List.length_replicate, List.length_set, List.length_map]; done) | (simp only [List.length_append, List.length_take, List.length_replicate, List.length_set, List.length_map]; omega)
    rw [aA] at a9 ⊢
    exact ⟨l, ao, ⟨_, _, a8, (Rd.chP hcr ao hcn), hcl, (by omega), hcn⟩, ⟨_, _, rfl, a9, (by rw [← aA]; exact bg), ⟨trivial, trivial⟩⟩, (by (first | omega | (simp only [List.length_append, List.length_cons, List.length_nil]; omega)))⟩
   refine ct ap ?_
   refine wc_region ?_
   refine mw (vs j (l).length m) ?_
   refine mw (vp g 0) ?_
   refine ltI ([(-1), 281474976710655, 281474976710656] : List Int) wN slTy_23 ?_
   intro cC cD W X aB
   have aC := ChG.extk ao X
   have bi := (a8.kp X)
   refine cl wN (csl1Int W g ca cc cb ⟨_, _, bi, (Rd.chP hcr aC hcn), hcl, (by omega), hcn⟩ _ ([(-1), 281474976710655, 281474976710656] : List Int) ⟨_, _, rfl, (Rd.of_own aB), (by simp), (fun _ z hz => by have Q := (own_lt aB z.block (by rw [hz]; rfl)).1; have R := nL hgl (z6 s t B C D I); omega)⟩ (by simp)) ?_
   rintro _ Y ⟨o, aq, ⟨cE, cF, bj, cG, cH, cI, cJ⟩, rfl, bk⟩
   have bl := ChG.ext aC aq (fun k hk => .inl hk)
   have q208m : o = (-1) ∨ o = 281474976710655 ∨ o = 281474976710656 := by simpa only [List.mem_cons, List.not_mem_nil, or_false] using bk
   refine ltI ([(o)] : List Int) wN slTy_23 ?_
   intro cK cL aD Z bm
   have bn := ChG.extk bl Z
   have bo := (own_kp (own_ch (own_kp (own_ch e I (ne1 e (hgl))) X) aq (ne1 e (hgl))) Z)
   refine wl_append (v := (vs j (l).length m)) wN rfl rfl rfl slTy_23 rfl rfl bo (Rd.of_own bm) (all_iV _) (by first | (simp only [List.length_append, List.length_cons, List.length_nil, List.length_replicate, List.length_take, List.length_drop]; omega) | omega) (by simp only [maxLen]; first | (simp only [List.length_append, List.length_cons, List.length_nil, List.length_replicate, List.length_take, List.length_drop]; omega) | omega) (z9 s t B C D I X aq Z) ?_
   intro bp aa aE bq cM
   have aF : aa.ownsRow a.heap.size 3 1 bp ((l ++ ([(o)] : List Int)) : List Int).length (((l ++ ([(o)] : List Int)) : List Int).map iV) := by simpa [Nat.add_assoc] using bq
   obtain ⟨ab, ac, rfl⟩ := own_form aF
   have aG := ChG.ext bn aE (fun k hk => .inr (nT (Nat.le_refl a.heap.size) (own_lt e k hk).1))
   have br : (l ++ ([(o)] : List Int)).length ≤ 1073741824 := by first | (simp only [List.length_append, List.length_cons, List.length_nil, List.length_replicate, List.length_take, List.length_drop]; omega) | omega | assumption
   refine aw (vs ab (l ++ ([(o)] : List Int)).length ac) ?_
   refine nx ?_
   refine mw (vs ab (l ++ ([(o)] : List Int)).length ac) ?_
   refine aw (vs ab (l ++ ([(o)] : List Int)).length ac) ?_
   refine n3 ?_
   refine rt (vs ab (l ++ ([(o)] : List Int)).length ac) ?_
   have bu := ((bj.kp Z).ch aE (fun h => by have := (own_lt e _ h).1; have := nL hgl (Nat.le_refl a.heap.size); omega))
   exact ⟨(l ++ ([(o)] : List Int)), aG, ⟨_, _, bu, (Rd.chP hcr aG hcn), hcl, (by omega), hcn⟩, ⟨_, _, rfl, aF, br, ⟨trivial, trivial⟩⟩, (by (first | omega | (simp only [List.length_append, List.length_cons, List.length_nil]; omega)))⟩
  have cN := dT H
  refine ct H ?_
  refine wc_skip <| wq_then <| wc_seq <| wc_block <| wc_seq <| sr ?_
  refine mw (vp g 0) ?_
  refine cl wN (csl1Once T g ca cc cb ⟨_, _, a6, (Rd.chP hcr V hcn), hcl, (by omega), hcn⟩ 6) ?_
  rintro _ a7 ⟨bv, y, ⟨cO, cP, aH, cQ, cR, cS, cT⟩, rfl, cU⟩
  have au := ChG.ext V y (fun k hk => .inl hk)
  refine n2 ?_
  rcases bf bv with av | av
  ·refine cf av ?_
   refine wc_skip <| wq_then <| wc_region ?_
   refine mw (vs j (l).length m) ?_
   refine mw (vi b) ?_
   refine mw (vp g 0) ?_
   refine cl wN (csl1Below a7 g ca cc cb ⟨_, _, aH, (Rd.chP hcr au hcn), hcl, (by omega), hcn⟩ 40) ?_
   rintro _ W ⟨p, J, ⟨cV, cW, bw, cX, cY, cZ, da⟩, rfl, db⟩
   have bz := ChG.ext au J (fun k hk => .inl hk)
   refine ar (b + (p)) wN ?_
   refine mw (vp g 0) ?_
   refine ltI ([0, 0, 20, 1000] : List Int) wN slTy_23 ?_
   intro dc dd Y K aI
   have aJ := ChG.extk bz K
   have b0 := (bw.kp K)
   refine cl wN (csl1Int Y g ca cc cb ⟨_, _, b0, (Rd.chP hcr aJ hcn), hcl, (by omega), hcn⟩ _ ([0, 0, 20, 1000] : List Int) ⟨_, _, rfl, (Rd.of_own aI), (by simp), (fun _ z hz => by have Q := (own_lt aI z.block (by rw [hz]; rfl)).1; have R := nL hgl (z7 s t B C D y J); omega)⟩ (by simp)) ?_
   rintro _ aD ⟨f, ad, ⟨de, df, b1, dg, dh, di, dj⟩, rfl, b2⟩
   have b3 := ChG.ext aJ ad (fun k hk => .inl hk)
   have q157m : f = 0 ∨ f = 0 ∨ f = 20 ∨ f = 1000 := by simpa only [List.mem_cons, List.not_mem_nil, or_false] using b2
   refine ar ((b + (p)) - (f)) wN ?_
   refine ltI ([((b + (p)) - (f))] : List Int) wN slTy_23 ?_
   intro dk dl aa L b4
   have b5 := ChG.extk b3 L
   have b6 := (own_kp (own_ch (own_kp (own_ch (own_ch e y (ne1 e (hgl))) J (ne1 e (hgl))) K) ad (ne1 e (hgl))) L)
   refine wl_append (v := (vs j (l).length m)) wN rfl rfl rfl slTy_23 rfl rfl b6 (Rd.of_own b4) (all_iV _) (by first | (simp only [List.length_append, List.length_cons, List.length_nil, List.length_replicate, List.length_take, List.length_drop]; omega) | omega) (by simp only [maxLen]; first | (simp only [List.length_append, List.length_cons, List.length_nil, List.length_replicate, List.length_take, List.length_drop]; omega) | omega) (z10 s t B C D y J K ad L) ?_
   intro b7 aK ax b8 dm
   have aL : aK.ownsRow a.heap.size 3 1 b7 ((l ++ ([((b + (p)) - (f))] : List Int)) : List Int).length (((l ++ ([((b + (p)) - (f))] : List Int)) : List Int).map iV) := by simpa [Nat.add_assoc] using b8
   obtain ⟨ae, af, rfl⟩ := own_form aL
   have aM := ChG.ext b5 ax (fun k hk => .inr (nT (Nat.le_refl a.heap.size) (own_lt e k hk).1))
   have b9 : (l ++ ([((b + (p)) - (f))] : List Int)).length ≤ 1073741824 := by first | (simp only [List.length_append, List.length_cons, List.length_nil, List.length_replicate, List.length_take, List.length_drop]; omega) | omega | assumption
   refine aw (vs ae (l ++ ([((b + (p)) - (f))] : List Int)).length af) ?_
   refine wl_nil <| wq_blk_normal <| wq_then <| wc_region ?_
   refine mw (vi q) ?_
   refine ar (q - 1) wN ?_
   refine aw (vi (q - 1)) ?_
   refine wl_nil ?_
   have aN : ((l ++ ([((b + (p)) - (f))] : List Int)) : List Int) = (l ++ ([((b + (p)) - (f))] : List Int)) := by simp
   have bA := ((b1.kp L).ch ax (fun h => by have := (own_lt e _ h).1; have := nL hgl (Nat.le_refl a.heap.size); omega))
   refine wq_loopP (w0 := T) [(0, (vp g 0)), (4, (vs none 0 0)), (5, (.slice ae ((l ++ ([((b + (p)) - (f))] : List Int))).length af)), (6, (vi b)), (7, (vi (q - 1)))] ?_ ?_ ?_
   · exact ⟨rfl, rfl, (cA (fun l : List Int => Value.slice ae l.length af) aN), rfl, rfl, trivial⟩
   · exact fun u => ⟨(l ++ ([((b + (p)) - (f))] : List Int)), b, (q - 1), u, ae, af, rfl, aM, (ChO.ext (ChO.extk (ChO.ext (ChO.extk (ChO.ext (ChO.ext (ChO.ext (Ch.refl (fun k => k = g ∨ a.heap.size ≤ k) S) D (fun k hk => hk.elim .inl (fun hk => .inr (hk)))) y (fun k hk => .inl hk)) J (fun k hk => .inl hk)) K) ad (fun k hk => .inl hk)) L) ax (fun k hk => .inr (nT (Nat.le_refl a.heap.size) (own_lt e k hk).1))), (by first | omega | (simp only [List.length_append, List.length_cons, List.length_nil]; omega)), (by omega), (by omega), (by omega), (aN ▸ ⟨aL, b9⟩), ⟨_, _, bA, (Rd.chP hcr aM hcn), hcl, (by omega), hcn⟩⟩
   · show ((q - 1)).toNat < (q).toNat; omega
  refine ct av ?_
  refine wc_region ?_
  refine mw (vi b) ?_
  refine mw (vp g 0) ?_
  refine ltI ([1, 32, 900, 1023, 1024, 1025, 3000] : List Int) wN slTy_23 ?_
  intro dn dp W G aO
  have aP := ChG.extk au G
  have bB := (aH.kp G)
  refine cl wN (csl1Int W g ca cc cb ⟨_, _, bB, (Rd.chP hcr aP hcn), hcl, (by omega), hcn⟩ _ ([1, 32, 900, 1023, 1024, 1025, 3000] : List Int) ⟨_, _, rfl, (Rd.of_own aO), (by simp), (fun _ z hz => by have Q := (own_lt aO z.block (by rw [hz]; rfl)).1; have R := nL hgl (z6 s t B C D y); omega)⟩ (by simp)) ?_
  rintro _ Y ⟨d, M, ⟨dq, dr, bC, ds, dt, du, dv⟩, rfl, bD⟩
  have aQ := ChG.ext aP M (fun k hk => .inl hk)
  have q79m : d = 1 ∨ d = 32 ∨ d = 900 ∨ d = 1023 ∨ d = 1024 ∨ d = 1025 ∨ d = 3000 := by simpa only [List.mem_cons, List.not_mem_nil, or_false] using bD
  refine ar (b + (d)) wN ?_
  refine aw (vi (b + (d))) ?_
  refine wl_nil <| wq_then <| wc_region ?_
  refine mw (vs j (l).length m) ?_
  refine mw (vi (b + (d))) ?_
  refine mw (vp g 0) ?_
  refine cl wN (csl1Below Y g ca cc cb ⟨_, _, bC, (Rd.chP hcr aQ hcn), hcl, (by omega), hcn⟩ 40) ?_
  rintro _ aD ⟨r, N, ⟨dw, dx, bE, dy, dz, d0, d1⟩, rfl, d2⟩
  have bF := ChG.ext aQ N (fun k hk => .inl hk)
  refine ar ((b + (d)) + (r)) wN ?_
  refine mw (vp g 0) ?_
  refine ltI ([0, 0, 20, 1000] : List Int) wN slTy_23 ?_
  intro d3 d4 aa O aR
  have aS := ChG.extk bF O
  have bG := (bE.kp O)
  refine cl wN (csl1Int aa g ca cc cb ⟨_, _, bG, (Rd.chP hcr aS hcn), hcl, (by omega), hcn⟩ _ ([0, 0, 20, 1000] : List Int) ⟨_, _, rfl, (Rd.of_own aR), (by simp), (fun _ z hz => by have Q := (own_lt aR z.block (by rw [hz]; rfl)).1; have R := nL hgl (z9 s t B C D y G M N); omega)⟩ (by simp)) ?_
  rintro _ aK ⟨i, ah, ⟨d5, d6, bH, d7, d8, d9, dA⟩, rfl, bI⟩
  have bJ := ChG.ext aS ah (fun k hk => .inl hk)
  have q108m : i = 0 ∨ i = 0 ∨ i = 20 ∨ i = 1000 := by simpa only [List.mem_cons, List.not_mem_nil, or_false] using bI
  refine ar (((b + (d)) + (r)) - (i)) wN ?_
  refine ltI ([(((b + (d)) + (r)) - (i))] : List Int) wN slTy_23 ?_
  intro dB dC dD P bK
  have bL := ChG.extk bJ P
  have bM := (own_kp (own_ch (own_kp (own_ch (own_ch (own_kp (own_ch e y (ne1 e (hgl))) G) M (ne1 e (hgl))) N (ne1 e (hgl))) O) ah (ne1 e (hgl))) P)
  refine wl_append (v := (vs j (l).length m)) wN rfl rfl rfl slTy_23 rfl rfl bM (Rd.of_own bK) (all_iV _) (by first | (simp only [List.length_append, List.length_cons, List.length_nil, List.length_replicate, List.length_take, List.length_drop]; omega) | omega) (by simp only [maxLen]; first | (simp only [List.length_append, List.length_cons, List.length_nil, List.length_replicate, List.length_take, List.length_drop]; omega) | omega) (z12 s t B C D y G M N O ah P) ?_
  intro bN bO ay bP dE
  have aT : bO.ownsRow a.heap.size 3 1 bN ((l ++ ([(((b + (d)) + (r)) - (i))] : List Int)) : List Int).length (((l ++ ([(((b + (d)) + (r)) - (i))] : List Int)) : List Int).map iV) := by simpa [Nat.add_assoc] using bP
  obtain ⟨ai, aj, rfl⟩ := own_form aT
  have aU := ChG.ext bL ay (fun k hk => .inr (nT (Nat.le_refl a.heap.size) (own_lt e k hk).1))
  have bQ : (l ++ ([(((b + (d)) + (r)) - (i))] : List Int)).length ≤ 1073741824 := by first | (simp only [List.length_append, List.length_cons, List.length_nil, List.length_replicate, List.length_take, List.length_drop]; omega) | omega | assumption
  refine aw (vs ai (l ++ ([(((b + (d)) + (r)) - (i))] : List Int)).length aj) ?_
  refine wl_nil <| wq_blk_normal <| wq_then <| wc_region ?_
  refine mw (vi q) ?_
  refine ar (q - 1) wN ?_
  refine aw (vi (q - 1)) ?_
  refine wl_nil ?_
  have aV : ((l ++ ([(((b + (d)) + (r)) - (i))] : List Int)) : List Int) = (l ++ ([(((b + (d)) + (r)) - (i))] : List Int)) := by simp
  have bR := ((bH.kp P).ch ay (fun h => by have := (own_lt e _ h).1; have := nL hgl (Nat.le_refl a.heap.size); omega))
  refine wq_loopP (w0 := T) [(0, (vp g 0)), (4, (vs none 0 0)), (5, (.slice ai ((l ++ ([(((b + (d)) + (r)) - (i))] : List Int))).length aj)), (6, (vi (b + (d)))), (7, (vi (q - 1)))] ?_ ?_ ?_
  · exact ⟨rfl, rfl, (cA (fun l : List Int => Value.slice ai l.length aj) aV), rfl, rfl, trivial⟩
  · exact fun u => ⟨(l ++ ([(((b + (d)) + (r)) - (i))] : List Int)), (b + (d)), (q - 1), u, ai, aj, rfl, aU, (ChO.ext (ChO.extk (ChO.ext (ChO.extk (ChO.ext (ChO.ext (ChO.extk (ChO.ext (ChO.ext (Ch.refl (fun k => k = g ∨ a.heap.size ≤ k) S) D (fun k hk => hk.elim .inl (fun hk => .inr (hk)))) y (fun k hk => .inl hk)) G) M (fun k hk => .inl hk)) N (fun k hk => .inl hk)) O) ah (fun k hk => .inl hk)) P) ay (fun k hk => .inr (nT (Nat.le_refl a.heap.size) (own_lt e k hk).1))), (by first | omega | (simp only [List.length_append, List.length_cons, List.length_nil]; omega)), (by omega), (by omega), (by omega), (aV ▸ ⟨aT, bQ⟩), ⟨_, _, bR, (Rd.chP hcr aU hcn), hcl, (by omega), hcn⟩⟩
  · show ((q - 1)).toNat < (q).toNat; omega

def s_l8Copy (a : PWin) : (PWin) := a
theorem csl8Copy (f : World) (u : Value) (a : PWin) (G : R_34 f u a)  : Fn Tryz.prog 109 #[u] f (fun v g => Keep f g ∧ O_34 g f.heap.size v (a)) := by
 obtain ⟨b, i, rfl, H, I⟩ := G
 refine fn_ofS (n := 10) [(va (L_34 a b i))] Tryz.func109 rfl rfl ?_
 refine sr ?_
 refine bx (L_34 a b i) wN ?_
 intro j x ah ai p y
 refine al [(vi 0), (vs none 0 0)] wN zero_34 ?_
 intro aj q J K l L
 have A := ((Ch.base f).extk p).extk l
 refine wl_nil <| wq_then <| wc_seq ?_
 refine wc_drawT ([(3, [], [], (fun _ v _ => v = (vp j 0))), (4, [], [0], (fun _ v _ => v = (vi a.Top))), (5, [], [], (fun _ v w => ∃ a0 : Addr, v = .slice (some a0) 0 0 ∧ w.ownsRow q.heap.size 3 1 (.slice (some a0) 0 0) 0 [])), (6, [], [], (fun _ v _ => v = (vp j 1))), (7, [], [3], (fun _ v _ => v = (vs b a.Bits.length i))), (8, [], [2, 3, 4], (fun _ v w => ∃ (b : Option Addr) (r : Nat), v = .slice b a.Bits.length r ∧ w.ownsRow q.heap.size 3 1 (.slice b a.Bits.length r) a.Bits.length (a.Bits.map iV) ∧ a.Bits.length ≤ 1073741824 ∧ Aps [(b, r)]))] : GV) (fun _ g => Keep q g) [] mixed rfl (by kernel_rfl) (by kernel_rfl) ?_ (fun _ _ h => h) (fun _ _ _ _ h _ k => h.trans k) trivial ?_ ?_ ?_
 ·exact ⟨hV, hE, ⟨hV, hE, ⟨(fun e v w x h hk => by obtain ⟨s, he, t⟩ := h; exact ⟨s, he, own_kp t hk⟩), hE, ⟨hV, hE, ⟨hV, hE, ⟨(fun e v w x h hk => by obtain ⟨s, M, he, t, N, hap⟩ := h; exact ⟨s, M, he, own_kp t hk, N, hap⟩), hE, trivial⟩⟩⟩⟩⟩⟩
 ·exact trivial
 ·refine ⟨?_, ⟨?_, ⟨?_, ⟨?_, ⟨?_, ⟨?_, trivial⟩⟩⟩⟩⟩⟩
  ·intro _ d ak _
   rintro _ _ _ _ _ _
   show WL _ _ _ _ _ _ _
   refine pu (vp j 0) wN ?_
   exact f1
  ·intro _ d O _
   rintro _ rfl _ _ _ _ _
   show WL _ _ _ _ _ _ _
   have P := ((y.kp l).kp O)
   refine ld (vi a.Top) wN isAgg_3 P ?_
   exact f1
  ·intro _ d Q _
   rintro _ _ _ _ _ _
   show WL _ _ _ _ _ _ _
   refine wl_lit0 wN rfl rfl slTy_23 (fun w => by kernel_rfl) ?_
   intro am B R S
   exact wl_finT R ⟨_, rfl, own_lo S Q.size⟩
  ·intro _ d an _
   rintro _ _ _ _ _ _
   show WL _ _ _ _ _ _ _
   refine pu (vp j 1) wN ?_
   exact f1
  ·intro _ d T _
   rintro _ _ _ _ rfl _ _
   show WL _ _ _ _ _ _ _
   have V := ((y.kp l).kp T)
   refine ld (vs b a.Bits.length i) wN isAgg_23 V ?_
   exact f1
  ·intro _ d C _
   have W := A.extk C
   rintro _ _ _ ⟨ao, rfl, X⟩ _ rfl _ rfl _
   show WL _ _ _ _ _ _ _
   refine ap0I a.Bits wN slTy_23 X (H.from0 W) C.size ?_
   intro ap aq B Y Z au
   exact wl_finT Y ⟨_, _, rfl, Z, I, ⟨trivial, trivial⟩⟩
 ·intro _ d D
  rintro _ rfl _ rfl _ ⟨av, rfl, ax⟩ _ rfl _ rfl _ ⟨m, o, rfl, E, aa, -⟩
  show WL _ _ _ _ _ _ _
  refine pu (va (L_34 a m o)) wN ?_
  have ab := (L.kp D)
  refine sv (L_34 a m o) wN sizeOf_34 ab ?_
  intro B F ac ay
  have ad := (A.extk D).ext F (fun k hk => by subst hk; exact nT p.size J)
  refine n3 ?_
  have ae := (own_ch E F (ne1 E (K)))
  refine ret_1 (.inl rfl) (va (L_34 a m o)) rfl (rv_c (L_34 a m o) rfl ac isAgg_34 sizeOf_34) ?_
  refine ⟨ad.keep0, ?_⟩
  have af : a = a := by rfl
  rw [af]
  exact ⟨_, _, rfl, (own_lo ae (z2 p l)), aa, ⟨trivial, trivial⟩⟩

def s_l8Bit (b : PWin) (a : Int) : (Bool) := decide ((((b.Bits.getD (((a % 1024) / 32)).toNat 0) / (2 : Int) ^ (((a % 1024) % 32)).toNat) % 2) = 1)
theorem csl8Bit (d : World) (h : Value) (b : PWin) (k : R_34 d h b) (a : Int) (q : b.Bits.length = 32) (r : 0 ≤ a) : Fn Tryz.prog 113 #[h, (vi a)] d (fun v i => Keep d i ∧ O_4 i d.heap.size v (s_l8Bit b a)) := by
 obtain ⟨e, f, rfl, j, s⟩ := k
 refine fn_ofS (n := 19) [(va (L_34 b e f)), (vi a)] Tryz.func113 rfl rfl ?_
 refine sr ?_
 refine bx (L_34 b e f) wN ?_
 intro l t u w m o
 have g := (Ch.base d).extk m
 refine aw (vb false) ?_
 refine nx ?_
 refine mw (vi a) ?_
 refine wl_rem a 1024 wN rfl rfl (by kernel_rfl) (by first | omega | assumption) ?_
 refine aw (vi (a % 1024)) ?_
 refine nx ?_
 refine pu (vp l 1) wN ?_
 refine ld (vs e b.Bits.length f) wN isAgg_23 o ?_
 refine mw (vi (a % 1024)) ?_
 refine wl_quo (a % 1024) 32 wN rfl rfl (by kernel_rfl) (by omega) (by omega) (by omega) ?_
 refine ix wN ((a % 1024) / 32) slTy_23 (j.from0 g) ?_
 refine ei (x := b.Bits) ((((a % 1024) / 32)).toNat) wN isAgg_3 (j.from0 g) ?_
 refine mw (vi (a % 1024)) ?_
 refine wl_rem (a % 1024) 32 wN rfl rfl (by kernel_rfl) (by first | omega | assumption) ?_
 refine wl_shr (b.Bits.getD (((a % 1024) / 32)).toNat 0) ((a % 1024) % 32) wN rfl rfl rfl rfl rfl (by omega) (by omega) ?_
 refine wl_and ((b.Bits.getD (((a % 1024) / 32)).toNat 0) / (2 : Int) ^ (((a % 1024) % 32)).toNat) 1 2 1 wN rfl rfl (by decide) (by decide) (by decide) (by kernel_rfl) ?_
 refine pu (vb (decide ((((b.Bits.getD (((a % 1024) / 32)).toNat 0) / (2 : Int) ^ (((a % 1024) % 32)).toNat) % 2) = 1))) wN ?_
 refine aw (vb (decide ((((b.Bits.getD (((a % 1024) / 32)).toNat 0) / (2 : Int) ^ (((a % 1024) % 32)).toNat) % 2) = 1))) ?_
 refine n3 ?_
 refine rt (vb (decide ((((b.Bits.getD (((a % 1024) / 32)).toNat 0) / (2 : Int) ^ (((a % 1024) % 32)).toNat) % 2) = 1))) ?_
 refine ⟨g.keep0, ?_⟩
 have p : s_l8Bit b a = decide ((((b.Bits.getD (((a % 1024) / 32)).toNat 0) / (2 : Int) ^ (((a % 1024) % 32)).toNat) % 2) = 1) := by rfl
 rw [p]
 exact rfl

theorem mR_34 {w : World} {x : PWin} {a : Option Addr} {b : Nat} (d : Rd w 1 (.slice a x.Bits.length b) x.Bits.length (x.Bits.map iV)) (e : x.Bits.length ≤ 1073741824) : R_34 w (va (L_34 x a b)) x := ⟨_, _, rfl, d, e⟩
def sWin (w : PWin) : Bool := bif (decide ((w.Bits.length : Int) = 32)) then (bif s_l1In w.Top (-1) 281474976710655 then (bif allW w.Bits then (bif decide (0 ≤ w.Top) && !(s_l8Bit w w.Top) then false else noneIn (s_l8Bit w) (w.Top + 1) 1024) else false) else false) else false
theorem csWinOk (s : World) (W : Value) (d : PWin) (an : R_34 s W d)  : Fn Tryz.prog 110 #[W] s (fun v t => Keep s t ∧ O_4 t s.heap.size v (sWin d)) := by
 obtain ⟨E, F, rfl, H, N⟩ := an
 refine fn_ofS (n := 46) [(va (L_34 d E F))] Tryz.func110 rfl rfl ?_
 refine sr ?_
 refine bx (L_34 d E F) wN ?_
 intro o ao a9 L ap M
 have O := (Ch.base s).extk ap
 refine aw (vb false) ?_
 refine n4 ?_
 refine jT1 [(1, (vp o 0)), (2, (vb false))] (sWin d = false) ?_ fun X => ?_
 ·intro aq G au aA
  have av := O.extk au
  refine sr ?_
  refine aw (vb false) ?_
  refine n1 ?_
  refine rt (vb false) ?_
  refine ⟨av.keep0, ?_⟩
  rw [aq]
  exact rfl
 refine pu (vp o 1) wN ?_
 refine ld (vs E d.Bits.length F) wN isAgg_23 M ?_
 refine ln wN slTy_23 (H.from0 O) ?_
 refine pu (vb (!(decide ((d.Bits.length : Int) = 32)))) wN ?_
 refine mw (vb (!(decide ((d.Bits.length : Int) = 32)))) ?_
 rcases bf (decide ((d.Bits.length : Int) = 32)) with e | e
 ·have aB := dF e
  iterate 4 refine sk (cA not e) ?_
  refine pk (vb true) wN (cA not e) ?_
  refine n2 ?_
  refine ct (Eq.refl true) ?_
  have ax : sWin d = false := by first | (simp [sWin, e]; done) | (have hz := allW_no (x := d.Bits) (k := i) (by omega) (by assumption); simp [sWin, e, hz]; done) | (have hy := allW_all (x := d.Bits) (k := i) (by assumption) (by omega); simp [sWin, e, hy]; done) | (have hy := allW_all (x := d.Bits) (k := i) (by assumption) (by omega); have hz := noneIn_f (f := s_l8Bit d) (a := d.Top + 1) (b := 1024) (q := q) (by assumption) (by omega) (by omega); simp [sWin, e, hy, hz]; done) | (have hy := allW_all (x := d.Bits) (k := i) (by assumption) (by omega); have hz := noneIn_t (f := s_l8Bit d) (a := d.Top + 1) (b := 1024) (q := q) (by assumption) (by omega); simp [sWin, e, hy, hz]; done)
  exact wj (X ax _ (Ch.refl _ _))
 have aC := dT e
 refine pu (vp o 0) (wS (cA not e)) ?_
 refine ld (vi d.Top) (wS (cA not e)) isAgg_3 M ?_
 refine cl (wS (cA not e)) (csl1In ao d.Top (-1) 281474976710655) ?_
 rintro _ G ⟨B, rfl⟩
 have ay := O.extk B
 refine pu (vb (!(s_l1In d.Top (-1) 281474976710655))) (wS (cA not e)) ?_
 refine pf (vb (!(s_l1In d.Top (-1) 281474976710655))) wN (cA not e) ?_
 refine n2 ?_
 rcases bf (s_l1In d.Top (-1) 281474976710655) with g | g
 ·have aD := spec_l1In_f g
  refine ct (cA not g) ?_
  have az : sWin d = false := by first | (simp [sWin, e, g]; done) | (have hz := allW_no (x := d.Bits) (k := i) (by omega) (by assumption); simp [sWin, e, g, hz]; done) | (have hy := allW_all (x := d.Bits) (k := i) (by assumption) (by omega); simp [sWin, e, g, hy]; done) | (have hy := allW_all (x := d.Bits) (k := i) (by assumption) (by omega); have hz := noneIn_f (f := s_l8Bit d) (a := d.Top + 1) (b := 1024) (q := q) (by assumption) (by omega) (by omega); simp [sWin, e, g, hy, hz]; done) | (have hy := allW_all (x := d.Bits) (k := i) (by assumption) (by omega); have hz := noneIn_t (f := s_l8Bit d) (a := d.Top + 1) (b := 1024) (q := q) (by assumption) (by omega); simp [sWin, e, g, hy, hz]; done)
  exact wj (X az _ B)
 have aE := spec_l1In_t g
 refine cf (cA not g) ?_
 refine y2 ?_
 refine aw (vi 0) ?_
 refine wl_nil <| wq_then <| wc_block ?_
 refine wc_loopP [(1, (vp o 0)), (3, (vi ((0 : Nat) : Int)))] ⟨rfl, (cA (Value.int .i64) (show (0 : Int) = ((0 : Nat) : Int) by omega)), trivial⟩ (fun e' t => ∃ (i : Nat) (Y : Env), e' = pt Y [(1, (vp o 0)), (3, (vi ((i : Nat) : Int)))] ∧ Ch (fun k => s.heap.size ≤ k) s t ∧ Ch (fun k => G.heap.size ≤ k) G t ∧ i ≤ 32 ∧ allW (d.Bits.take i) = true) (fun e' _ => (32 - (intOf (e' 3))).toNat) ?_ ?_
 ·exact fun u => ⟨0, u, rfl, ay, (Ch.refl (fun k => G.heap.size ≤ k) G), (by omega), (by first | rfl | exact allW_next (by assumption) (by omega) (by assumption))⟩
 ·rintro _ A ⟨i, Y, rfl, I, K, aF, aG⟩
  refine wc_seq <| sr ?_
  refine mw (vi ((i : Nat) : Int)) ?_
  refine pu (vb (decide (((i : Nat) : Int) < 32))) wN ?_
  refine n2 ?_
  rcases bt (decide (((i : Nat) : Int) < 32)) with j | j
  ·have aH := dT j
   refine ct j ?_
   refine wc_skip <| wq_then <| wc_seq <| wc_block <| sr ?_
   refine pu (vp o 1) wN ?_
   have a0 := ((M.kp B).ch K (Nat.not_le.2 (nL L B.size)))
   refine ld (vs E d.Bits.length F) wN isAgg_23 a0 ?_
   refine mw (vi ((i : Nat) : Int)) ?_
   refine ix wN ((i : Nat) : Int) slTy_23 (H.from0 I) ?_
   refine ei (x := d.Bits) i wN isAgg_3 (H.from0 I) ?_
   refine cl wN (csl1In A (d.Bits.getD i 0) 0 4294967295) ?_
   rintro _ w ⟨Z, rfl⟩
   have aa := I.extk Z
   refine pu (vb (!(s_l1In (d.Bits.getD i 0) 0 4294967295))) wN ?_
   refine n2 ?_
   rcases bt (s_l1In (d.Bits.getD i 0) 0 4294967295) with y | y
   ·have aI := spec_l1In_t y
    refine cf (cA not y) ?_
    refine wc_skip <| wq_blk_normal <| wq_then <| wc_region ?_
    refine mw (vi ((i : Nat) : Int)) ?_
    refine ar (((i : Nat) : Int) + 1) wN ?_
    refine aw (vi (((i : Nat) : Int) + 1)) ?_
    refine wl_nil ?_
    refine wq_loopP (w0 := A) [(1, (vp o 0)), (3, (vi (((i + 1) : Nat) : Int)))] ?_ ?_ ?_
    · exact ⟨rfl, (cA (Value.int .i64) (show ((((i : Nat) : Int) + 1) : Int) = (((i + 1) : Nat) : Int) by omega)), trivial⟩
    · exact fun u => ⟨(i + 1), u, rfl, aa, (((Ch.refl (fun k => G.heap.size ≤ k) G).ext K (fun k hk => hk)).extk Z), (by omega), (by first | rfl | exact allW_next (by assumption) (by omega) (by assumption))⟩
    · show (32 - (((i + 1) : Nat) : Int)).toNat < (32 - ((i : Nat) : Int)).toNat; omega
   have aJ := spec_l1In_f y
   refine ct (cA not y) ?_
   refine sr ?_
   refine aw (vb false) ?_
   refine wl_nil <| wq_then <| wc_ret <| wq_blk_ret <| wq_then_ret <| wq_then_ret <| wq_blk_ret <| wq_then_ret ?_
   refine rt (vb false) ?_
   refine ⟨aa.keep0, ?_⟩
   have a1 : sWin d = false := by first | (simp [sWin, e, g, j, y]; done) | (have hz := allW_no (x := d.Bits) (k := i) (by omega) (by assumption); simp [sWin, e, g, j, y, hz]; done) | (have hy := allW_all (x := d.Bits) (k := i) (by assumption) (by omega); simp [sWin, e, g, j, y, hy]; done) | (have hy := allW_all (x := d.Bits) (k := i) (by assumption) (by omega); have hz := noneIn_f (f := s_l8Bit d) (a := d.Top + 1) (b := 1024) (q := q) (by assumption) (by omega) (by omega); simp [sWin, e, g, j, y, hy, hz]; done) | (have hy := allW_all (x := d.Bits) (k := i) (by assumption) (by omega); have hz := noneIn_t (f := s_l8Bit d) (a := d.Top + 1) (b := 1024) (q := q) (by assumption) (by omega); simp [sWin, e, g, j, y, hy, hz]; done)
   rw [a1]
   exact rfl
  have aK := dF j
  refine cf j ?_
  refine wc_exit <| wq_then_exit <| wq_then_exit <| wq_blk_exit <| wq_then <| wc_seq <| sr ?_
  refine pu (vp o 0) wN ?_
  have J := ((M.kp B).ch K (Nat.not_le.2 (nL L B.size)))
  refine ld (vi d.Top) wN isAgg_3 J ?_
  refine pu (vb (decide (0 ≤ d.Top))) wN ?_
  refine mw (vb (decide (0 ≤ d.Top))) ?_
  rcases bf (decide (0 ≤ d.Top)) with h | h
  ·have aL := dF h
   iterate 5 refine sk h ?_
   refine pf (vb false) wN h ?_
   refine n2 ?_
   refine cf (Eq.refl false) ?_
   refine y2 ?_
   refine pu (vp o 0) wN ?_
   refine ld (vi d.Top) wN isAgg_3 J ?_
   refine ar (d.Top + 1) wN ?_
   refine aw (vi (d.Top + 1)) ?_
   refine wl_nil <| wq_then <| wc_block ?_
   refine wc_loopP [(1, (vp o 0)), (4, (vi (d.Top + 1)))] ⟨rfl, rfl, trivial⟩ (fun e' t => ∃ (q : Int) (ab : Env), e' = pt ab [(1, (vp o 0)), (4, (vi q))] ∧ Ch (fun k => s.heap.size ≤ k) s t ∧ Ch (fun k => A.heap.size ≤ k) A t ∧ d.Top + 1 ≤ q ∧ q ≤ 281474976710656 ∧ (∀ m : Int, d.Top + 1 ≤ m → m < q → s_l8Bit d m = false)) (fun e' _ => (1024 - (intOf (e' 4))).toNat) ?_ ?_
   ·exact fun u => ⟨(d.Top + 1), u, rfl, I, (Ch.refl (fun k => A.heap.size ≤ k) A), (by omega), (by omega), (by first | (intro m P Q; omega) | exact none_next (by assumption) (by assumption))⟩
   ·rintro _ w ⟨q, ab, rfl, R, ac, aM, aN, aO⟩
    refine wc_seq <| sr ?_
    refine mw (vi q) ?_
    refine pu (vb (decide (q < 1024))) wN ?_
    refine n2 ?_
    rcases bf (decide (q < 1024)) with p | p
    ·have aP := dF p
     refine cf p ?_
     refine wc_exit <| wq_then_exit <| wq_then_exit <| wq_blk_exit <| wq_then <| sr ?_
     refine aw (vb true) ?_
     refine n3 ?_
     refine rt (vb true) ?_
     refine ⟨R.keep0, ?_⟩
     have a2 : sWin d = true := by first | (simp [sWin, e, g, j, h, p]; done) | (have hz := allW_no (x := d.Bits) (k := i) (by omega) (by assumption); simp [sWin, e, g, j, h, p, hz]; done) | (have hy := allW_all (x := d.Bits) (k := i) (by assumption) (by omega); simp [sWin, e, g, j, h, p, hy]; done) | (have hy := allW_all (x := d.Bits) (k := i) (by assumption) (by omega); have hz := noneIn_f (f := s_l8Bit d) (a := d.Top + 1) (b := 1024) (q := q) (by assumption) (by omega) (by omega); simp [sWin, e, g, j, h, p, hy, hz]; done) | (have hy := allW_all (x := d.Bits) (k := i) (by assumption) (by omega); have hz := noneIn_t (f := s_l8Bit d) (a := d.Top + 1) (b := 1024) (q := q) (by assumption) (by omega); simp [sWin, e, g, j, h, p, hy, hz]; done)
     rw [a2]
     exact rfl
    have aQ := dT p
    refine ct p ?_
    refine wc_skip <| wq_then <| wc_seq <| wc_block <| sr ?_
    have a3 := (J.ch ac (Nat.not_le.2 (nL L (z2 B K))))
    refine lN (L_34 d E F) wN isAgg_34 sizeOf_34 a3 ?_
    refine mw (vi q) ?_
    refine cl wN (csl8Bit w _ d (mR_34 (H.from0 R) N) q (by first | assumption | omega) (by first | assumption | omega)) ?_
    rintro _ S ⟨ad, rfl⟩
    have ae := R.extk ad
    refine n2 ?_
    rcases bf (s_l8Bit d q) with C | C
    ·refine cf C ?_
     refine wc_skip <| wq_blk_normal <| wq_then <| wc_region ?_
     refine mw (vi q) ?_
     refine ar (q + 1) wN ?_
     refine aw (vi (q + 1)) ?_
     refine wl_nil ?_
     refine wq_loopP (w0 := w) [(1, (vp o 0)), (4, (vi (q + 1)))] ?_ ?_ ?_
     · exact ⟨rfl, rfl, trivial⟩
     · exact fun u => ⟨(q + 1), u, rfl, ae, (((Ch.refl (fun k => A.heap.size ≤ k) A).ext ac (fun k hk => hk)).extk ad), (by omega), (by omega), (by first | (intro m P Q; omega) | exact none_next (by assumption) (by assumption))⟩
     · show (1024 - (q + 1)).toNat < (1024 - q).toNat; omega
    refine ct C ?_
    refine sr ?_
    refine aw (vb false) ?_
    refine wl_nil <| wq_then <| wc_ret <| wq_blk_ret <| wq_then_ret <| wq_then_ret <| wq_blk_ret <| wq_then_ret ?_
    refine rt (vb false) ?_
    refine ⟨ae.keep0, ?_⟩
    have a4 : sWin d = false := by first | (simp [sWin, e, g, j, h, p, C]; done) | (have hz := allW_no (x := d.Bits) (k := i) (by omega) (by assumption); simp [sWin, e, g, j, h, p, C, hz]; done) | (have hy := allW_all (x := d.Bits) (k := i) (by assumption) (by omega); simp [sWin, e, g, j, h, p, C, hy]; done) | (have hy := allW_all (x := d.Bits) (k := i) (by assumption) (by omega); have hz := noneIn_f (f := s_l8Bit d) (a := d.Top + 1) (b := 1024) (q := q) (by assumption) (by omega) (by omega); simp [sWin, e, g, j, h, p, C, hy, hz]; done) | (have hy := allW_all (x := d.Bits) (k := i) (by assumption) (by omega); have hz := noneIn_t (f := s_l8Bit d) (a := d.Top + 1) (b := 1024) (q := q) (by assumption) (by omega); simp [sWin, e, g, j, h, p, C, hy, hz]; done)
    rw [a4]
    exact rfl
  have aR := dT h
  refine lN (L_34 d E F) (wS h) isAgg_34 sizeOf_34 J ?_
  refine pu (vp o 0) (wS h) ?_
  refine ld (vi d.Top) (wS h) isAgg_3 J ?_
  refine cl (wS h) (csl8Bit A _ d (mR_34 (H.from0 I) N) d.Top (by first | assumption | omega) (by first | assumption | omega)) ?_
  rintro _ w ⟨T, rfl⟩
  have af := I.extk T
  refine pu (vb (!(s_l8Bit d d.Top))) (wS h) ?_
  refine pk (vb (!(s_l8Bit d d.Top))) wN h ?_
  refine n2 ?_
  rcases bf (s_l8Bit d d.Top) with l | l
  ·refine ct (cA not l) ?_
   refine sr ?_
   refine aw (vb false) ?_
   refine n1 ?_
   refine rt (vb false) ?_
   refine ⟨af.keep0, ?_⟩
   have a5 : sWin d = false := by first | (simp [sWin, e, g, j, h, l]; done) | (have hz := allW_no (x := d.Bits) (k := i) (by omega) (by assumption); simp [sWin, e, g, j, h, l, hz]; done) | (have hy := allW_all (x := d.Bits) (k := i) (by assumption) (by omega); simp [sWin, e, g, j, h, l, hy]; done) | (have hy := allW_all (x := d.Bits) (k := i) (by assumption) (by omega); have hz := noneIn_f (f := s_l8Bit d) (a := d.Top + 1) (b := 1024) (q := q) (by assumption) (by omega) (by omega); simp [sWin, e, g, j, h, l, hy, hz]; done) | (have hy := allW_all (x := d.Bits) (k := i) (by assumption) (by omega); have hz := noneIn_t (f := s_l8Bit d) (a := d.Top + 1) (b := 1024) (q := q) (by assumption) (by omega); simp [sWin, e, g, j, h, l, hy, hz]; done)
   rw [a5]
   exact rfl
  refine cf (cA not l) ?_
  refine y2 ?_
  refine pu (vp o 0) wN ?_
  have ah := (J.kp T)
  refine ld (vi d.Top) wN isAgg_3 ah ?_
  refine ar (d.Top + 1) wN ?_
  refine aw (vi (d.Top + 1)) ?_
  refine wl_nil <| wq_then <| wc_block ?_
  refine wc_loopP [(1, (vp o 0)), (4, (vi (d.Top + 1)))] ⟨rfl, rfl, trivial⟩ (fun e' t => ∃ (q : Int) (ai : Env), e' = pt ai [(1, (vp o 0)), (4, (vi q))] ∧ Ch (fun k => s.heap.size ≤ k) s t ∧ Ch (fun k => w.heap.size ≤ k) w t ∧ d.Top + 1 ≤ q ∧ q ≤ 281474976710656 ∧ (∀ m : Int, d.Top + 1 ≤ m → m < q → s_l8Bit d m = false)) (fun e' _ => (1024 - (intOf (e' 4))).toNat) ?_ ?_
  ·exact fun u => ⟨(d.Top + 1), u, rfl, af, (Ch.refl (fun k => w.heap.size ≤ k) w), (by omega), (by omega), (by first | (intro m P Q; omega) | exact none_next (by assumption) (by assumption))⟩
  ·rintro _ S ⟨q, ai, rfl, V, aj, aS, aT, aU⟩
   refine wc_seq <| sr ?_
   refine mw (vi q) ?_
   refine pu (vb (decide (q < 1024))) wN ?_
   refine n2 ?_
   rcases bf (decide (q < 1024)) with r | r
   ·have aV := dF r
    refine cf r ?_
    refine wc_exit <| wq_then_exit <| wq_then_exit <| wq_blk_exit <| wq_then <| sr ?_
    refine aw (vb true) ?_
    refine n3 ?_
    refine rt (vb true) ?_
    refine ⟨V.keep0, ?_⟩
    have a6 : sWin d = true := by first | (simp [sWin, e, g, j, h, l, r]; done) | (have hz := allW_no (x := d.Bits) (k := i) (by omega) (by assumption); simp [sWin, e, g, j, h, l, r, hz]; done) | (have hy := allW_all (x := d.Bits) (k := i) (by assumption) (by omega); simp [sWin, e, g, j, h, l, r, hy]; done) | (have hy := allW_all (x := d.Bits) (k := i) (by assumption) (by omega); have hz := noneIn_f (f := s_l8Bit d) (a := d.Top + 1) (b := 1024) (q := q) (by assumption) (by omega) (by omega); simp [sWin, e, g, j, h, l, r, hy, hz]; done) | (have hy := allW_all (x := d.Bits) (k := i) (by assumption) (by omega); have hz := noneIn_t (f := s_l8Bit d) (a := d.Top + 1) (b := 1024) (q := q) (by assumption) (by omega); simp [sWin, e, g, j, h, l, r, hy, hz]; done)
    rw [a6]
    exact rfl
   have aW := dT r
   refine ct r ?_
   refine wc_skip <| wq_then <| wc_seq <| wc_block <| sr ?_
   have a7 := (ah.ch aj (Nat.not_le.2 (nL L (z3 B K T))))
   refine lN (L_34 d E F) wN isAgg_34 sizeOf_34 a7 ?_
   refine mw (vi q) ?_
   refine cl wN (csl8Bit S _ d (mR_34 (H.from0 V) N) q (by first | assumption | omega) (by first | assumption | omega)) ?_
   rintro _ aX ⟨ak, rfl⟩
   have am := V.extk ak
   refine n2 ?_
   rcases bf (s_l8Bit d q) with D | D
   ·refine cf D ?_
    refine wc_skip <| wq_blk_normal <| wq_then <| wc_region ?_
    refine mw (vi q) ?_
    refine ar (q + 1) wN ?_
    refine aw (vi (q + 1)) ?_
    refine wl_nil ?_
    refine wq_loopP (w0 := S) [(1, (vp o 0)), (4, (vi (q + 1)))] ?_ ?_ ?_
    · exact ⟨rfl, rfl, trivial⟩
    · exact fun u => ⟨(q + 1), u, rfl, am, (((Ch.refl (fun k => w.heap.size ≤ k) w).ext aj (fun k hk => hk)).extk ak), (by omega), (by omega), (by first | (intro m P Q; omega) | exact none_next (by assumption) (by assumption))⟩
    · show (1024 - (q + 1)).toNat < (1024 - q).toNat; omega
   refine ct D ?_
   refine sr ?_
   refine aw (vb false) ?_
   refine wl_nil <| wq_then <| wc_ret <| wq_blk_ret <| wq_then_ret <| wq_then_ret <| wq_blk_ret <| wq_then_ret ?_
   refine rt (vb false) ?_
   refine ⟨am.keep0, ?_⟩
   have a8 : sWin d = false := by first | (simp [sWin, e, g, j, h, l, r, D]; done) | (have hz := allW_no (x := d.Bits) (k := i) (by omega) (by assumption); simp [sWin, e, g, j, h, l, r, D, hz]; done) | (have hy := allW_all (x := d.Bits) (k := i) (by assumption) (by omega); simp [sWin, e, g, j, h, l, r, D, hy]; done) | (have hy := allW_all (x := d.Bits) (k := i) (by assumption) (by omega); have hz := noneIn_f (f := s_l8Bit d) (a := d.Top + 1) (b := 1024) (q := q) (by assumption) (by omega) (by omega); simp [sWin, e, g, j, h, l, r, D, hy, hz]; done) | (have hy := allW_all (x := d.Bits) (k := i) (by assumption) (by omega); have hz := noneIn_t (f := s_l8Bit d) (a := d.Top + 1) (b := 1024) (q := q) (by assumption) (by omega); simp [sWin, e, g, j, h, l, r, D, hy, hz]; done)
   rw [a8]
   exact rfl
theorem sWin_t {w : PWin} (h : sWin w = true) : allW w.Bits = true ∧ w.Bits.length = 32 ∧ -1 ≤ w.Top ∧ w.Top ≤ 281474976710655 := by
  unfold sWin at h
  cases h0 : decide ((w.Bits.length : Int) = 32) with
  | false => simp only [h0, cond_false] at h; cases h
  | true =>
    cases h1 : s_l1In w.Top (-1) 281474976710655 with
    | false => simp only [h0, h1, cond_true, cond_false] at h; cases h
    | true =>
      cases h2 : allW w.Bits with
      | false => simp only [h0, h1, h2, cond_true, cond_false] at h; cases h
      | true =>
        have b := dT h0
        have a := spec_l1In_t h1
        exact ⟨rfl, by omega, a.1, a.2⟩

def s_l8Least (a : Int) : (Int) := bif (decide (a < 1024)) then (0) else (((a - 1024) + 1))
theorem csl8Least (d : World) (a : Int) (f : -1 ≤ a ∧ a ≤ 1000000000000000) : Fn Tryz.prog 112 #[(vi a)] d (fun v e => Keep d e ∧ O_3 e d.heap.size v (s_l8Least a)) := by
 refine fn_ofS (n := 8) [(vi a)] Tryz.func112 rfl rfl ?_
 refine sr ?_
 refine aw (vi 0) ?_
 refine n4 ?_
 refine mw (vi a) ?_
 refine pu (vb (decide (a < 1024))) wN ?_
 refine n2 ?_
 rcases bt (decide (a < 1024)) with b | b
 ·have g := dT b
  refine ct b ?_
  refine sr ?_
  refine aw (vi 0) ?_
  refine n1 ?_
  refine rt (vi 0) ?_
  refine ⟨Ch.refl _ _, ?_⟩
  simp only [s_l8Least, b, cond_true, cond_false]
  exact rfl
 have h := dF b
 refine cf b ?_
 refine y1 ?_
 refine mw (vi a) ?_
 refine ar (a - 1024) wN ?_
 refine ar ((a - 1024) + 1) wN ?_
 refine aw (vi ((a - 1024) + 1)) ?_
 refine n3 ?_
 refine rt (vi ((a - 1024) + 1)) ?_
 refine ⟨Ch.refl _ _, ?_⟩
 simp only [s_l8Least, b, cond_true, cond_false]
 exact rfl

def s_WinMay (a : PWin) (b : Int) : (Bool) := bif (sWin a) then (bif (s_l1In b 0 281474976710655) then (bif (decide (a.Top < b)) then (true) else (bif (decide ((s_l8Least a.Top) ≤ b)) then (!(s_l8Bit a b)) else (false))) else (false)) else (false)
theorem csWinMay (h : World) (r : Value) (a : PWin) (C : R_34 h r a) (b : Int)  : Fn Tryz.prog 80 #[r, (vi b)] h (fun v s => Keep h s ∧ O_4 s h.heap.size v (s_WinMay a b)) := by
 obtain ⟨i, j, rfl, t, u⟩ := C
 refine fn_ofS (n := 30) [(va (L_34 a i j)), (vi b)] Tryz.func80 rfl rfl ?_
 refine sr ?_
 refine bx (L_34 a i j) wN ?_
 intro l D P Q E w
 have m := (Ch.base h).extk E
 refine aw (vb false) ?_
 refine n4 ?_
 refine jT1 [(1, (vi b)), (2, (vp l 0)), (4, (vb false))] (s_WinMay a b = false) ?_ fun x => ?_
 ·intro F y G R
  have H := m.extk G
  refine sr ?_
  refine aw (vb false) ?_
  refine n1 ?_
  refine rt (vb false) ?_
  refine ⟨H.keep0, ?_⟩
  rw [F]
  exact rfl
 refine lN (L_34 a i j) wN isAgg_34 sizeOf_34 w ?_
 refine cl wN (csWinOk D _ a (mR_34 (t.from0 m) u)) ?_
 rintro _ y ⟨k, rfl⟩
 refine pu (vb (!(sWin a))) wN ?_
 refine mw (vb (!(sWin a))) ?_
 rcases bf (sWin a) with e | e
 ·iterate 3 refine sk (cA not e) ?_
  refine pk (vb true) wN (cA not e) ?_
  refine n2 ?_
  refine ct (Eq.refl true) ?_
  have I : s_WinMay a b = false := by simp only [s_WinMay, e, cond_true, cond_false]
  exact wj (x I _ k)
 have S := sWin_t e
 refine mv (vi b) (wS (cA not e)) ?_
 refine cl (wS (cA not e)) (csl1In y b 0 281474976710655) ?_
 rintro _ J ⟨o, rfl⟩
 have A := (m.extk k).extk o
 refine pu (vb (!(s_l1In b 0 281474976710655))) (wS (cA not e)) ?_
 refine pf (vb (!(s_l1In b 0 281474976710655))) wN (cA not e) ?_
 refine n2 ?_
 rcases bf (s_l1In b 0 281474976710655) with g | g
 ·have T := spec_l1In_f g
  refine ct (cA not g) ?_
  have K : s_WinMay a b = false := by simp only [s_WinMay, e, g, cond_true, cond_false]
  exact wj (x K _ (k.trans o))
 have V := spec_l1In_t g
 refine cf (cA not g) ?_
 refine y1 ?_
 refine mw (vi b) ?_
 refine pu (vp l 0) wN ?_
 have p := ((w.kp k).kp o)
 refine ld (vi a.Top) wN isAgg_3 p ?_
 refine pu (vb (decide (a.Top < b))) wN ?_
 refine mw (vb (decide (a.Top < b))) ?_
 rcases bt (decide (a.Top < b)) with d | d
 ·have W := dT d
  iterate 6 refine sk d ?_
  refine su ?_
  refine su ?_
  refine su ?_
  refine su ?_
  refine sk d ?_
  refine pk (vb true) wN d ?_
  refine aw (vb true) ?_
  refine n3 ?_
  refine rt (vb true) ?_
  refine ⟨A.keep0, ?_⟩
  simp only [s_WinMay, e, g, d, cond_true, cond_false]
  exact rfl
 have X := dF d
 refine mv (vi b) (wS d) ?_
 refine pu (vp l 0) (wS d) ?_
 refine ld (vi a.Top) (wS d) isAgg_3 p ?_
 refine cl (wS d) (csl8Least J a.Top (by omega)) ?_
 rintro _ L ⟨B, rfl⟩
 have q := A.extk B
 refine pu (vb (decide ((s_l8Least a.Top) ≤ b))) (wS d) ?_
 refine mv (vb (decide ((s_l8Least a.Top) ≤ b))) (wS d) ?_
 rcases bf (decide ((s_l8Least a.Top) ≤ b)) with f | f
 ·have Y := dF f
  iterate 4 refine sk f ?_
  refine pf (vb false) (wS d) f ?_
  refine pf (vb false) wN d ?_
  refine aw (vb false) ?_
  refine n3 ?_
  refine rt (vb false) ?_
  refine ⟨q.keep0, ?_⟩
  simp only [s_WinMay, e, g, d, f, cond_true, cond_false]
  exact rfl
 have Z := dT f
 have M := (p.kp B)
 refine lN (L_34 a i j) (wS f) isAgg_34 sizeOf_34 M ?_
 refine mv (vi b) (wS f) ?_
 refine cl (wS f) (csl8Bit L _ a (mR_34 (t.from0 q) u) b (by first | assumption | omega) (by first | assumption | omega)) ?_
 rintro _ aa ⟨N, rfl⟩
 have O := q.extk N
 refine pu (vb (!(s_l8Bit a b))) (wS f) ?_
 refine pk (vb (!(s_l8Bit a b))) (wS d) f ?_
 refine pf (vb (!(s_l8Bit a b))) wN d ?_
 refine aw (vb (!(s_l8Bit a b))) ?_
 refine n3 ?_
 refine rt (vb (!(s_l8Bit a b))) ?_
 refine ⟨O.keep0, ?_⟩
 simp only [s_WinMay, e, g, d, f, cond_true, cond_false]
 exact rfl
theorem sMay_t {w : PWin} {n : Int} (h : s_WinMay w n = true) : allW w.Bits = true ∧ w.Bits.length = 32 ∧ -1 ≤ w.Top ∧ w.Top ≤ 281474976710655 ∧ 0 ≤ n ∧ n ≤ 281474976710655 := by
  unfold s_WinMay at h
  cases h1 : sWin w with
  | false => simp only [h1, cond_false] at h; cases h
  | true =>
    cases h2 : s_l1In n 0 281474976710655 with
    | false => simp only [h1, h2, cond_true, cond_false] at h; cases h
    | true =>
      have a := sWin_t h1
      have b := spec_l1In_t h2
      exact ⟨a.1, a.2.1, a.2.2.1, a.2.2.2, b.1, b.2⟩

def O_34_4 (w : World) (lo : Nat) (v : Value) (x : (PWin) × (Bool)) : Prop := ∃ (a : Option Addr) (b : Nat), v = .tuple #[.agg #[.int .i64 x.1.Top, .slice a x.1.Bits.length b], .bool x.2] ∧ w.ownsRow lo 3 1 (.slice a x.1.Bits.length b) x.1.Bits.length (x.1.Bits.map iV) ∧ x.1.Bits.length ≤ 1073741824 ∧ Aps [(a, b)]
def sAdd (w : PWin) (n : Int) : PWin × Bool := bif s_WinMay w n then ({ Top := bif decide (w.Top < n) then n else w.Top, Bits := addW w.Bits w.Top n : PWin }, true) else (w, false)
theorem csWinAdd (H : World) (ak : Value) (d : PWin) (aL : R_34 H ak d) (e : Int)  : Fn Tryz.prog 82 #[ak, (vi e)] H (fun v I => Keep H I ∧ O_34_4 I H.heap.size v (sAdd d e)) := by
 obtain ⟨Y, Z, rfl, am, an⟩ := aL
 refine fn_ofS (n := 73) [(va (L_34 d Y Z)), (vi e)] Tryz.func82 rfl rfl ?_
 refine sr ?_
 refine bx (L_34 d Y Z) wN ?_
 intro P bX bY S t aM
 refine al [(vi 0), (vs none 0 0)] wN zero_34 ?_
 intro ab C T o q V
 have ao := ((Ch.base H).extk t).extk q
 refine aw (vb false) ?_
 refine nx ?_
 have ap := (aM.kp q)
 refine lN (L_34 d Y Z) wN isAgg_34 sizeOf_34 ap ?_
 refine cl wN (csl8Copy C _ d (mR_34 (am.from0 ao) an)) ?_
 rintro _ W ⟨r, ⟨g, i, rfl, m, X, bZ⟩⟩
 refine al [(vi 0), (vs none 0 0)] wN zero_34 ?_
 intro s ca p cb D aN
 refine sv (L_34 (d) g i) wN sizeOf_34 aN ?_
 intro aO E aq cc
 have au := ((ao.extk r).extk D).ext E (fun k hk => by subst hk; exact nT (z3 t q r) p)
 refine n4 ?_
 have av := (((ap.kp r).kp D).ch E (nN (nL S (nT (z2 q r) p))))
 refine lN (L_34 d Y Z) wN isAgg_34 sizeOf_34 av ?_
 refine mw (vi e) ?_
 refine cl wN (csWinMay aO _ d (mR_34 (am.from0 au) an) e) ?_
 rintro _ ac ⟨A, rfl⟩
 have ax := au.extk A
 refine pu (vb (!(s_WinMay d e))) wN ?_
 refine n2 ?_
 rcases bf (s_WinMay d e) with F | F
 ·refine ct (cA not F) ?_
  refine sr ?_
  have aP := (aq.kp A)
  refine lN (L_34 (d) g i) wN isAgg_34 sizeOf_34 aP ?_
  have aQ := ((((V.kp r).kp D).ch E (nN (nL o (nT r.size p)))).kp A)
  refine sv (L_34 (d) g i) wN sizeOf_34 aQ ?_
  intro ay az aR cd
  have aS := ax.ext az (fun k hk => by subst hk; exact nT t.size T)
  refine aw (vb false) ?_
  refine n1 ?_
  have aT := (own_ch (own_kp (own_ch (own_kp m D) E (ne2 m (p))) A) az (ne1 m (o)))
  refine ret_2 (.inl rfl) (va (L_34 (d) g i)) (vb false) rfl (rv_c (L_34 (d) g i) rfl aR isAgg_34 sizeOf_34) rfl ?_
  refine ⟨aS.keep0, ?_⟩
  have aU : sAdd d e = ((d), false) := by simp only [sAdd, F, cond_true, cond_false]
  rw [aU]
  exact ⟨_, _, rfl, (own_lo aT (z2 t q)), X, ⟨trivial, trivial⟩⟩
 have ce := sMay_t F
 refine cf (cA not F) ?_
 refine y1 ?_
 refine aw (vi 0) ?_
 refine n4 ?_
 refine pu (vp P 0) wN ?_
 have ad := (av.kp A)
 refine ld (vi d.Top) wN isAgg_3 ad ?_
 refine ar (d.Top + 1) wN ?_
 refine aw (vi (d.Top + 1)) ?_
 refine wl_nil <| wq_then <| wc_block ?_
 have aV := (own_kp (own_ch (own_kp m D) E (ne2 m (p))) A)
 have aW : ((d).Bits : List Int) = clrN d.Bits (d.Top + 1) 0 := by rfl
 have aX := (aq.kp A)
 refine wc_loopP [(1, (vi e)), (2, (vp P 0)), (4, (vp ab 0)), (5, (vb false)), (6, (vp s 0)), (7, (vi ((0 : Nat) : Int))), (8, (vi ((d.Top + 1) + ((0 : Nat) : Int))))] ⟨rfl, rfl, rfl, rfl, rfl, (cA (Value.int .i64) (show (0 : Int) = ((0 : Nat) : Int) by omega)), (cA (Value.int .i64) (show ((d.Top + 1) : Int) = ((d.Top + 1) + ((0 : Nat) : Int)) by omega)), trivial⟩ (fun e' I => ∃ (j : Nat) (a0 : Env), e' = pt a0 [(1, (vi e)), (2, (vp P 0)), (4, (vp ab 0)), (5, (vb false)), (6, (vp s 0)), (7, (vi ((j : Nat) : Int))), (8, (vi ((d.Top + 1) + ((j : Nat) : Int))))] ∧ Ch (fun k => H.heap.size ≤ k) H I ∧ Ch (fun k => C.heap.size ≤ k) ac I ∧ j ≤ 1024 ∧ (d.Top + ((j : Nat) : Int) ≤ e ∨ j = 0) ∧ World.ownsRow I C.heap.size 3 1 (.slice g ((d).Bits).length i) ((d).Bits).length ((clrN d.Bits (d.Top + 1) j).map iV) ∧ Blk I s 34 [(vi ((d).Top)), (vs g ((d).Bits).length i)]) (fun e' _ => (1024 - (intOf (e' 7))).toNat) ?_ ?_
 ·exact fun u => ⟨0, u, rfl, ax, (Ch.refl (fun k => C.heap.size ≤ k) ac), (by omega), (by omega), (by rw [← aW]; exact aV), aX⟩
 ·rintro _ ay ⟨j, a0, rfl, ae, J, cg, ci, G, B⟩
  have hwl := clrN_len d.Bits (d.Top + 1) j
  have hwi := wget (clrN_w (l := d.Bits) (sMay_t (w := d) (n := e) (by assumption)).1 (d.Top + 1) j) ((((d.Top + 1) + ((j : Nat) : Int)) % 1024) / 32).toNat
  have hwn := wget (clrN_w (l := d.Bits) (sMay_t (w := d) (n := e) (by assumption)).1 (d.Top + 1) j) ((e % 1024) / 32).toNat
  refine wc_seq <| sr ?_
  refine mw (vi ((d.Top + 1) + ((j : Nat) : Int))) ?_
  refine mw (vi e) ?_
  refine pu (vb (decide (((d.Top + 1) + ((j : Nat) : Int)) ≤ e))) wN ?_
  refine mw (vb (decide (((d.Top + 1) + ((j : Nat) : Int)) ≤ e))) ?_
  rcases bf (decide (((d.Top + 1) + ((j : Nat) : Int)) ≤ e)) with y | y
  ·have cj := dF y
   iterate 2 refine sk y ?_
   refine pf (vb false) wN y ?_
   refine n2 ?_
   refine cf (Eq.refl false) ?_
   refine wc_exit <| wq_then_exit <| wq_then_exit <| wq_blk_exit <| wq_then <| sr ?_
   refine mw (vi e) ?_
   refine wl_rem e 1024 wN rfl rfl (by kernel_rfl) (by first | omega | assumption) ?_
   refine aw (vi (e % 1024)) ?_
   refine wl_nil <| wq_then <| wc_seq ?_
   refine wc_draw ([(51, [], [], (fun _ v _ => v = (vp s 1))), (52, [], [0], (fun _ v _ => v = (vs g ((d).Bits).length i))), (53, [], [], (fun _ v _ => v = (vi (e % 1024)))), (54, [], [2], (fun _ v _ => v = (vi ((e % 1024) / 32)))), (55, [], [], (fun _ v _ => v = (vp s 1))), (56, [], [4], (fun _ v _ => v = (vs g ((d).Bits).length i))), (57, [], [], (fun _ v _ => v = (vi (e % 1024)))), (58, [], [6], (fun _ v _ => v = (vi ((e % 1024) / 32)))), (59, [], [4, 5, 6, 7], (fun _ v _ => v = (ve (vs g ((d).Bits).length i) ((((e % 1024) / 32)).toNat * 1)))), (60, [], [4, 5, 6, 7, 8], (fun _ v _ => v = (vi ((clrN d.Bits (d.Top + 1) j).getD (((e % 1024) / 32)).toNat 0)))), (61, [], [], (fun _ v _ => v = (vi (e % 1024)))), (62, [], [10], (fun _ v _ => v = (vi ((e % 1024) % 32)))), (63, [], [10, 11], (fun _ v _ => v = (vi (1 * (2 : Int) ^ (((e % 1024) % 32)).toNat)))), (64, [], [4, 5, 6, 7, 8, 9, 10, 11, 12], (fun _ v _ => v = (vi (orI ((clrN d.Bits (d.Top + 1) j).getD (((e % 1024) / 32)).toNat 0) (1 * (2 : Int) ^ (((e % 1024) % 32)).toNat)))))] : GV) mixed rfl (by kernel_rfl) (by kernel_rfl) ?_ ?_ ?_
   ·exact ⟨hV, hE, ⟨hV, hE, ⟨hV, hE, ⟨hV, hE, ⟨hV, hE, ⟨hV, hE, ⟨hV, hE, ⟨hV, hE, ⟨hV, hE, ⟨hV, hE, ⟨hV, hE, ⟨hV, hE, ⟨hV, hE, ⟨hV, hE, trivial⟩⟩⟩⟩⟩⟩⟩⟩⟩⟩⟩⟩⟩⟩
   ·refine ⟨?_, ⟨?_, ⟨?_, ⟨?_, ⟨?_, ⟨?_, ⟨?_, ⟨?_, ⟨?_, ⟨?_, ⟨?_, ⟨?_, ⟨?_, ⟨?_, trivial⟩⟩⟩⟩⟩⟩⟩⟩⟩⟩⟩⟩⟩⟩
    ·intro f ck
     rintro _ _ _ _ _ _ _ _ _ _ _ _ _ _
     show WL _ _ _ _ _ _ _
     refine pu (vp s 1) wN ?_
     exact f2
    ·intro f aY
     rintro _ rfl _ _ _ _ _ _ _ _ _ _ _ _ _
     show WL _ _ _ _ _ _ _
     have aZ := (B.kp aY)
     refine ld (vs g ((d).Bits).length i) wN isAgg_23 aZ ?_
     exact f2
    ·intro f cm
     rintro _ _ _ _ _ _ _ _ _ _ _ _ _ _
     show WL _ _ _ _ _ _ _
     refine mw (vi (e % 1024)) ?_
     exact f2
    ·intro f cn
     rintro _ _ _ rfl _ _ _ _ _ _ _ _ _ _ _
     show WL _ _ _ _ _ _ _
     refine wl_quo (e % 1024) 32 wN rfl rfl (by kernel_rfl) (by omega) (by omega) (by omega) ?_
     exact f2
    ·intro f co
     rintro _ _ _ _ _ _ _ _ _ _ _ _ _ _
     show WL _ _ _ _ _ _ _
     refine pu (vp s 1) wN ?_
     exact f2
    ·intro f ba
     rintro _ _ _ _ _ rfl _ _ _ _ _ _ _ _ _
     show WL _ _ _ _ _ _ _
     have bb := (B.kp ba)
     refine ld (vs g ((d).Bits).length i) wN isAgg_23 bb ?_
     exact f2
    ·intro f cp
     rintro _ _ _ _ _ _ _ _ _ _ _ _ _ _
     show WL _ _ _ _ _ _ _
     refine mw (vi (e % 1024)) ?_
     exact f2
    ·intro f cq
     rintro _ _ _ _ _ _ _ rfl _ _ _ _ _ _ _
     show WL _ _ _ _ _ _ _
     refine wl_quo (e % 1024) 32 wN rfl rfl (by kernel_rfl) (by omega) (by omega) (by omega) ?_
     exact f2
    ·intro f bc
     rintro _ _ _ _ _ rfl _ rfl _ rfl _ rfl _ _ _ _ _ _
     show WL _ _ _ _ _ _ _
     have bd := (own_kp G bc)
     refine ix wN ((e % 1024) / 32) slTy_23 (Rd.of_own bd) ?_
     exact f2
    ·intro f be
     rintro _ _ _ _ _ rfl _ rfl _ rfl _ rfl _ rfl _ _ _ _ _
     show WL _ _ _ _ _ _ _
     have bg := (own_kp G be)
     refine ei (x := (clrN d.Bits (d.Top + 1) j)) ((((e % 1024) / 32)).toNat) wN isAgg_3 (Rd.of_own bg) ?_
     exact f2
    ·intro f cr
     rintro _ _ _ _ _ _ _ _ _ _ _ _ _ _
     show WL _ _ _ _ _ _ _
     refine mw (vi (e % 1024)) ?_
     exact f2
    ·intro f cs
     rintro _ _ _ _ _ _ _ _ _ _ _ rfl _ _ _
     show WL _ _ _ _ _ _ _
     refine wl_rem (e % 1024) 32 wN rfl rfl (by kernel_rfl) (by first | omega | assumption) ?_
     exact f2
    ·intro f cu
     rintro _ _ _ _ _ _ _ _ _ _ _ rfl _ rfl _ _
     show WL _ _ _ _ _ _ _
     refine wl_shl 1 ((e % 1024) % 32) wN rfl rfl rfl rfl rfl (by omega) (by omega) (by omega) (by omega) ?_
     have cv := shl1_b (((e % 1024) % 32)).toNat (by omega)
     exact f2
    ·intro f cw
     rintro _ _ _ _ _ rfl _ rfl _ rfl _ rfl _ rfl _ rfl _ rfl _ rfl _ rfl
     have cx := shl1_b (((e % 1024) % 32)).toNat (by omega)
     intro _
     show WL _ _ _ _ _ _ _
     refine wl_or ((clrN d.Bits (d.Top + 1) j).getD (((e % 1024) / 32)).toNat 0) (1 * (2 : Int) ^ (((e % 1024) % 32)).toNat) wN rfl rfl (by kernel_rfl) (by omega) (by omega) (by omega) (by omega) ?_
     have cy := orI_b (a := ((clrN d.Bits (d.Top + 1) j).getD (((e % 1024) / 32)).toNat 0)) (b := (1 * (2 : Int) ^ (((e % 1024) % 32)).toNat)) (by omega) (by omega)
     exact f2
   ·intro f K
    rintro _ rfl _ rfl _ rfl _ rfl _ rfl _ rfl _ rfl _ rfl _ rfl _ rfl _ rfl _ rfl _ rfl
    have cz := shl1_b (((e % 1024) % 32)).toNat (by omega)
    rintro _ rfl
    have c0 := orI_b (a := ((clrN d.Bits (d.Top + 1) j).getD (((e % 1024) / 32)).toNat 0)) (b := (1 * (2 : Int) ^ (((e % 1024) % 32)).toNat)) (by omega) (by omega)
    show WL _ _ _ _ _ _ _
    have a1 := (own_kp G K)
    refine ix wN ((e % 1024) / 32) slTy_23 (Rd.of_own a1) ?_
    refine wl_storeI (clrN d.Bits (d.Top + 1) j) ((((e % 1024) / 32)).toNat) ((orI ((clrN d.Bits (d.Top + 1) j).getD (((e % 1024) / 32)).toNat 0) (1 * (2 : Int) ^ (((e % 1024) % 32)).toNat))) wN rfl rfl rfl (by simp) rfl sizeOf_3 a1 (by first | omega | (simp only [List.length_append, List.length_replicate, List.length_take, List.length_set, List.length_map]; omega)) ?_
    intro a2 Q a3
    have a4 := (ae.extk K).ext Q (fun k hk => nT (z2 t q) (own_lt m k hk).1)
    refine n4 ?_
    refine mw (vi e) ?_
    refine pu (vp P 0) wN ?_
    have bh := (((ad.ch J (Nat.not_le.2 (nL S q.size))).kp K).ch Q (fun h => by have := (own_lt m _ h).1; have := nL S q.size; omega))
    refine ld (vi d.Top) wN isAgg_3 bh ?_
    refine pu (vb (decide (d.Top < e))) wN ?_
    refine n2 ?_
    rcases bf (decide (d.Top < e)) with L | L
    ·have c1 := dF L
     refine cf L ?_
     refine y1 ?_
     have bi := ((B.kp K).ch Q (fun h => by have := (own_lt m _ h).2; have := nT (Nat.le_refl W.heap.size) p; omega))
     refine lN [(vi ((d).Top)), (vs g ((d).Bits).length i)] wN isAgg_34 sizeOf_34 bi ?_
     have bj := (((((((V.kp r).kp D).ch E (nN (nL o (nT r.size p)))).kp A).ch J (Nat.not_le.2 (o))).kp K).ch Q (fun h => by have := (own_lt m _ h).1; have := nL o (Nat.le_refl C.heap.size); omega))
     refine sv [(vi ((d).Top)), (vs g ((d).Bits).length i)] wN sizeOf_34 bj ?_
     intro af a5 bk c2
     have bl := a4.ext a5 (fun k hk => by subst hk; exact nT t.size T)
     refine aw (vb true) ?_
     refine n3 ?_
     have a6 := (own_ch a3 a5 (ne1 m (o)))
     refine ret_2 (.inl rfl) (va [(vi ((d).Top)), (vs g ((d).Bits).length i)]) (vb true) rfl (rv_c [(vi ((d).Top)), (vs g ((d).Bits).length i)] rfl bk isAgg_34 sizeOf_34) rfl ?_
     refine ⟨bl.keep0, ?_⟩
     have bm : sAdd d e = ({ Top := (d).Top, Bits := ((clrN d.Bits (d.Top + 1) j).set ((((e % 1024) / 32)).toNat) (orI ((clrN d.Bits (d.Top + 1) j).getD (((e % 1024) / 32)).toNat 0) (1 * (2 : Int) ^ (((e % 1024) % 32)).toNat))) : PWin }, true) := by have hz := addW_spec (l := d.Bits) (top := d.Top) (n := e) (j := j) (sMay_t (w := d) (n := e) (by assumption)).1 (sMay_t (w := d) (n := e) (by assumption)).2.1 (by omega) (by omega) (by omega) (by omega); simp only [sAdd, F, y, L, cond_true, cond_false]; rw [← hz]; first | rfl | (rw [setS]) | (rw [← setS])
     rw [bm]
     have a7 : ((d).Bits).length = (((clrN d.Bits (d.Top + 1) j).set ((((e % 1024) / 32)).toNat) (orI ((clrN d.Bits (d.Top + 1) j).getD (((e % 1024) / 32)).toNat 0) (1 * (2 : Int) ^ (((e % 1024) % 32)).toNat)))).length := by first | (simp only [List.length_append, List.length_take, List.length_replicate, List.length_set, List.length_map]; done) | (simp only [List.length_append, List.length_take, List.length_replicate, List.length_set, List.length_map]; omega)
     rw [a7] at a6 ⊢
     exact ⟨_, _, rfl, (own_lo a6 (z2 t q)), (by rw [← a7]; exact X), ⟨trivial, trivial⟩⟩
    have c3 := dT L
    refine ct L ?_
    refine wc_region ?_
    refine mw (vi e) ?_
    refine pu (vp s 0) wN ?_
    have bn := ((B.kp K).ch Q (fun h => by have := (own_lt m _ h).2; have := nT (Nat.le_refl W.heap.size) p; omega))
    refine st (vi e) [(vi e)] [(vi e), (vs g ((d).Bits).length i)] wN sizeOf_3 bn ?_
    intro af ah bo c4
    have bp := a4.ext ah (fun k hk => by subst hk; exact nT (z3 t q r) p)
    refine nx ?_
    refine lN [(vi e), (vs g ((d).Bits).length i)] wN isAgg_34 sizeOf_34 bo ?_
    have bq := ((((((((V.kp r).kp D).ch E (nN (nL o (nT r.size p)))).kp A).ch J (Nat.not_le.2 (o))).kp K).ch Q (fun h => by have := (own_lt m _ h).1; have := nL o (Nat.le_refl C.heap.size); omega)).ch ah (nN (nL o (nT r.size p))))
    refine sv [(vi e), (vs g ((d).Bits).length i)] wN sizeOf_34 bq ?_
    intro br a8 bu c5
    have bv := bp.ext a8 (fun k hk => by subst hk; exact nT t.size T)
    refine aw (vb true) ?_
    refine n3 ?_
    have a9 := (own_ch (own_ch a3 ah (ne2 m (p))) a8 (ne1 m (o)))
    refine ret_2 (.inl rfl) (va [(vi e), (vs g ((d).Bits).length i)]) (vb true) rfl (rv_c [(vi e), (vs g ((d).Bits).length i)] rfl bu isAgg_34 sizeOf_34) rfl ?_
    refine ⟨bv.keep0, ?_⟩
    have bw : sAdd d e = ({ Top := e, Bits := ((clrN d.Bits (d.Top + 1) j).set ((((e % 1024) / 32)).toNat) (orI ((clrN d.Bits (d.Top + 1) j).getD (((e % 1024) / 32)).toNat 0) (1 * (2 : Int) ^ (((e % 1024) % 32)).toNat))) : PWin }, true) := by have hz := addW_spec (l := d.Bits) (top := d.Top) (n := e) (j := j) (sMay_t (w := d) (n := e) (by assumption)).1 (sMay_t (w := d) (n := e) (by assumption)).2.1 (by omega) (by omega) (by omega) (by omega); simp only [sAdd, F, y, L, cond_true, cond_false]; rw [← hz]; first | rfl | (rw [setS]) | (rw [← setS])
    rw [bw]
    have aA : ((d).Bits).length = (((clrN d.Bits (d.Top + 1) j).set ((((e % 1024) / 32)).toNat) (orI ((clrN d.Bits (d.Top + 1) j).getD (((e % 1024) / 32)).toNat 0) (1 * (2 : Int) ^ (((e % 1024) % 32)).toNat)))).length := by first | (simp only [List.length_append, List.length_take, List.length_replicate, List.length_set, List.length_map]; done) | (simp only [List.length_append, List.length_take, List.length_replicate, List.length_set, List.length_map]; omega)
    rw [aA] at a9 ⊢
    exact ⟨_, _, rfl, (own_lo a9 (z2 t q)), (by rw [← aA]; exact X), ⟨trivial, trivial⟩⟩
  have c6 := dT y
  refine mv (vi ((j : Nat) : Int)) (wS y) ?_
  refine pu (vb (decide (((j : Nat) : Int) < 1024))) (wS y) ?_
  refine pk (vb (decide (((j : Nat) : Int) < 1024))) wN y ?_
  refine n2 ?_
  rcases bt (decide (((j : Nat) : Int) < 1024)) with M | M
  ·have c7 := dT M
   refine ct M ?_
   refine wc_skip <| wq_then <| wc_seq <| wc_block <| sr ?_
   refine mw (vi ((d.Top + 1) + ((j : Nat) : Int))) ?_
   refine wl_rem ((d.Top + 1) + ((j : Nat) : Int)) 1024 wN rfl rfl (by kernel_rfl) (by first | omega | assumption) ?_
   refine aw (vi (((d.Top + 1) + ((j : Nat) : Int)) % 1024)) ?_
   refine wl_nil <| wq_then <| wc_seq ?_
   refine wc_draw ([(32, [], [], (fun _ v _ => v = (vp s 1))), (33, [], [0], (fun _ v _ => v = (vs g ((d).Bits).length i))), (34, [], [], (fun _ v _ => v = (vi (((d.Top + 1) + ((j : Nat) : Int)) % 1024)))), (35, [], [2], (fun _ v _ => v = (vi ((((d.Top + 1) + ((j : Nat) : Int)) % 1024) / 32)))), (36, [], [], (fun _ v _ => v = (vp s 1))), (37, [], [4], (fun _ v _ => v = (vs g ((d).Bits).length i))), (38, [], [], (fun _ v _ => v = (vi (((d.Top + 1) + ((j : Nat) : Int)) % 1024)))), (39, [], [6], (fun _ v _ => v = (vi ((((d.Top + 1) + ((j : Nat) : Int)) % 1024) / 32)))), (40, [], [4, 5, 6, 7], (fun _ v _ => v = (ve (vs g ((d).Bits).length i) ((((((d.Top + 1) + ((j : Nat) : Int)) % 1024) / 32)).toNat * 1)))), (41, [], [4, 5, 6, 7, 8], (fun _ v _ => v = (vi ((clrN d.Bits (d.Top + 1) j).getD (((((d.Top + 1) + ((j : Nat) : Int)) % 1024) / 32)).toNat 0)))), (42, [], [], (fun _ v _ => v = (vi (((d.Top + 1) + ((j : Nat) : Int)) % 1024)))), (43, [], [10], (fun _ v _ => v = (vi ((((d.Top + 1) + ((j : Nat) : Int)) % 1024) % 32)))), (44, [], [10, 11], (fun _ v _ => v = (vi (1 * (2 : Int) ^ (((((d.Top + 1) + ((j : Nat) : Int)) % 1024) % 32)).toNat)))), (45, [], [4, 5, 6, 7, 8, 9, 10, 11, 12], (fun _ v _ => v = (vi (andnI ((clrN d.Bits (d.Top + 1) j).getD (((((d.Top + 1) + ((j : Nat) : Int)) % 1024) / 32)).toNat 0) (1 * (2 : Int) ^ (((((d.Top + 1) + ((j : Nat) : Int)) % 1024) % 32)).toNat)))))] : GV) mixed rfl (by kernel_rfl) (by kernel_rfl) ?_ ?_ ?_
   ·exact ⟨hV, hE, ⟨hV, hE, ⟨hV, hE, ⟨hV, hE, ⟨hV, hE, ⟨hV, hE, ⟨hV, hE, ⟨hV, hE, ⟨hV, hE, ⟨hV, hE, ⟨hV, hE, ⟨hV, hE, ⟨hV, hE, ⟨hV, hE, trivial⟩⟩⟩⟩⟩⟩⟩⟩⟩⟩⟩⟩⟩⟩
   ·refine ⟨?_, ⟨?_, ⟨?_, ⟨?_, ⟨?_, ⟨?_, ⟨?_, ⟨?_, ⟨?_, ⟨?_, ⟨?_, ⟨?_, ⟨?_, ⟨?_, trivial⟩⟩⟩⟩⟩⟩⟩⟩⟩⟩⟩⟩⟩⟩
    ·intro f c8
     rintro _ _ _ _ _ _ _ _ _ _ _ _ _ _
     show WL _ _ _ _ _ _ _
     refine pu (vp s 1) wN ?_
     exact f2
    ·intro f bz
     rintro _ rfl _ _ _ _ _ _ _ _ _ _ _ _ _
     show WL _ _ _ _ _ _ _
     have b0 := (B.kp bz)
     refine ld (vs g ((d).Bits).length i) wN isAgg_23 b0 ?_
     exact f2
    ·intro f c9
     rintro _ _ _ _ _ _ _ _ _ _ _ _ _ _
     show WL _ _ _ _ _ _ _
     refine mw (vi (((d.Top + 1) + ((j : Nat) : Int)) % 1024)) ?_
     exact f2
    ·intro f cC
     rintro _ _ _ rfl _ _ _ _ _ _ _ _ _ _ _
     show WL _ _ _ _ _ _ _
     refine wl_quo (((d.Top + 1) + ((j : Nat) : Int)) % 1024) 32 wN rfl rfl (by kernel_rfl) (by omega) (by omega) (by omega) ?_
     exact f2
    ·intro f cD
     rintro _ _ _ _ _ _ _ _ _ _ _ _ _ _
     show WL _ _ _ _ _ _ _
     refine pu (vp s 1) wN ?_
     exact f2
    ·intro f b1
     rintro _ _ _ _ _ rfl _ _ _ _ _ _ _ _ _
     show WL _ _ _ _ _ _ _
     have b2 := (B.kp b1)
     refine ld (vs g ((d).Bits).length i) wN isAgg_23 b2 ?_
     exact f2
    ·intro f cE
     rintro _ _ _ _ _ _ _ _ _ _ _ _ _ _
     show WL _ _ _ _ _ _ _
     refine mw (vi (((d.Top + 1) + ((j : Nat) : Int)) % 1024)) ?_
     exact f2
    ·intro f cF
     rintro _ _ _ _ _ _ _ rfl _ _ _ _ _ _ _
     show WL _ _ _ _ _ _ _
     refine wl_quo (((d.Top + 1) + ((j : Nat) : Int)) % 1024) 32 wN rfl rfl (by kernel_rfl) (by omega) (by omega) (by omega) ?_
     exact f2
    ·intro f b3
     rintro _ _ _ _ _ rfl _ rfl _ rfl _ rfl _ _ _ _ _ _
     show WL _ _ _ _ _ _ _
     have b4 := (own_kp G b3)
     refine ix wN ((((d.Top + 1) + ((j : Nat) : Int)) % 1024) / 32) slTy_23 (Rd.of_own b4) ?_
     exact f2
    ·intro f b5
     rintro _ _ _ _ _ rfl _ rfl _ rfl _ rfl _ rfl _ _ _ _ _
     show WL _ _ _ _ _ _ _
     have b6 := (own_kp G b5)
     refine ei (x := (clrN d.Bits (d.Top + 1) j)) ((((((d.Top + 1) + ((j : Nat) : Int)) % 1024) / 32)).toNat) wN isAgg_3 (Rd.of_own b6) ?_
     exact f2
    ·intro f cG
     rintro _ _ _ _ _ _ _ _ _ _ _ _ _ _
     show WL _ _ _ _ _ _ _
     refine mw (vi (((d.Top + 1) + ((j : Nat) : Int)) % 1024)) ?_
     exact f2
    ·intro f cH
     rintro _ _ _ _ _ _ _ _ _ _ _ rfl _ _ _
     show WL _ _ _ _ _ _ _
     refine wl_rem (((d.Top + 1) + ((j : Nat) : Int)) % 1024) 32 wN rfl rfl (by kernel_rfl) (by first | omega | assumption) ?_
     exact f2
    ·intro f cI
     rintro _ _ _ _ _ _ _ _ _ _ _ rfl _ rfl _ _
     show WL _ _ _ _ _ _ _
     refine wl_shl 1 ((((d.Top + 1) + ((j : Nat) : Int)) % 1024) % 32) wN rfl rfl rfl rfl rfl (by omega) (by omega) (by omega) (by omega) ?_
     have cJ := shl1_b (((((d.Top + 1) + ((j : Nat) : Int)) % 1024) % 32)).toNat (by omega)
     exact f2
    ·intro f cK
     rintro _ _ _ _ _ rfl _ rfl _ rfl _ rfl _ rfl _ rfl _ rfl _ rfl _ rfl
     have cL := shl1_b (((((d.Top + 1) + ((j : Nat) : Int)) % 1024) % 32)).toNat (by omega)
     intro _
     show WL _ _ _ _ _ _ _
     refine wl_andn ((clrN d.Bits (d.Top + 1) j).getD (((((d.Top + 1) + ((j : Nat) : Int)) % 1024) / 32)).toNat 0) (1 * (2 : Int) ^ (((((d.Top + 1) + ((j : Nat) : Int)) % 1024) % 32)).toNat) wN rfl rfl (by kernel_rfl) (by omega) (by omega) (by omega) (by omega) ?_
     have cM := andnI_b (a := ((clrN d.Bits (d.Top + 1) j).getD (((((d.Top + 1) + ((j : Nat) : Int)) % 1024) / 32)).toNat 0)) (b := (1 * (2 : Int) ^ (((((d.Top + 1) + ((j : Nat) : Int)) % 1024) % 32)).toNat)) (by omega)
     exact f2
   ·intro f aa
    rintro _ rfl _ rfl _ rfl _ rfl _ rfl _ rfl _ rfl _ rfl _ rfl _ rfl _ rfl _ rfl _ rfl
    have cN := shl1_b (((((d.Top + 1) + ((j : Nat) : Int)) % 1024) % 32)).toNat (by omega)
    rintro _ rfl
    have cO := andnI_b (a := ((clrN d.Bits (d.Top + 1) j).getD (((((d.Top + 1) + ((j : Nat) : Int)) % 1024) / 32)).toNat 0)) (b := (1 * (2 : Int) ^ (((((d.Top + 1) + ((j : Nat) : Int)) % 1024) % 32)).toNat)) (by omega)
    show WL _ _ _ _ _ _ _
    have aB := (own_kp G aa)
    refine ix wN ((((d.Top + 1) + ((j : Nat) : Int)) % 1024) / 32) slTy_23 (Rd.of_own aB) ?_
    refine wl_storeI (clrN d.Bits (d.Top + 1) j) ((((((d.Top + 1) + ((j : Nat) : Int)) % 1024) / 32)).toNat) ((andnI ((clrN d.Bits (d.Top + 1) j).getD (((((d.Top + 1) + ((j : Nat) : Int)) % 1024) / 32)).toNat 0) (1 * (2 : Int) ^ (((((d.Top + 1) + ((j : Nat) : Int)) % 1024) % 32)).toNat))) wN rfl rfl rfl (by simp) rfl sizeOf_3 aB (by first | omega | (simp only [List.length_append, List.length_replicate, List.length_take, List.length_set, List.length_map]; omega)) ?_
    intro a2 ai b7
    have b8 := (ae.extk aa).ext ai (fun k hk => nT (z2 t q) (own_lt m k hk).1)
    refine wl_nil <| wq_then <| wc_region ?_
    refine mw (vi ((j : Nat) : Int)) ?_
    refine ar (((j : Nat) : Int) + 1) wN ?_
    refine aw (vi (((j : Nat) : Int) + 1)) ?_
    refine wl_nil <| wq_blk_normal <| wq_then <| wc_region ?_
    refine mw (vi ((d.Top + 1) + ((j : Nat) : Int))) ?_
    refine ar (((d.Top + 1) + ((j : Nat) : Int)) + 1) wN ?_
    refine aw (vi (((d.Top + 1) + ((j : Nat) : Int)) + 1)) ?_
    refine wl_nil ?_
    have b9 : (((clrN d.Bits (d.Top + 1) j).set ((((((d.Top + 1) + ((j : Nat) : Int)) % 1024) / 32)).toNat) (andnI ((clrN d.Bits (d.Top + 1) j).getD (((((d.Top + 1) + ((j : Nat) : Int)) % 1024) / 32)).toNat 0) (1 * (2 : Int) ^ (((((d.Top + 1) + ((j : Nat) : Int)) % 1024) % 32)).toNat))) : List Int) = clrN d.Bits (d.Top + 1) (j + 1) := by first | rfl | exact clrS _ _
    have bA := ((B.kp aa).ch ai (fun h => by have := (own_lt m _ h).2; have := nT (Nat.le_refl W.heap.size) p; omega))
    refine wq_loopP (w0 := ay) [(1, (vi e)), (2, (vp P 0)), (4, (vp ab 0)), (5, (vb false)), (6, (vp s 0)), (7, (vi (((j + 1) : Nat) : Int))), (8, (vi ((d.Top + 1) + (((j + 1) : Nat) : Int))))] ?_ ?_ ?_
    · exact ⟨rfl, rfl, rfl, rfl, rfl, (cA (Value.int .i64) (show ((((j : Nat) : Int) + 1) : Int) = (((j + 1) : Nat) : Int) by omega)), (cA (Value.int .i64) (show ((((d.Top + 1) + ((j : Nat) : Int)) + 1) : Int) = ((d.Top + 1) + (((j + 1) : Nat) : Int)) by omega)), trivial⟩
    · exact fun u => ⟨(j + 1), u, rfl, b8, ((((Ch.refl (fun k => C.heap.size ≤ k) ac).ext J (fun k hk => hk)).extk aa).ext ai (fun k hk => nT (Nat.le_refl C.heap.size) (own_lt m k hk).1)), (by omega), (by omega), (by rw [← b9]; exact b7), bA⟩
    · show (1024 - (((j + 1) : Nat) : Int)).toNat < (1024 - ((j : Nat) : Int)).toNat; omega
  have cP := dF M
  refine cf M ?_
  refine wc_exit <| wq_then_exit <| wq_then_exit <| wq_blk_exit <| wq_then <| sr ?_
  refine mw (vi e) ?_
  refine wl_rem e 1024 wN rfl rfl (by kernel_rfl) (by first | omega | assumption) ?_
  refine aw (vi (e % 1024)) ?_
  refine wl_nil <| wq_then <| wc_seq ?_
  refine wc_draw ([(51, [], [], (fun _ v _ => v = (vp s 1))), (52, [], [0], (fun _ v _ => v = (vs g ((d).Bits).length i))), (53, [], [], (fun _ v _ => v = (vi (e % 1024)))), (54, [], [2], (fun _ v _ => v = (vi ((e % 1024) / 32)))), (55, [], [], (fun _ v _ => v = (vp s 1))), (56, [], [4], (fun _ v _ => v = (vs g ((d).Bits).length i))), (57, [], [], (fun _ v _ => v = (vi (e % 1024)))), (58, [], [6], (fun _ v _ => v = (vi ((e % 1024) / 32)))), (59, [], [4, 5, 6, 7], (fun _ v _ => v = (ve (vs g ((d).Bits).length i) ((((e % 1024) / 32)).toNat * 1)))), (60, [], [4, 5, 6, 7, 8], (fun _ v _ => v = (vi ((clrN d.Bits (d.Top + 1) j).getD (((e % 1024) / 32)).toNat 0)))), (61, [], [], (fun _ v _ => v = (vi (e % 1024)))), (62, [], [10], (fun _ v _ => v = (vi ((e % 1024) % 32)))), (63, [], [10, 11], (fun _ v _ => v = (vi (1 * (2 : Int) ^ (((e % 1024) % 32)).toNat)))), (64, [], [4, 5, 6, 7, 8, 9, 10, 11, 12], (fun _ v _ => v = (vi (orI ((clrN d.Bits (d.Top + 1) j).getD (((e % 1024) / 32)).toNat 0) (1 * (2 : Int) ^ (((e % 1024) % 32)).toNat)))))] : GV) mixed rfl (by kernel_rfl) (by kernel_rfl) ?_ ?_ ?_
  ·exact ⟨hV, hE, ⟨hV, hE, ⟨hV, hE, ⟨hV, hE, ⟨hV, hE, ⟨hV, hE, ⟨hV, hE, ⟨hV, hE, ⟨hV, hE, ⟨hV, hE, ⟨hV, hE, ⟨hV, hE, ⟨hV, hE, ⟨hV, hE, trivial⟩⟩⟩⟩⟩⟩⟩⟩⟩⟩⟩⟩⟩⟩
  ·refine ⟨?_, ⟨?_, ⟨?_, ⟨?_, ⟨?_, ⟨?_, ⟨?_, ⟨?_, ⟨?_, ⟨?_, ⟨?_, ⟨?_, ⟨?_, ⟨?_, trivial⟩⟩⟩⟩⟩⟩⟩⟩⟩⟩⟩⟩⟩⟩
   ·intro f cQ
    rintro _ _ _ _ _ _ _ _ _ _ _ _ _ _
    show WL _ _ _ _ _ _ _
    refine pu (vp s 1) wN ?_
    exact f2
   ·intro f bB
    rintro _ rfl _ _ _ _ _ _ _ _ _ _ _ _ _
    show WL _ _ _ _ _ _ _
    have bC := (B.kp bB)
    refine ld (vs g ((d).Bits).length i) wN isAgg_23 bC ?_
    exact f2
   ·intro f cR
    rintro _ _ _ _ _ _ _ _ _ _ _ _ _ _
    show WL _ _ _ _ _ _ _
    refine mw (vi (e % 1024)) ?_
    exact f2
   ·intro f cS
    rintro _ _ _ rfl _ _ _ _ _ _ _ _ _ _ _
    show WL _ _ _ _ _ _ _
    refine wl_quo (e % 1024) 32 wN rfl rfl (by kernel_rfl) (by omega) (by omega) (by omega) ?_
    exact f2
   ·intro f cT
    rintro _ _ _ _ _ _ _ _ _ _ _ _ _ _
    show WL _ _ _ _ _ _ _
    refine pu (vp s 1) wN ?_
    exact f2
   ·intro f bD
    rintro _ _ _ _ _ rfl _ _ _ _ _ _ _ _ _
    show WL _ _ _ _ _ _ _
    have bE := (B.kp bD)
    refine ld (vs g ((d).Bits).length i) wN isAgg_23 bE ?_
    exact f2
   ·intro f cU
    rintro _ _ _ _ _ _ _ _ _ _ _ _ _ _
    show WL _ _ _ _ _ _ _
    refine mw (vi (e % 1024)) ?_
    exact f2
   ·intro f cV
    rintro _ _ _ _ _ _ _ rfl _ _ _ _ _ _ _
    show WL _ _ _ _ _ _ _
    refine wl_quo (e % 1024) 32 wN rfl rfl (by kernel_rfl) (by omega) (by omega) (by omega) ?_
    exact f2
   ·intro f bF
    rintro _ _ _ _ _ rfl _ rfl _ rfl _ rfl _ _ _ _ _ _
    show WL _ _ _ _ _ _ _
    have bG := (own_kp G bF)
    refine ix wN ((e % 1024) / 32) slTy_23 (Rd.of_own bG) ?_
    exact f2
   ·intro f bH
    rintro _ _ _ _ _ rfl _ rfl _ rfl _ rfl _ rfl _ _ _ _ _
    show WL _ _ _ _ _ _ _
    have bI := (own_kp G bH)
    refine ei (x := (clrN d.Bits (d.Top + 1) j)) ((((e % 1024) / 32)).toNat) wN isAgg_3 (Rd.of_own bI) ?_
    exact f2
   ·intro f cW
    rintro _ _ _ _ _ _ _ _ _ _ _ _ _ _
    show WL _ _ _ _ _ _ _
    refine mw (vi (e % 1024)) ?_
    exact f2
   ·intro f cX
    rintro _ _ _ _ _ _ _ _ _ _ _ rfl _ _ _
    show WL _ _ _ _ _ _ _
    refine wl_rem (e % 1024) 32 wN rfl rfl (by kernel_rfl) (by first | omega | assumption) ?_
    exact f2
   ·intro f cY
    rintro _ _ _ _ _ _ _ _ _ _ _ rfl _ rfl _ _
    show WL _ _ _ _ _ _ _
    refine wl_shl 1 ((e % 1024) % 32) wN rfl rfl rfl rfl rfl (by omega) (by omega) (by omega) (by omega) ?_
    have cZ := shl1_b (((e % 1024) % 32)).toNat (by omega)
    exact f2
   ·intro f da
    rintro _ _ _ _ _ rfl _ rfl _ rfl _ rfl _ rfl _ rfl _ rfl _ rfl _ rfl
    have db := shl1_b (((e % 1024) % 32)).toNat (by omega)
    intro _
    show WL _ _ _ _ _ _ _
    refine wl_or ((clrN d.Bits (d.Top + 1) j).getD (((e % 1024) / 32)).toNat 0) (1 * (2 : Int) ^ (((e % 1024) % 32)).toNat) wN rfl rfl (by kernel_rfl) (by omega) (by omega) (by omega) (by omega) ?_
    have dc := orI_b (a := ((clrN d.Bits (d.Top + 1) j).getD (((e % 1024) / 32)).toNat 0)) (b := (1 * (2 : Int) ^ (((e % 1024) % 32)).toNat)) (by omega) (by omega)
    exact f2
  ·intro f N
   rintro _ rfl _ rfl _ rfl _ rfl _ rfl _ rfl _ rfl _ rfl _ rfl _ rfl _ rfl _ rfl _ rfl
   have dd := shl1_b (((e % 1024) % 32)).toNat (by omega)
   rintro _ rfl
   have de := orI_b (a := ((clrN d.Bits (d.Top + 1) j).getD (((e % 1024) / 32)).toNat 0)) (b := (1 * (2 : Int) ^ (((e % 1024) % 32)).toNat)) (by omega) (by omega)
   show WL _ _ _ _ _ _ _
   have aC := (own_kp G N)
   refine ix wN ((e % 1024) / 32) slTy_23 (Rd.of_own aC) ?_
   refine wl_storeI (clrN d.Bits (d.Top + 1) j) ((((e % 1024) / 32)).toNat) ((orI ((clrN d.Bits (d.Top + 1) j).getD (((e % 1024) / 32)).toNat 0) (1 * (2 : Int) ^ (((e % 1024) % 32)).toNat))) wN rfl rfl rfl (by simp) rfl sizeOf_3 aC (by first | omega | (simp only [List.length_append, List.length_replicate, List.length_take, List.length_set, List.length_map]; omega)) ?_
   intro a2 R aD
   have aE := (ae.extk N).ext R (fun k hk => nT (z2 t q) (own_lt m k hk).1)
   refine n4 ?_
   refine mw (vi e) ?_
   refine pu (vp P 0) wN ?_
   have bJ := (((ad.ch J (Nat.not_le.2 (nL S q.size))).kp N).ch R (fun h => by have := (own_lt m _ h).1; have := nL S q.size; omega))
   refine ld (vi d.Top) wN isAgg_3 bJ ?_
   refine pu (vb (decide (d.Top < e))) wN ?_
   refine n2 ?_
   rcases bf (decide (d.Top < e)) with O | O
   ·have df := dF O
    refine cf O ?_
    refine y1 ?_
    have bK := ((B.kp N).ch R (fun h => by have := (own_lt m _ h).2; have := nT (Nat.le_refl W.heap.size) p; omega))
    refine lN [(vi ((d).Top)), (vs g ((d).Bits).length i)] wN isAgg_34 sizeOf_34 bK ?_
    have bL := (((((((V.kp r).kp D).ch E (nN (nL o (nT r.size p)))).kp A).ch J (Nat.not_le.2 (o))).kp N).ch R (fun h => by have := (own_lt m _ h).1; have := nL o (Nat.le_refl C.heap.size); omega))
    refine sv [(vi ((d).Top)), (vs g ((d).Bits).length i)] wN sizeOf_34 bL ?_
    intro af aF bM dg
    have bN := aE.ext aF (fun k hk => by subst hk; exact nT t.size T)
    refine aw (vb true) ?_
    refine n3 ?_
    have aG := (own_ch aD aF (ne1 m (o)))
    refine ret_2 (.inl rfl) (va [(vi ((d).Top)), (vs g ((d).Bits).length i)]) (vb true) rfl (rv_c [(vi ((d).Top)), (vs g ((d).Bits).length i)] rfl bM isAgg_34 sizeOf_34) rfl ?_
    refine ⟨bN.keep0, ?_⟩
    have bO : sAdd d e = ({ Top := (d).Top, Bits := ((clrN d.Bits (d.Top + 1) j).set ((((e % 1024) / 32)).toNat) (orI ((clrN d.Bits (d.Top + 1) j).getD (((e % 1024) / 32)).toNat 0) (1 * (2 : Int) ^ (((e % 1024) % 32)).toNat))) : PWin }, true) := by have hz := addW_spec (l := d.Bits) (top := d.Top) (n := e) (j := j) (sMay_t (w := d) (n := e) (by assumption)).1 (sMay_t (w := d) (n := e) (by assumption)).2.1 (by omega) (by omega) (by omega) (by omega); simp only [sAdd, F, y, M, O, cond_true, cond_false]; rw [← hz]; first | rfl | (rw [setS]) | (rw [← setS])
    rw [bO]
    have aH : ((d).Bits).length = (((clrN d.Bits (d.Top + 1) j).set ((((e % 1024) / 32)).toNat) (orI ((clrN d.Bits (d.Top + 1) j).getD (((e % 1024) / 32)).toNat 0) (1 * (2 : Int) ^ (((e % 1024) % 32)).toNat)))).length := by first | (simp only [List.length_append, List.length_take, List.length_replicate, List.length_set, List.length_map]; done) | (simp only [List.length_append, List.length_take, List.length_replicate, List.length_set, List.length_map]; omega)
    rw [aH] at aG ⊢
    exact ⟨_, _, rfl, (own_lo aG (z2 t q)), (by rw [← aH]; exact X), ⟨trivial, trivial⟩⟩
   have dh := dT O
   refine ct O ?_
   refine wc_region ?_
   refine mw (vi e) ?_
   refine pu (vp s 0) wN ?_
   have bP := ((B.kp N).ch R (fun h => by have := (own_lt m _ h).2; have := nT (Nat.le_refl W.heap.size) p; omega))
   refine st (vi e) [(vi e)] [(vi e), (vs g ((d).Bits).length i)] wN sizeOf_3 bP ?_
   intro af aj bQ di
   have bR := aE.ext aj (fun k hk => by subst hk; exact nT (z3 t q r) p)
   refine nx ?_
   refine lN [(vi e), (vs g ((d).Bits).length i)] wN isAgg_34 sizeOf_34 bQ ?_
   have bS := ((((((((V.kp r).kp D).ch E (nN (nL o (nT r.size p)))).kp A).ch J (Nat.not_le.2 (o))).kp N).ch R (fun h => by have := (own_lt m _ h).1; have := nL o (Nat.le_refl C.heap.size); omega)).ch aj (nN (nL o (nT r.size p))))
   refine sv [(vi e), (vs g ((d).Bits).length i)] wN sizeOf_34 bS ?_
   intro br aI bT dj
   have bU := bR.ext aI (fun k hk => by subst hk; exact nT t.size T)
   refine aw (vb true) ?_
   refine n3 ?_
   have aJ := (own_ch (own_ch aD aj (ne2 m (p))) aI (ne1 m (o)))
   refine ret_2 (.inl rfl) (va [(vi e), (vs g ((d).Bits).length i)]) (vb true) rfl (rv_c [(vi e), (vs g ((d).Bits).length i)] rfl bT isAgg_34 sizeOf_34) rfl ?_
   refine ⟨bU.keep0, ?_⟩
   have bW : sAdd d e = ({ Top := e, Bits := ((clrN d.Bits (d.Top + 1) j).set ((((e % 1024) / 32)).toNat) (orI ((clrN d.Bits (d.Top + 1) j).getD (((e % 1024) / 32)).toNat 0) (1 * (2 : Int) ^ (((e % 1024) % 32)).toNat))) : PWin }, true) := by have hz := addW_spec (l := d.Bits) (top := d.Top) (n := e) (j := j) (sMay_t (w := d) (n := e) (by assumption)).1 (sMay_t (w := d) (n := e) (by assumption)).2.1 (by omega) (by omega) (by omega) (by omega); simp only [sAdd, F, y, M, O, cond_true, cond_false]; rw [← hz]; first | rfl | (rw [setS]) | (rw [← setS])
   rw [bW]
   have aK : ((d).Bits).length = (((clrN d.Bits (d.Top + 1) j).set ((((e % 1024) / 32)).toNat) (orI ((clrN d.Bits (d.Top + 1) j).getD (((e % 1024) / 32)).toNat 0) (1 * (2 : Int) ^ (((e % 1024) % 32)).toNat)))).length := by first | (simp only [List.length_append, List.length_take, List.length_replicate, List.length_set, List.length_map]; done) | (simp only [List.length_append, List.length_take, List.length_replicate, List.length_set, List.length_map]; omega)
   rw [aK] at aJ ⊢
   exact ⟨_, _, rfl, (own_lo aJ (z2 t q)), (by rw [← aK]; exact X), ⟨trivial, trivial⟩⟩
theorem sAdd_len (w : PWin) (n : Int) : (sAdd w n).1.Bits.length = w.Bits.length := by
  unfold sAdd
  cases h : s_WinMay w n
  · rfl
  · have a := sMay_t h
    show (addW w.Bits w.Top n).length = w.Bits.length
    rw [addW, setB_len, clrN_len]

theorem csWinOf (l : World) (V : Value) (a : List Int) (ao : R_23 l V a)  : Fn Tryz.prog 130 #[V] l (fun v g => ∃ x : (PWin), Keep l g ∧ O_34 g l.heap.size v x ∧ (x.Bits.length = 32)) := by
 obtain ⟨f, m, rfl, E, aS⟩ := ao
 refine fn_ofS (n := 22) [(vs f a.length m)] Tryz.func130 rfl rfl ?_
 refine sr ?_
 refine al [(vi 0), (vs none 0 0)] wN zero_34 ?_
 intro F G ap H p aq
 refine nx ?_
 refine cl wN (csWinNew G ) ?_
 rintro _ I ⟨j, ⟨W, X, rfl, Y, au, aT⟩⟩
 have av := ((Ch.base l).extk p).extk j
 refine al [(vi 0), (vs none 0 0)] wN zero_34 ?_
 intro i aU o ax B ay
 refine sv (L_34 (winNew) W X) wN sizeOf_34 ay ?_
 intro J r az aV
 have a0 := (av.extk B).ext r (fun k hk => by subst hk; exact nT (z2 p j) o)
 refine n4 ?_
 refine aw (vi 0) ?_
 refine wl_nil <| wq_then <| wc_block ?_
 have a1 := (own_ch (own_kp Y B) r (ne2 Y (o)))
 have Z : ((winNew).Bits : List Int) = (winNew).Bits := by rfl
 refine wc_loopP [(0, (vs f a.length m)), (2, (vp F 0)), (3, (vp i 0)), (4, (vi ((0 : Nat) : Int)))] ⟨rfl, rfl, rfl, (cA (Value.int .i64) (show (0 : Int) = ((0 : Nat) : Int) by omega)), trivial⟩ (fun e' g => ∃ (k : Nat) (t : Int) (b : List Int) (aa : Env) (ab3_1x : Option Addr) (cb3_1x : Nat), e' = pt aa [(0, (vs f a.length m)), (2, (vp F 0)), (3, (vp i 0)), (4, (vi ((k : Nat) : Int)))] ∧ Ch (fun k => l.heap.size ≤ k) l g ∧ Ch (fun k => I.heap.size ≤ k) J g ∧ k ≤ a.length ∧ b.length = 32 ∧ (World.ownsRow g G.heap.size 3 1 (.slice ab3_1x (b).length cb3_1x) (b).length ((b).map iV) ∧ (b).length ≤ 1073741824) ∧ Blk g i 34 [(vi t), (.slice ab3_1x (b).length cb3_1x)]) (fun e' _ => a.length - ((intOf (e' 4))).toNat) ?_ ?_
 ·exact fun u => ⟨0, (winNew).Top, (winNew).Bits, u, W, X, rfl, a0, (Ch.refl (fun k => I.heap.size ≤ k) J), (by omega), (by first | rfl | omega | (rw [sAdd_len]; assumption) | (simp only [List.length_replicate])), (Z ▸ ⟨a1, au⟩), (by have hb := az; first | exact hb | (rw [Z] at hb; exact hb))⟩
 ·rintro _ K ⟨k, t, b, aa, ab3_1x, cb3_1x, rfl, s, C, aW, aX, ⟨L, ab⟩, M⟩
  refine wc_seq <| sr ?_
  refine mw (vi ((k : Nat) : Int)) ?_
  refine mw (vs f a.length m) ?_
  refine ln wN slTy_23 (E.from0 s) ?_
  refine pu (vb (decide (((k : Nat) : Int) < (a.length : Int)))) wN ?_
  refine n2 ?_
  rcases bf (decide (((k : Nat) : Int) < (a.length : Int))) with y | y
  ·have aY := dF y
   refine cf y ?_
   refine wc_exit <| wq_then_exit <| wq_then_exit <| wq_blk_exit <| wq_then <| sr ?_
   refine lN [(vi t), (vs ab3_1x (b).length cb3_1x)] wN isAgg_34 sizeOf_34 M ?_
   have a2 := ((((aq.kp j).kp B).ch r (nN (nL H (nT j.size o)))).ch C (Nat.not_le.2 (nL H j.size)))
   refine sv [(vi t), (vs ab3_1x (b).length cb3_1x)] wN sizeOf_34 a2 ?_
   intro d ac a3 aZ
   have a4 := s.ext ac (fun k hk => by subst hk; exact ap)
   refine n3 ?_
   have ad := (own_ch L ac (ne1 L (H)))
   refine ret_1 (.inl rfl) (va [(vi t), (vs ab3_1x (b).length cb3_1x)]) rfl (rv_c [(vi t), (vs ab3_1x (b).length cb3_1x)] rfl a3 isAgg_34 sizeOf_34) ?_
   have ae : (b).length = (b).length := by first | (simp only [List.length_append, List.length_take, List.length_replicate, List.length_set, List.length_map]; done) | (simp only [List.length_append, List.length_take, List.length_replicate, List.length_set, List.length_map]; omega)
   rw [ae] at ad ⊢
   exact ⟨{ Top := t, Bits := b : PWin }, a4.keep0, ⟨_, _, rfl, (own_lo ad p.size), (by rw [← ae]; exact ab), ⟨trivial, trivial⟩⟩, (by omega)⟩
  have ba := dT y
  refine ct y ?_
  refine wc_skip <| wq_then <| wc_seq <| wc_block ?_
  refine wc_drawT ([(13, [], [], (fun _ v _ => v = (va [(vi t), (vs ab3_1x (b).length cb3_1x)]))), (14, [], [], (fun _ v _ => v = (vs f a.length m))), (15, [], [], (fun _ v _ => v = (vi ((k : Nat) : Int)))), (16, [], [1, 2], (fun _ v _ => v = (ve (vs f a.length m) ((((k : Nat) : Int)).toNat * 1)))), (17, [], [1, 2, 3], (fun _ v _ => v = (vi (a.getD k 0)))), (18, [], [0, 1, 2, 3, 4], (fun _ v w => ∃ (f : Option Addr) (N : Nat), v = .tuple #[.agg #[.int .i64 (((sAdd { Top := t, Bits := b : PWin } (a.getD k 0)).1).Top), .slice f (((sAdd { Top := t, Bits := b : PWin } (a.getD k 0)).1).Bits).length N], .bool ((sAdd { Top := t, Bits := b : PWin } (a.getD k 0)).2)] ∧ w.ownsRow (K.heap.size) 3 1 (.slice f (((sAdd { Top := t, Bits := b : PWin } (a.getD k 0)).1).Bits).length N) (((sAdd { Top := t, Bits := b : PWin } (a.getD k 0)).1).Bits).length ((((sAdd { Top := t, Bits := b : PWin } (a.getD k 0)).1).Bits).map iV) ∧ (((sAdd { Top := t, Bits := b : PWin } (a.getD k 0)).1).Bits).length ≤ 1073741824 ∧ Aps [(f, N)])), (12, [18], [0, 1, 2, 3, 4, 5], (fun e v _ => v = (.tuple #[(.agg #[(vi (((sAdd { Top := t, Bits := b : PWin } (a.getD k 0)).1).Top)), (cellAt (tupAt (e 18) 0) 1)]), (vb ((sAdd { Top := t, Bits := b : PWin } (a.getD k 0)).2))]))), (19, [18], [0, 1, 2, 3, 4, 5, 6], (fun e v _ => v = (.agg #[(vi (((sAdd { Top := t, Bits := b : PWin } (a.getD k 0)).1).Top)), (cellAt (tupAt (e 18) 0) 1)]))), (20, [], [0, 1, 2, 3, 4, 5, 6], (fun _ v _ => v = (vb ((sAdd { Top := t, Bits := b : PWin } (a.getD k 0)).2)))), (31, [18], [0, 1, 2, 3, 4, 5, 6, 7], (fun e _ w => BK w i 34 0 [(vi (((sAdd { Top := t, Bits := b : PWin } (a.getD k 0)).1).Top)), (cellAt (tupAt (e 18) 0) 1)]))] : GV) (fun lf g => Ch (fun k => k = i) K g ∧ RK lf g i 34 [(vi t), (vs ab3_1x (b).length cb3_1x)] [(9, 0, 2)]) [(9, TK i 34 0 2)] mixed rfl (by kernel_rfl) (by kernel_rfl) ?_ (fun _ _ h => ⟨h.to _, RK.z M h⟩) (fun _ _ _ _ h mo k => by obtain ⟨hc, O⟩ := h; exact ⟨hc.comp k (fun _ _ q => q.elim), O.kp mo k⟩) ⟨(fun _ _ w g h mo hj t => by obtain ⟨hc, O⟩ := h; exact ⟨hc.comp t.1 (fun _ _ q => q), O.st mo hj (.head _) t⟩), trivial⟩ ?_ ?_ ?_
  ·exact ⟨hV, hE, ⟨hV, hE, ⟨hV, hE, ⟨hV, hE, ⟨hV, hE, ⟨(fun e v w G h hk => by obtain ⟨P, Q, he, D, R, hap⟩ := h; exact ⟨P, Q, he, own_kp D hk, R, hap⟩), hE, ⟨hV, (fun af ah v w hx h => by have A := hx 18 (by simp); simp only [A] at h; exact h), ⟨hV, (fun af ah v w hx h => by have A := hx 18 (by simp); simp only [A] at h; exact h), ⟨hV, hE, ⟨sK, (fun af ah v w hx h => by have A := hx 18 (by simp); simp only [A] at h; exact h), trivial⟩⟩⟩⟩⟩⟩⟩⟩⟩⟩
  ·exact ⟨⟨.inr hV, ⟨.inr hV, ⟨.inr hV, ⟨.inr hV, ⟨.inr hV, ⟨.inr (fun e v wX wY h ht => by obtain ⟨P, Q, he, D, R, hap⟩ := h; exact ⟨P, Q, he, own_ch D ht.1 (fun gq hg _ hk => by have bb := (own_lt D gq hg).1; have bc : gq = i := hk; have bd := (nL ax (z2 r C)); omega), R, hap⟩), ⟨.inr hV, ⟨.inr hV, ⟨.inr hV, ⟨.inl rfl, trivial⟩⟩⟩⟩⟩⟩⟩⟩⟩⟩, trivial⟩
  ·refine ⟨?_, ⟨?_, ⟨?_, ⟨?_, ⟨?_, ⟨?_, ⟨?_, ⟨?_, ⟨?_, ⟨?_, trivial⟩⟩⟩⟩⟩⟩⟩⟩⟩⟩
   ·rintro lf d ⟨be, a5⟩ ⟨a6, -⟩
    have a7 := RK.old a5 ⟨a6.resolve_left (fun h => Bool.noConfusion (show true = false from h.1)), trivial⟩
    rintro _ _ _ _ _ _ _ _ _ _
    show WL _ _ _ _ _ _ _
    refine lN [(vi t), (vs ab3_1x (b).length cb3_1x)] wN isAgg_34 sizeOf_34 a7 ?_
    exact f1
   ·rintro lf d ⟨bg, bh⟩ ⟨bi, -⟩
    rintro _ _ _ _ _ _ _ _ _ _
    show WL _ _ _ _ _ _ _
    refine mw (vs f a.length m) ?_
    exact f1
   ·rintro lf d ⟨bj, bk⟩ ⟨bl, -⟩
    rintro _ _ _ _ _ _ _ _ _ _
    show WL _ _ _ _ _ _ _
    refine mw (vi ((k : Nat) : Int)) ?_
    exact f1
   ·rintro lf d ⟨a8, bm⟩ ⟨bn, -⟩
    have a9 := s.ext a8 (fun k hk => by subst hk; exact nT (z2 p j) o)
    rintro _ _ rfl _ rfl _ _ _ _ _ _ _
    show WL _ _ _ _ _ _ _
    refine ix wN ((k : Nat) : Int) slTy_23 (E.from0 a9) ?_
    exact f1
   ·rintro lf d ⟨aA, bo⟩ ⟨bp, -⟩
    have aB := s.ext aA (fun k hk => by subst hk; exact nT (z2 p j) o)
    rintro _ _ rfl _ rfl _ rfl _ _ _ _ _ _
    show WL _ _ _ _ _ _ _
    refine ei (x := a) k wN isAgg_3 (E.from0 aB) ?_
    exact f1
   ·rintro lf d ⟨ai, bq⟩ ⟨br, -⟩
    rintro _ rfl _ rfl _ rfl _ rfl _ rfl _ _ _ _ _
    show WL _ _ _ _ _ _ _
    have aC := (own_blk L M (by decide) ai)
    refine cl wN (csWinAdd d _ { Top := t, Bits := b : PWin } (mR_34 (Rd.of_own aC) ab) (a.getD k 0)) ?_
    rintro _ bu ⟨aD, ⟨bv, bw, rfl, aE, aF, aG⟩⟩
    have bz := sAdd_len { Top := t, Bits := b : PWin } (a.getD k 0)
    exact wl_finT aD ⟨_, _, rfl, (own_lo aE ai.size), aF, aG⟩
   ·rintro lf d ⟨b0, b1⟩ ⟨b2, -⟩
    rintro _ rfl _ rfl _ rfl _ rfl _ rfl _ ⟨aH, aI, rfl, _⟩
    have b3 := sAdd_len { Top := t, Bits := b : PWin } (a.getD k 0)
    rintro _ _ _ _
    show WL _ _ _ _ _ _ _
    refine mw (.tuple #[(va [(vi (((sAdd { Top := t, Bits := b : PWin } (a.getD k 0)).1).Top)), (vs aH (((sAdd { Top := t, Bits := b : PWin } (a.getD k 0)).1).Bits).length aI)]), (vb ((sAdd { Top := t, Bits := b : PWin } (a.getD k 0)).2))]) ?_
    exact f1
   ·rintro lf d ⟨b4, b5⟩ ⟨b6, -⟩
    rintro _ rfl _ rfl _ rfl _ rfl _ rfl _ ⟨aJ, aK, rfl, _⟩
    have b7 := sAdd_len { Top := t, Bits := b : PWin } (a.getD k 0)
    rintro _ rfl _ _ _
    show WL _ _ _ _ _ _ _
    refine pu (va [(vi (((sAdd { Top := t, Bits := b : PWin } (a.getD k 0)).1).Top)), (vs aJ (((sAdd { Top := t, Bits := b : PWin } (a.getD k 0)).1).Bits).length aK)]) wN ?_
    exact f1
   ·rintro lf d ⟨b8, b9⟩ ⟨bA, -⟩
    rintro _ rfl _ rfl _ rfl _ rfl _ rfl _ ⟨bB, bC, rfl, _⟩
    have bD := sAdd_len { Top := t, Bits := b : PWin } (a.getD k 0)
    rintro _ rfl _ _ _
    show WL _ _ _ _ _ _ _
    refine pu (vb ((sAdd { Top := t, Bits := b : PWin } (a.getD k 0)).2)) wN ?_
    exact f1
   ·rintro lf d ⟨bE, aL⟩ ⟨bF, -⟩
    rintro _ rfl _ rfl _ rfl _ rfl _ rfl _ ⟨aj, ak, rfl, _⟩
    have bG := sAdd_len { Top := t, Bits := b : PWin } (a.getD k 0)
    rintro _ rfl _ rfl _ _
    show WL _ _ _ _ _ _ _
    exact stK (va [(vi (((sAdd { Top := t, Bits := b : PWin } (a.getD k 0)).1).Top)), (vs aj (((sAdd { Top := t, Bits := b : PWin } (a.getD k 0)).1).Bits).length ak)]) [(vi (((sAdd { Top := t, Bits := b : PWin } (a.getD k 0)).1).Top)), (vs aj (((sAdd { Top := t, Bits := b : PWin } (a.getD k 0)).1).Bits).length ak)] wN sizeOf_34 aL (fun _ h => h) (fun _ t => t)
  ·rintro lf d ⟨am, aM⟩
   have aN := s.ext am (fun k hk => by subst hk; exact nT (z2 p j) o)
   rintro _ rfl _ rfl _ rfl _ rfl _ rfl _ ⟨S, T, rfl, aO, aP, bH⟩
   have bI := sAdd_len { Top := t, Bits := b : PWin } (a.getD k 0)
   rintro _ rfl _ rfl _ rfl _ aQ
   have aR : Blk d i 34 [(vi (((sAdd { Top := t, Bits := b : PWin } (a.getD k 0)).1).Top)), (vs S (((sAdd { Top := t, Bits := b : PWin } (a.getD k 0)).1).Bits).length T)] := RK.fin aM [(0, [(vi (((sAdd { Top := t, Bits := b : PWin } (a.getD k 0)).1).Top)), (vs S (((sAdd { Top := t, Bits := b : PWin } (a.getD k 0)).1).Bits).length T)])] ⟨aQ, trivial⟩
   show WL _ _ _ _ _ _ _
   refine wl_nil <| wq_blk_normal <| wq_then <| wc_region ?_
   refine mw (vi ((k : Nat) : Int)) ?_
   refine ar (((k : Nat) : Int) + 1) wN ?_
   refine aw (vi (((k : Nat) : Int) + 1)) ?_
   refine wl_nil ?_
   have an : (((sAdd { Top := t, Bits := b : PWin } (a.getD k 0)).1).Bits : List Int) = ((sAdd { Top := t, Bits := b : PWin } (a.getD k 0)).1).Bits := by rfl
   refine wq_loopP (w0 := K) [(0, (vs f a.length m)), (2, (vp F 0)), (3, (vp i 0)), (4, (vi (((k + 1) : Nat) : Int)))] ?_ ?_ ?_
   · exact ⟨rfl, rfl, rfl, (cA (Value.int .i64) (show ((((k : Nat) : Int) + 1) : Int) = (((k + 1) : Nat) : Int) by omega)), trivial⟩
   · exact fun u => ⟨(k + 1), ((sAdd { Top := t, Bits := b : PWin } (a.getD k 0)).1).Top, ((sAdd { Top := t, Bits := b : PWin } (a.getD k 0)).1).Bits, u, S, T, rfl, aN, (((Ch.refl (fun k => I.heap.size ≤ k) J).ext C (fun k hk => hk)).ext am (fun k hk => by subst hk; exact o)), (by omega), (by first | rfl | omega | (rw [sAdd_len]; assumption) | (simp only [List.length_replicate])), (an ▸ ⟨(own_lo aO (z4 j B r C)), aP⟩), (by have hb := aR; first | exact hb | (rw [an] at hb; exact hb))⟩
   · show a.length - ((((k + 1) : Nat) : Int)).toNat < a.length - (((k : Nat) : Int)).toNat; omega

theorem mR_23 {w : World} {x : List Int} {a : Option Addr} {b : Nat} (d : Rd w 1 (.slice a x.length b) x.length (x.map iV)) (e : x.length ≤ 1073741824) : R_23 w (vs a x.length b) x := ⟨_, _, rfl, d, e⟩
theorem csl8Draw (a : World) (g : Nat) (ca : Option Addr) (cc : Nat) (cb : List UInt8) (r : CurX a g 100 ca cc cb)  : Fn Tryz.prog 99 #[(vp g 0)] a (fun v e => ∃ x : (PWin), Ch (fun k => k = g) a e ∧ CurX e g 100 ca cc cb ∧ O_34 e a.heap.size v x ∧ (x.Bits.length = 32)) := by
 obtain ⟨ci, chh, hcb, hcr, hcl, hci, hcn⟩ := r
 have hgl := Blk.lt hcb
 refine fn_ofS (n := 6) [(vp g 0)] Tryz.func99 rfl rfl ?_
 refine sr ?_
 refine al [(vi 0), (vs none 0 0)] wN zero_34 ?_
 intro L s f t h u
 have o := ChG.extk (Ch.refl (fun k => k = g) a) h
 refine nx ?_
 refine mw (vp g 0) ?_
 have w := (hcb.kp h)
 refine cl wN (csl8Nums s g ca cc cb ⟨_, _, w, (Rd.chP hcr o hcn), hcl, (by omega), hcn⟩ 12 (by omega)) ?_
 rintro _ y ⟨A, b, ⟨M, N, B, O, P, Q, R⟩, ⟨S, T, rfl, C, D, V⟩, W⟩
 have E := ChG.ext o b (fun k hk => .inl hk)
 refine cl wN (csWinOf y _ (A) (mR_23 (Rd.of_own C) D)) ?_
 rintro _ X ⟨d, i, ⟨j, l, rfl, p, F, Y⟩, Z⟩
 have G := ChG.extk E i
 have H := ((u.ch b (Ne.symm (nN (nL hgl (f))))).kp i)
 refine sv (L_34 (d) j l) wN sizeOf_34 H ?_
 intro aa m I ab
 have q := ChG.ext G m (fun k hk => .inr (by subst hk; exact f))
 refine n3 ?_
 have J := (own_ch p m (ne1 p (nL t b.size)))
 refine ret_1 (.inl rfl) (va (L_34 (d) j l)) rfl (rv_c (L_34 (d) j l) rfl I isAgg_34 sizeOf_34) ?_
 have K := ((B.kp i).ch m (nN (nL hgl (f))))
 exact ⟨(d), q, ⟨_, _, K, (Rd.chP hcr q hcn), hcl, (by omega), hcn⟩, ⟨_, _, rfl, (own_lo J (z2 h b)), F, ⟨trivial, trivial⟩⟩, (by first | assumption | omega)⟩

theorem csPutN (e : World) (B : Value) (d : List UInt8) (S : R_22 e B d) (b : Int) (a : Int) (aj : d.length ≤ 1000000) : Fn Tryz.prog 103 #[B, (vi b), (vi a)] e (fun v o => Keep e o ∧ O_22 o e.heap.size v (putN d b a)) := by
 obtain ⟨C, D, rfl, T, E⟩ := S
 refine fn_ofS (n := 35) [(vs C d.length D), (vi b), (vi a)] Tryz.func103 rfl rfl ?_
 refine sr ?_
 refine aw (vs none 0 0) ?_
 refine nx ?_
 refine wl_lit0 wN rfl rfl slTy_22 (fun w => by kernel_rfl) ?_
 intro ak am y V
 have F := (Ch.base e).extk y
 refine mw (vs C d.length D) ?_
 refine ap0 d wN slTy_22 V (T.from0 F) y.size ?_
 intro f g A G H an
 have I := F.extk G
 refine aw (vs f d.length g) ?_
 refine n4 ?_
 refine jT1 [(1, (vi b)), (2, (vi a)), (6, (vs none 0 0)), (7, (vs f d.length g))] (putN d b a = d) ?_ fun J => ?_
 ·intro W K L ao
  have X := I.extk L
  refine sr ?_
  refine mw (vs f d.length g) ?_
  refine aw (vs f d.length g) ?_
  refine n1 ?_
  have Y := (own_kp H L)
  refine rt (vs f d.length g) ?_
  refine ⟨X.keep0, ?_⟩
  rw [W]
  exact ⟨_, _, rfl, Y, E, ⟨trivial, trivial⟩⟩
 refine mw (vi a) ?_
 refine pu (vb (decide (a < 1))) wN ?_
 refine mw (vb (decide (a < 1))) ?_
 rcases bt (decide (a < 1)) with h | h
 ·have ap := dT h
  iterate 2 refine sk h ?_
  refine pk (vb true) wN h ?_
  refine n2 ?_
  refine ct (Eq.refl true) ?_
  have Z : putN d b a = d := by first | exact putN_out (by omega) | exact putN_end (by omega) (by omega) (by omega)
  exact wj (J Z _ (Ch.refl _ _))
 have aq := dF h
 refine mv (vi a) (wS h) ?_
 refine pu (vb (decide (6 < a))) (wS h) ?_
 refine pf (vb (decide (6 < a))) wN h ?_
 refine n2 ?_
 rcases bt (decide (6 < a)) with p | p
 ·have au := dT p
  refine ct p ?_
  have aa : putN d b a = d := by first | exact putN_out (by omega) | exact putN_end (by omega) (by omega) (by omega)
  exact wj (J aa _ (Ch.refl _ _))
 have av := dF p
 refine cf p ?_
 refine y2 ?_
 refine mw (vi a) ?_
 refine ar (a - 1) wN ?_
 refine aw (vi (a - 1)) ?_
 refine wl_nil <| wq_then <| wc_block ?_
 have M : (d : List UInt8) = d ++ putK b a 0 := by simp [putK]
 refine wc_loopP [(1, (vi b)), (6, (vs none 0 0)), (7, (.slice f (d ++ putK b a 0).length g)), (8, (vi (a - 1 - ((0 : Nat) : Int))))] ⟨rfl, rfl, (cA (fun l : List UInt8 => Value.slice f l.length g) M), (cA (Value.int .i64) (show ((a - 1) : Int) = (a - 1 - ((0 : Nat) : Int)) by omega)), trivial⟩ (fun e' o => ∃ (j : Nat) (N : Env) (i : Option Addr) (m : Nat), e' = pt N [(1, (vi b)), (6, (vs none 0 0)), (7, (.slice i (d ++ putK b a j).length m)), (8, (vi (a - 1 - ((j : Nat) : Int))))] ∧ Ch (fun k => e.heap.size ≤ k) e o ∧ Ch (fun k => e.heap.size ≤ k) A o ∧ ((j : Nat) : Int) ≤ a ∧ (World.ownsRow o e.heap.size 5 1 (.slice i (d ++ putK b a j).length m) (d ++ putK b a j).length ((d ++ putK b a j).map bV) ∧ (d ++ putK b a j).length ≤ 1073741824)) (fun e' _ => ((intOf (e' 8)) + 1).toNat) ?_ ?_
 ·exact fun u => ⟨0, u, f, g, rfl, I, (Ch.refl (fun k => e.heap.size ≤ k) A), (by omega), (M ▸ ⟨H, E⟩)⟩
 ·rintro _ K ⟨j, N, i, m, rfl, O, P, ax, ⟨r, ab⟩⟩
  have hpl := putK_len b a j
  refine wc_seq <| sr ?_
  refine mw (vi (a - 1 - ((j : Nat) : Int))) ?_
  refine pu (vb (decide (0 ≤ (a - 1 - ((j : Nat) : Int))))) wN ?_
  refine n2 ?_
  rcases bf (decide (0 ≤ (a - 1 - ((j : Nat) : Int)))) with q | q
  ·have ay := dF q
   refine cf q ?_
   refine wc_exit <| wq_then_exit <| wq_then_exit <| wq_blk_exit <| wq_then <| sr ?_
   refine mw (vs i (d ++ putK b a j).length m) ?_
   refine aw (vs i (d ++ putK b a j).length m) ?_
   refine n3 ?_
   refine rt (vs i (d ++ putK b a j).length m) ?_
   refine ⟨O.keep0, ?_⟩
   have ac : putN d b a = (d ++ putK b a j) := by first | exact putN_out (by omega) | exact putN_end (by omega) (by omega) (by omega)
   rw [ac]
   exact ⟨_, _, rfl, r, ab, ⟨trivial, trivial⟩⟩
  have az := dT q
  refine ct q ?_
  refine wc_skip <| wq_then <| wc_seq <| wc_block <| wc_region ?_
  refine mw (vs i (d ++ putK b a j).length m) ?_
  refine mw (vi b) ?_
  refine mw (vi (a - 1 - ((j : Nat) : Int))) ?_
  refine ar (8 * (a - 1 - ((j : Nat) : Int))) wN ?_
  refine wl_shr b (8 * (a - 1 - ((j : Nat) : Int))) wN rfl rfl rfl rfl rfl (by omega) (by omega) ?_
  refine wl_and (b / (2 : Int) ^ ((8 * (a - 1 - ((j : Nat) : Int)))).toNat) 255 256 8 wN rfl rfl (by decide) (by decide) (by decide) (by kernel_rfl) ?_
  refine wl_conv8 ((b / (2 : Int) ^ ((8 * (a - 1 - ((j : Nat) : Int)))).toNat) % 256) wN rfl rfl (by kernel_rfl) ?_
  refine ltB ([(by8 ((b / (2 : Int) ^ ((8 * (a - 1 - ((j : Nat) : Int)))).toNat) % 256))] : List UInt8) wN slTy_22 ?_
  intro a0 a1 a2 s ad
  have ae := (own_kp r s)
  refine apB (d ++ putK b a j) ([(by8 ((b / (2 : Int) ^ ((8 * (a - 1 - ((j : Nat) : Int)))).toNat) % 256))] : List UInt8) wN slTy_22 ae (Rd.of_own ad) (z4 y G P s) ?_
  intro t x a3 Q af a4 ah
  have ai := (O.extk s).ext Q (fun k hk => nT (Nat.le_refl e.heap.size) (own_lt r k hk).1)
  refine aw (vs t ((d ++ putK b a j) ++ ([(by8 ((b / (2 : Int) ^ ((8 * (a - 1 - ((j : Nat) : Int)))).toNat) % 256))] : List UInt8)).length x) ?_
  refine wl_nil <| wq_blk_normal <| wq_then <| wc_region ?_
  refine mw (vi (a - 1 - ((j : Nat) : Int))) ?_
  refine ar ((a - 1 - ((j : Nat) : Int)) - 1) wN ?_
  refine aw (vi ((a - 1 - ((j : Nat) : Int)) - 1)) ?_
  refine wl_nil ?_
  have R : (((d ++ putK b a j) ++ ([(by8 ((b / (2 : Int) ^ ((8 * (a - 1 - ((j : Nat) : Int)))).toNat) % 256))] : List UInt8)) : List UInt8) = d ++ putK b a (j + 1) := by simp [putK]
  refine wq_loopP (w0 := K) [(1, (vi b)), (6, (vs none 0 0)), (7, (.slice t (d ++ putK b a (j + 1)).length x)), (8, (vi (a - 1 - (((j + 1) : Nat) : Int))))] ?_ ?_ ?_
  · exact ⟨rfl, rfl, (cA (fun l : List UInt8 => Value.slice t l.length x) R), (cA (Value.int .i64) (show (((a - 1 - ((j : Nat) : Int)) - 1) : Int) = (a - 1 - (((j + 1) : Nat) : Int)) by omega)), trivial⟩
  · exact fun u => ⟨(j + 1), u, t, x, rfl, ai, ((((Ch.refl (fun k => e.heap.size ≤ k) A).ext P (fun k hk => hk)).extk s).ext Q (fun k hk => nT (Nat.le_refl e.heap.size) (own_lt r k hk).1)), (by omega), (R ▸ ⟨af, ah⟩)⟩
  · show ((a - 1 - (((j + 1) : Nat) : Int)) + 1).toNat < ((a - 1 - ((j : Nat) : Int)) + 1).toNat; omega

theorem csPad (b : World) (a : Int)  : Fn Tryz.prog 150 #[(vi a)] b (fun v e => Keep b e ∧ O_22 e b.heap.size v (padP a)) := by
 refine fn_ofS (n := 27) [(vi a)] Tryz.func150 rfl rfl ?_
 refine sr ?_
 refine aw (vs none 0 0) ?_
 refine n4 ?_
 refine jT1 [(0, (vi a)), (2, (vs none 0 0))] (padP a = []) ?_ fun B => ?_
 ·intro N o C am
  refine sr ?_
  refine wl_lit0 wN rfl rfl slTy_22 (fun w => by kernel_rfl) ?_
  intro D x O P
  have Q := ((Ch.base b).extk C).extk O
  refine aw (vs (some D) 0 0) ?_
  refine n1 ?_
  refine rt (vs (some D) 0 0) ?_
  refine ⟨Q.keep0, ?_⟩
  rw [N]
  exact ⟨_, _, rfl, (own_lo P C.size), (by simp), ⟨trivial, trivial⟩⟩
 refine mw (vi a) ?_
 refine pu (vb (decide (a < 0))) wN ?_
 refine mw (vb (decide (a < 0))) ?_
 rcases bt (decide (a < 0)) with d | d
 ·have an := dT d
  iterate 2 refine sk d ?_
  refine pk (vb true) wN d ?_
  refine n2 ?_
  refine ct (Eq.refl true) ?_
  have R : padP a = [] := by first | exact padP_f (by omega) | exact padP_s (by omega) (by omega) (by omega) (by omega)
  exact wj (B R _ (Ch.refl _ _))
 have ao := dF d
 refine mv (vi a) (wS d) ?_
 refine pu (vb (decide (1048576 < a))) (wS d) ?_
 refine pf (vb (decide (1048576 < a))) wN d ?_
 refine n2 ?_
 rcases bt (decide (1048576 < a)) with h | h
 ·have ap := dT h
  refine ct h ?_
  have S : padP a = [] := by first | exact padP_f (by omega) | exact padP_s (by omega) (by omega) (by omega) (by omega)
  exact wj (B S _ (Ch.refl _ _))
 have aq := dF h
 refine cf h ?_
 refine y1 ?_
 refine ltB ([128] : List UInt8) wN slTy_22 ?_
 intro p q o y T
 have V := (Ch.base b).extk y
 refine aw (vs p ([128] : List UInt8).length q) ?_
 refine wl_nil <| wq_then <| wc_seq <| wc_block ?_
 have E : (([128] : List UInt8) : List UInt8) = [(128 : UInt8)] ++ List.replicate 0 (0 : UInt8) := by first | rfl | (rw [List.replicate_succ', List.append_assoc])
 refine wc_loopP [(0, (vi a)), (2, (vs none 0 0)), (3, (.slice p ([(128 : UInt8)] ++ List.replicate 0 (0 : UInt8)).length q))] ⟨rfl, rfl, (cA (fun l : List UInt8 => Value.slice p l.length q) E), trivial⟩ (fun e' e => ∃ (j : Nat) (F : Env) (f : Option Addr) (g : Nat), e' = pt F [(0, (vi a)), (2, (vs none 0 0)), (3, (.slice f ([(128 : UInt8)] ++ List.replicate j (0 : UInt8)).length g))] ∧ Ch (fun k => b.heap.size ≤ k) b e ∧ Ch (fun k => b.heap.size ≤ k) o e ∧ ((j : Nat) : Int) ≤ (64 - (a + 9) % 64) % 64 ∧ (World.ownsRow e b.heap.size 5 1 (.slice f ([(128 : UInt8)] ++ List.replicate j (0 : UInt8)).length g) ([(128 : UInt8)] ++ List.replicate j (0 : UInt8)).length (([(128 : UInt8)] ++ List.replicate j (0 : UInt8)).map bV) ∧ ([(128 : UInt8)] ++ List.replicate j (0 : UInt8)).length ≤ 1073741824)) (fun e' _ => 100 - (lenOf (e' 3))) ?_ ?_
 ·exact fun u => ⟨0, u, p, q, rfl, V, (Ch.refl (fun k => b.heap.size ≤ k) o), (by omega), (E ▸ ⟨T, (by simp)⟩)⟩
 ·rintro _ x ⟨j, F, f, g, rfl, G, A, au, ⟨i, W⟩⟩
  have hpl : ([(128 : UInt8)] ++ List.replicate j (0 : UInt8)).length = 1 + j := by rw [List.length_append, List.length_replicate]; rfl
  refine wc_seq <| sr ?_
  refine mw (vi a) ?_
  refine mw (vs f ([(128 : UInt8)] ++ List.replicate j (0 : UInt8)).length g) ?_
  refine ln wN slTy_22 (Rd.of_own i) ?_
  refine ar (a + (([(128 : UInt8)] ++ List.replicate j (0 : UInt8)).length : Int)) wN ?_
  refine ar ((a + (([(128 : UInt8)] ++ List.replicate j (0 : UInt8)).length : Int)) + 8) wN ?_
  refine wl_rem ((a + (([(128 : UInt8)] ++ List.replicate j (0 : UInt8)).length : Int)) + 8) 64 wN rfl rfl (by kernel_rfl) (by first | omega | assumption) ?_
  refine pu (vb (!(decide ((((a + (([(128 : UInt8)] ++ List.replicate j (0 : UInt8)).length : Int)) + 8) % 64) = 0)))) wN ?_
  refine n2 ?_
  rcases bf (decide ((((a + (([(128 : UInt8)] ++ List.replicate j (0 : UInt8)).length : Int)) + 8) % 64) = 0)) with m | m
  ·have av := dF m
   refine ct (cA not m) ?_
   refine wc_skip <| wq_then <| wc_block <| wc_region ?_
   refine mw (vs f ([(128 : UInt8)] ++ List.replicate j (0 : UInt8)).length g) ?_
   refine ltB ([0] : List UInt8) wN slTy_22 ?_
   intro ax ay H r X
   have Y := (own_kp i r)
   refine apB ([(128 : UInt8)] ++ List.replicate j (0 : UInt8)) ([0] : List UInt8) wN slTy_22 Y (Rd.of_own X) (z3 y A r) ?_
   intro s t Z I aa az ab
   have ac := (G.extk r).ext I (fun k hk => nT (Nat.le_refl b.heap.size) (own_lt i k hk).1)
   refine aw (vs s (([(128 : UInt8)] ++ List.replicate j (0 : UInt8)) ++ ([0] : List UInt8)).length t) ?_
   refine wl_nil <| wq_blk_normal ?_
   have J : ((([(128 : UInt8)] ++ List.replicate j (0 : UInt8)) ++ ([0] : List UInt8)) : List UInt8) = [(128 : UInt8)] ++ List.replicate (j + 1) (0 : UInt8) := by first | rfl | (rw [List.replicate_succ', List.append_assoc])
   refine wq_loopP (w0 := x) [(0, (vi a)), (2, (vs none 0 0)), (3, (.slice s ([(128 : UInt8)] ++ List.replicate (j + 1) (0 : UInt8)).length t))] ?_ ?_ ?_
   · exact ⟨rfl, rfl, (cA (fun l : List UInt8 => Value.slice s l.length t) J), trivial⟩
   · exact fun u => ⟨(j + 1), u, s, t, rfl, ac, ((((Ch.refl (fun k => b.heap.size ≤ k) o).ext A (fun k hk => hk)).extk r).ext I (fun k hk => nT (Nat.le_refl b.heap.size) (own_lt i k hk).1)), (by omega), (J ▸ ⟨aa, ab⟩)⟩
   · show 100 - ([(128 : UInt8)] ++ List.replicate (j + 1) (0 : UInt8)).length < 100 - ([(128 : UInt8)] ++ List.replicate j (0 : UInt8)).length; simp only [List.length_append, List.length_cons, List.length_nil, List.length_replicate]; omega
  have a0 := dT m
  refine cf (cA not m) ?_
  refine wc_exit <| wq_then_exit <| wq_then_exit <| wq_blk_exit <| wq_then <| sr ?_
  refine mw (vs f ([(128 : UInt8)] ++ List.replicate j (0 : UInt8)).length g) ?_
  refine cl wN (csPutN x _ ([(128 : UInt8)] ++ List.replicate j (0 : UInt8)) (mR_22 (Rd.of_own i) W) 0 4 (by first | omega | (simp; done) | (simp; omega) | (simp only [List.length_append, List.length_cons, List.length_nil] at *; omega))) ?_
  rintro _ H ⟨K, ⟨a1, a2, rfl, ad, ae, a3⟩⟩
  have a4 := putN_len ([(128 : UInt8)] ++ List.replicate j (0 : UInt8)) 0 4
  refine mw (vi a) ?_
  refine ar (8 * a) wN ?_
  refine cl wN (csPutN H _ (putN ([(128 : UInt8)] ++ List.replicate j (0 : UInt8)) 0 4) (mR_22 (Rd.of_own ad) ae) (8 * a) 4 (by first | omega | (simp; done) | (simp; omega) | (simp only [List.length_append, List.length_cons, List.length_nil] at *; omega))) ?_
  rintro _ Z ⟨af, ⟨L, M, rfl, ah, ai, a5⟩⟩
  have aj := (G.extk K).extk af
  have a6 := putN_len (putN ([(128 : UInt8)] ++ List.replicate j (0 : UInt8)) 0 4) (8 * a) 4
  refine aw (vs L (putN (putN ([(128 : UInt8)] ++ List.replicate j (0 : UInt8)) 0 4) (8 * a) 4).length M) ?_
  refine n3 ?_
  refine rt (vs L (putN (putN ([(128 : UInt8)] ++ List.replicate j (0 : UInt8)) 0 4) (8 * a) 4).length M) ?_
  refine ⟨aj.keep0, ?_⟩
  have ak : padP a = (putN (putN ([(128 : UInt8)] ++ List.replicate j (0 : UInt8)) 0 4) (8 * a) 4) := by first | exact padP_f (by omega) | exact padP_s (by omega) (by omega) (by omega) (by omega)
  rw [ak]
  exact ⟨_, _, rfl, (own_lo ah (z3 y A K)), ai, ⟨trivial, trivial⟩⟩

theorem csStart (a : World)   : Fn Tryz.prog 151 #[] a (fun v b => Keep a b ∧ O_23 b a.heap.size v (k0)) := by
 refine fn_ofS (n := 2) [] Tryz.func151 rfl rfl ?_
 refine sr ?_
 refine aw (vs none 0 0) ?_
 refine nx ?_
 refine ltI ([1779033703, 3144134277, 1013904242, 2773480762, 1359893119, 2600822924, 528734635, 1541459225] : List Int) wN slTy_23 ?_
 intro d e j f g
 have h := (Ch.base a).extk f
 refine aw (vs d ([1779033703, 3144134277, 1013904242, 2773480762, 1359893119, 2600822924, 528734635, 1541459225] : List Int).length e) ?_
 refine n3 ?_
 refine rt (vs d ([1779033703, 3144134277, 1013904242, 2773480762, 1359893119, 2600822924, 528734635, 1541459225] : List Int).length e) ?_
 refine ⟨h.keep0, ?_⟩
 have i : k0 = ([1779033703, 3144134277, 1013904242, 2773480762, 1359893119, 2600822924, 528734635, 1541459225] : List Int) := by rfl
 rw [i]
 exact ⟨_, _, rfl, g, (by simp), ⟨trivial, trivial⟩⟩

def ws8 (x : List Int) : Bool := areW x 8
theorem ws8_t {x : List Int} (h : ws8 x = true) : allW x = true ∧ (x.length : Int) = 8 := areW_t h
theorem csl2Words (b : World) (m : Value) (a : List Int) (s : R_23 b m a)  : Fn Tryz.prog 159 #[m] b (fun v g => Keep b g ∧ O_4 g b.heap.size v (ws8 a)) := by
 obtain ⟨d, e, rfl, l, A⟩ := s
 refine fn_ofS (n := 19) [(vs d a.length e)] Tryz.func159 rfl rfl ?_
 refine sr ?_
 refine aw (vb false) ?_
 refine n4 ?_
 refine aw (vi 0) ?_
 refine wl_nil <| wq_then <| wc_block ?_
 refine wc_loopP [(0, (vs d a.length e)), (3, (vi ((0 : Nat) : Int)))] ⟨rfl, (cA (Value.int .i64) (show (0 : Int) = ((0 : Nat) : Int) by omega)), trivial⟩ (fun e' g => ∃ (i : Nat) (o : Env), e' = pt o [(0, (vs d a.length e)), (3, (vi ((i : Nat) : Int)))] ∧ Ch (fun k => b.heap.size ≤ k) b g ∧ Ch (fun k => b.heap.size ≤ k) b g ∧ i ≤ a.length ∧ allW (a.take i) = true) (fun e' _ => a.length - ((intOf (e' 3))).toNat) ?_ ?_
 ·exact fun u => ⟨0, u, rfl, (Ch.base b), (Ch.refl (fun k => b.heap.size ≤ k) b), (by omega), (by first | rfl | exact allW_next (by assumption) (by omega) (by assumption))⟩
 ·rintro _ p ⟨i, o, rfl, f, t, B, C⟩
  refine wc_seq <| sr ?_
  refine mw (vi ((i : Nat) : Int)) ?_
  refine mw (vs d a.length e) ?_
  refine ln wN slTy_23 (l.from0 f) ?_
  refine pu (vb (decide (((i : Nat) : Int) < (a.length : Int)))) wN ?_
  refine n2 ?_
  rcases bf (decide (((i : Nat) : Int) < (a.length : Int))) with h | h
  ·have D := dF h
   refine cf h ?_
   refine wc_exit <| wq_then_exit <| wq_then_exit <| wq_blk_exit <| wq_then <| sr ?_
   refine mw (vs d a.length e) ?_
   refine ln wN slTy_23 (l.from0 f) ?_
   refine pu (vb (decide ((a.length : Int) = 8))) wN ?_
   refine aw (vb (decide ((a.length : Int) = 8))) ?_
   refine n3 ?_
   refine rt (vb (decide ((a.length : Int) = 8))) ?_
   refine ⟨f.keep0, ?_⟩
   have w : ws8 a = decide ((a.length : Int) = 8) := by first | (have hz := allW_no (x := a) (k := i) (by omega) (by first | assumption | omega); simp [ws8, areW, hz]) | (have hz := allW_all (x := a) (k := i) (by assumption) (by omega); simp [ws8, areW, hz])
   rw [w]
   exact rfl
  have E := dT h
  refine ct h ?_
  refine wc_skip <| wq_then <| wc_seq <| wc_block <| sr ?_
  refine mw (vs d a.length e) ?_
  refine mw (vi ((i : Nat) : Int)) ?_
  refine ix wN ((i : Nat) : Int) slTy_23 (l.from0 f) ?_
  refine ei (x := a) i wN isAgg_3 (l.from0 f) ?_
  refine cl wN (csl1In p (a.getD i 0) 0 4294967295) ?_
  rintro _ F ⟨q, rfl⟩
  have r := f.extk q
  refine pu (vb (!(s_l1In (a.getD i 0) 0 4294967295))) wN ?_
  refine n2 ?_
  rcases bf (s_l1In (a.getD i 0) 0 4294967295) with j | j
  ·have G := spec_l1In_f j
   refine ct (cA not j) ?_
   refine sr ?_
   refine aw (vb false) ?_
   refine wl_nil <| wq_then <| wc_ret <| wq_blk_ret <| wq_then_ret <| wq_then_ret <| wq_blk_ret <| wq_then_ret ?_
   refine rt (vb false) ?_
   refine ⟨r.keep0, ?_⟩
   have y : ws8 a = false := by first | (have hz := allW_no (x := a) (k := i) (by omega) (by first | assumption | omega); simp [ws8, areW, hz]) | (have hz := allW_all (x := a) (k := i) (by assumption) (by omega); simp [ws8, areW, hz])
   rw [y]
   exact rfl
  have H := spec_l1In_t j
  refine cf (cA not j) ?_
  refine wc_skip <| wq_blk_normal <| wq_then <| wc_region ?_
  refine mw (vi ((i : Nat) : Int)) ?_
  refine ar (((i : Nat) : Int) + 1) wN ?_
  refine aw (vi (((i : Nat) : Int) + 1)) ?_
  refine wl_nil ?_
  refine wq_loopP (w0 := p) [(0, (vs d a.length e)), (3, (vi (((i + 1) : Nat) : Int)))] ?_ ?_ ?_
  · exact ⟨rfl, (cA (Value.int .i64) (show ((((i : Nat) : Int) + 1) : Int) = (((i + 1) : Nat) : Int) by omega)), trivial⟩
  · exact fun u => ⟨(i + 1), u, rfl, r, (((Ch.refl (fun k => b.heap.size ≤ k) b).ext t (fun k hk => hk)).extk q), (by omega), (by first | rfl | exact allW_next (by assumption) (by omega) (by assumption))⟩
  · show a.length - ((((i + 1) : Nat) : Int)).toNat < a.length - (((i : Nat) : Int)).toNat; omega

theorem csl2K (a : World)   : Fn Tryz.prog 160 #[] a (fun v b => Keep a b ∧ O_23 b a.heap.size v (kw)) := by
 refine fn_ofS (n := 2) [] Tryz.func160 rfl rfl ?_
 refine sr ?_
 refine aw (vs none 0 0) ?_
 refine nx ?_
 refine ltI ([1116352408, 1899447441, 3049323471, 3921009573, 961987163, 1508970993, 2453635748, 2870763221, 3624381080, 310598401, 607225278, 1426881987, 1925078388, 2162078206, 2614888103, 3248222580, 3835390401, 4022224774, 264347078, 604807628, 770255983, 1249150122, 1555081692, 1996064986, 2554220882, 2821834349, 2952996808, 3210313671, 3336571891, 3584528711, 113926993, 338241895, 666307205, 773529912, 1294757372, 1396182291, 1695183700, 1986661051, 2177026350, 2456956037, 2730485921, 2820302411, 3259730800, 3345764771, 3516065817, 3600352804, 4094571909, 275423344, 430227734, 506948616, 659060556, 883997877, 958139571, 1322822218, 1537002063, 1747873779, 1955562222, 2024104815, 2227730452, 2361852424, 2428436474, 2756734187, 3204031479, 3329325298] : List Int) wN slTy_23 ?_
 intro d e j f g
 have h := (Ch.base a).extk f
 refine aw (vs d ([1116352408, 1899447441, 3049323471, 3921009573, 961987163, 1508970993, 2453635748, 2870763221, 3624381080, 310598401, 607225278, 1426881987, 1925078388, 2162078206, 2614888103, 3248222580, 3835390401, 4022224774, 264347078, 604807628, 770255983, 1249150122, 1555081692, 1996064986, 2554220882, 2821834349, 2952996808, 3210313671, 3336571891, 3584528711, 113926993, 338241895, 666307205, 773529912, 1294757372, 1396182291, 1695183700, 1986661051, 2177026350, 2456956037, 2730485921, 2820302411, 3259730800, 3345764771, 3516065817, 3600352804, 4094571909, 275423344, 430227734, 506948616, 659060556, 883997877, 958139571, 1322822218, 1537002063, 1747873779, 1955562222, 2024104815, 2227730452, 2361852424, 2428436474, 2756734187, 3204031479, 3329325298] : List Int).length e) ?_
 refine n3 ?_
 refine rt (vs d ([1116352408, 1899447441, 3049323471, 3921009573, 961987163, 1508970993, 2453635748, 2870763221, 3624381080, 310598401, 607225278, 1426881987, 1925078388, 2162078206, 2614888103, 3248222580, 3835390401, 4022224774, 264347078, 604807628, 770255983, 1249150122, 1555081692, 1996064986, 2554220882, 2821834349, 2952996808, 3210313671, 3336571891, 3584528711, 113926993, 338241895, 666307205, 773529912, 1294757372, 1396182291, 1695183700, 1986661051, 2177026350, 2456956037, 2730485921, 2820302411, 3259730800, 3345764771, 3516065817, 3600352804, 4094571909, 275423344, 430227734, 506948616, 659060556, 883997877, 958139571, 1322822218, 1537002063, 1747873779, 1955562222, 2024104815, 2227730452, 2361852424, 2428436474, 2756734187, 3204031479, 3329325298] : List Int).length e) ?_
 refine ⟨h.keep0, ?_⟩
 have i : kw = ([1116352408, 1899447441, 3049323471, 3921009573, 961987163, 1508970993, 2453635748, 2870763221, 3624381080, 310598401, 607225278, 1426881987, 1925078388, 2162078206, 2614888103, 3248222580, 3835390401, 4022224774, 264347078, 604807628, 770255983, 1249150122, 1555081692, 1996064986, 2554220882, 2821834349, 2952996808, 3210313671, 3336571891, 3584528711, 113926993, 338241895, 666307205, 773529912, 1294757372, 1396182291, 1695183700, 1986661051, 2177026350, 2456956037, 2730485921, 2820302411, 3259730800, 3345764771, 3516065817, 3600352804, 4094571909, 275423344, 430227734, 506948616, 659060556, 883997877, 958139571, 1322822218, 1537002063, 1747873779, 1955562222, 2024104815, 2227730452, 2361852424, 2428436474, 2756734187, 3204031479, 3329325298] : List Int) := by rfl
 rw [i]
 exact ⟨_, _, rfl, g, (by simp), ⟨trivial, trivial⟩⟩

def O_3_3_4 (w : World) (lo : Nat) (v : Value) (x : (Int) × (Int) × (Bool)) : Prop := v = .tuple #[.int .i64 x.1, .int .i64 x.2.1, .bool x.2.2]
theorem csGetN (e : World) (t : Value) (b : List UInt8) (A : R_22 e t b) (a : Int) (d : Int)  : Fn Tryz.prog 164 #[t, (vi a), (vi d)] e (fun v m => Keep e m ∧ O_3_3_4 m e.heap.size v (getN3 b a d)) := by
 obtain ⟨j, l, rfl, s, K⟩ := A
 refine fn_ofS (n := 48) [(vs j b.length l), (vi a), (vi d)] Tryz.func164 rfl rfl ?_
 refine sr ?_
 refine aw (vi 0) ?_
 refine aw (vi 0) ?_
 refine aw (vb false) ?_
 refine n4 ?_
 refine jT1 [(0, (vs j b.length l)), (1, (vi a)), (2, (vi d)), (6, (vi 0)), (7, (vi 0)), (8, (vb false))] (getN3 b a d = (0, 0, false)) ?_ fun q => ?_
 ·intro B w C L
  have D := (Ch.base e).extk C
  refine sr ?_
  refine aw (vi 0) ?_
  refine aw (vi 0) ?_
  refine aw (vb false) ?_
  refine n1 ?_
  refine ret_3 (.inl rfl) (vi 0) (vi 0) (vb false) rfl rfl rfl rfl ?_
  refine ⟨D.keep0, ?_⟩
  rw [B]
  exact rfl
 refine mw (vi d) ?_
 refine pu (vb (decide (d < 1))) wN ?_
 refine mw (vb (decide (d < 1))) ?_
 rcases bt (decide (d < 1)) with g | g
 ·have M := dT g
  iterate 2 refine sk g ?_
  refine pk (vb true) wN g ?_
  refine mw (vb true) ?_
  iterate 2 refine sk (Eq.refl true) ?_
  refine pk (vb true) wN (Eq.refl true) ?_
  refine mw (vb true) ?_
  iterate 6 refine sk (Eq.refl true) ?_
  refine pk (vb true) wN (Eq.refl true) ?_
  refine n2 ?_
  refine ct (Eq.refl true) ?_
  have E : getN3 b a d = (0, 0, false) := by first | exact getN3_f (by omega) | exact getN3_s (by omega) (by omega) (by omega) (by omega)
  exact wj (q E _ (Ch.refl _ _))
 have N := dF g
 refine mv (vi d) (wS g) ?_
 refine pu (vb (decide (6 < d))) (wS g) ?_
 refine pf (vb (decide (6 < d))) wN g ?_
 refine mw (vb (decide (6 < d))) ?_
 rcases bt (decide (6 < d)) with h | h
 ·have O := dT h
  iterate 2 refine sk h ?_
  refine pk (vb true) wN h ?_
  refine mw (vb true) ?_
  iterate 6 refine sk (Eq.refl true) ?_
  refine pk (vb true) wN (Eq.refl true) ?_
  refine n2 ?_
  refine ct (Eq.refl true) ?_
  have F : getN3 b a d = (0, 0, false) := by first | exact getN3_f (by omega) | exact getN3_s (by omega) (by omega) (by omega) (by omega)
  exact wj (q F _ (Ch.refl _ _))
 have P := dF h
 refine mv (vi a) (wS h) ?_
 refine pu (vb (decide (a < 0))) (wS h) ?_
 refine pf (vb (decide (a < 0))) wN h ?_
 refine mw (vb (decide (a < 0))) ?_
 rcases bt (decide (a < 0)) with f | f
 ·have Q := dT f
  iterate 6 refine sk f ?_
  refine pk (vb true) wN f ?_
  refine n2 ?_
  refine ct (Eq.refl true) ?_
  have G : getN3 b a d = (0, 0, false) := by first | exact getN3_f (by omega) | exact getN3_s (by omega) (by omega) (by omega) (by omega)
  exact wj (q G _ (Ch.refl _ _))
 have R := dF f
 refine mv (vi a) (wS f) ?_
 refine mv (vs j b.length l) (wS f) ?_
 refine ln (wS f) slTy_22 s ?_
 refine mv (vi d) (wS f) ?_
 refine ar ((b.length : Int) - d) (wS f) ?_
 refine pu (vb (decide (((b.length : Int) - d) < a))) (wS f) ?_
 refine pf (vb (decide (((b.length : Int) - d) < a))) wN f ?_
 refine n2 ?_
 rcases bt (decide (((b.length : Int) - d) < a)) with o | o
 ·have S := dT o
  refine ct o ?_
  have H : getN3 b a d = (0, 0, false) := by first | exact getN3_f (by omega) | exact getN3_s (by omega) (by omega) (by omega) (by omega)
  exact wj (q H _ (Ch.refl _ _))
 have T := dF o
 refine cf o ?_
 refine y1 ?_
 refine aw (vi 0) ?_
 refine n4 ?_
 refine aw (vi 0) ?_
 refine wl_nil <| wq_then <| wc_block ?_
 refine wc_loopP [(0, (vs j b.length l)), (1, (vi a)), (2, (vi d)), (6, (vi 0)), (7, (vi 0)), (8, (vb false)), (9, (vi (getV ((b.drop a.toNat).take 0) 0))), (10, (vi ((0 : Nat) : Int)))] ⟨rfl, rfl, rfl, rfl, rfl, rfl, (cA (Value.int .i64) (show (0 : Int) = (getV ((b.drop a.toNat).take 0) 0) by rfl)), (cA (Value.int .i64) (show (0 : Int) = ((0 : Nat) : Int) by omega)), trivial⟩ (fun e' m => ∃ (i : Nat) (y : Env), e' = pt y [(0, (vs j b.length l)), (1, (vi a)), (2, (vi d)), (6, (vi 0)), (7, (vi 0)), (8, (vb false)), (9, (vi (getV ((b.drop a.toNat).take i) 0))), (10, (vi ((i : Nat) : Int)))] ∧ Ch (fun k => e.heap.size ≤ k) e m ∧ Ch (fun k => e.heap.size ≤ k) e m ∧ ((i : Nat) : Int) ≤ d) (fun e' _ => (d - (intOf (e' 10))).toNat) ?_ ?_
 ·exact fun u => ⟨0, u, rfl, (Ch.base e), (Ch.refl (fun k => e.heap.size ≤ k) e), (by omega)⟩
 ·rintro _ w ⟨i, y, rfl, r, I, V⟩
  have hgb := getV_b6 (b.drop a.toNat) i (by omega)
  have W : (b.getD (a + ((i : Nat) : Int)).toNat 0).toNat < 256 := UInt8.toNat_lt _
  refine wc_seq <| sr ?_
  refine mw (vi ((i : Nat) : Int)) ?_
  refine mw (vi d) ?_
  refine pu (vb (decide (((i : Nat) : Int) < d))) wN ?_
  refine n2 ?_
  rcases bf (decide (((i : Nat) : Int) < d)) with p | p
  ·have X := dF p
   refine cf p ?_
   refine wc_exit <| wq_then_exit <| wq_then_exit <| wq_blk_exit <| wq_then <| sr ?_
   refine mw (vi (getV ((b.drop a.toNat).take i) 0)) ?_
   refine mw (vi a) ?_
   refine mw (vi d) ?_
   refine ar (a + d) wN ?_
   refine aw (vi (getV ((b.drop a.toNat).take i) 0)) ?_
   refine aw (vi (a + d)) ?_
   refine aw (vb true) ?_
   refine n3 ?_
   refine ret_3 (.inl rfl) (vi (getV ((b.drop a.toNat).take i) 0)) (vi (a + d)) (vb true) rfl rfl rfl rfl ?_
   refine ⟨r.keep0, ?_⟩
   have J : getN3 b a d = ((getV ((b.drop a.toNat).take i) 0), (a + d), true) := by first | exact getN3_f (by omega) | exact getN3_s (by omega) (by omega) (by omega) (by omega)
   rw [J]
   exact rfl
  have Y := dT p
  refine ct p ?_
  refine wc_skip <| wq_then <| wc_seq <| wc_block <| wc_region ?_
  refine mw (vi (getV ((b.drop a.toNat).take i) 0)) ?_
  refine ar ((getV ((b.drop a.toNat).take i) 0) * 256) wN ?_
  refine mw (vs j b.length l) ?_
  refine mw (vi a) ?_
  refine mw (vi ((i : Nat) : Int)) ?_
  refine ar (a + ((i : Nat) : Int)) wN ?_
  refine ix wN (a + ((i : Nat) : Int)) slTy_22 (s.from0 r) ?_
  refine eb (x := b) (((a + ((i : Nat) : Int))).toNat) wN isAgg_5 (s.from0 r) ?_
  refine ar ((b.getD ((a + ((i : Nat) : Int))).toNat 0).toNat : Int) wN ?_
  refine ar (((getV ((b.drop a.toNat).take i) 0) * 256) + ((b.getD ((a + ((i : Nat) : Int))).toNat 0).toNat : Int)) wN ?_
  refine aw (vi (((getV ((b.drop a.toNat).take i) 0) * 256) + ((b.getD ((a + ((i : Nat) : Int))).toNat 0).toNat : Int))) ?_
  refine wl_nil <| wq_blk_normal <| wq_then <| wc_region ?_
  refine mw (vi ((i : Nat) : Int)) ?_
  refine ar (((i : Nat) : Int) + 1) wN ?_
  refine aw (vi (((i : Nat) : Int) + 1)) ?_
  refine wl_nil ?_
  refine wq_loopP (w0 := w) [(0, (vs j b.length l)), (1, (vi a)), (2, (vi d)), (6, (vi 0)), (7, (vi 0)), (8, (vb false)), (9, (vi (getV ((b.drop a.toNat).take (i + 1)) 0))), (10, (vi (((i + 1) : Nat) : Int)))] ?_ ?_ ?_
  · exact ⟨rfl, rfl, rfl, rfl, rfl, rfl, (cA (Value.int .i64) (show ((((getV ((b.drop a.toNat).take i) 0) * 256) + ((b.getD ((a + ((i : Nat) : Int))).toNat 0).toNat : Int)) : Int) = (getV ((b.drop a.toNat).take (i + 1)) 0) by exact getV_nexts (by omega) (by omega))), (cA (Value.int .i64) (show ((((i : Nat) : Int) + 1) : Int) = (((i + 1) : Nat) : Int) by omega)), trivial⟩
  · exact fun u => ⟨(i + 1), u, rfl, r, ((Ch.refl (fun k => e.heap.size ≤ k) e).ext I (fun k hk => hk)), (by omega)⟩
  · show (d - (((i + 1) : Nat) : Int)).toNat < (d - ((i : Nat) : Int)).toNat; omega

theorem csRot (i : World) (e : Int) (d : Int) (x : 1 ≤ d) (y : d ≤ 31) : Fn Tryz.prog 162 #[(vi e), (vi d)] i (fun v l => Keep i l ∧ O_3 l i.heap.size v (rot e d)) := by
 refine fn_ofS (n := 24) [(vi e), (vi d)] Tryz.func162 rfl rfl ?_
 refine sr ?_
 refine aw (vi 0) ?_
 refine nx ?_
 refine mw (vi e) ?_
 refine wl_and e 4294967295 4294967296 32 wN rfl rfl (by decide) (by decide) (by decide) (by kernel_rfl) ?_
 refine aw (vi (e % 4294967296)) ?_
 refine n4 ?_
 refine jT1 [(1, (vi d)), (4, (vi 0)), (5, (vi (e % 4294967296)))] (rot e d = (e % 4294967296)) ?_ fun m => ?_
 ·intro o f p A
  have q := (Ch.base i).extk p
  refine sr ?_
  refine mw (vi (e % 4294967296)) ?_
  refine aw (vi (e % 4294967296)) ?_
  refine n1 ?_
  refine rt (vi (e % 4294967296)) ?_
  refine ⟨q.keep0, ?_⟩
  rw [o]
  exact rfl
 refine mw (vi d) ?_
 refine pu (vb (decide (d < 1))) wN ?_
 refine mw (vb (decide (d < 1))) ?_
 rcases bt (decide (d < 1)) with g | g
 ·have B := dT g
  iterate 2 refine sk g ?_
  refine pk (vb true) wN g ?_
  refine n2 ?_
  refine ct (Eq.refl true) ?_
  have r : rot e d = (e % 4294967296) := by first | rfl | (exfalso; omega)
  exact wj (m r _ (Ch.refl _ _))
 have C := dF g
 refine mv (vi d) (wS g) ?_
 refine pu (vb (decide (31 < d))) (wS g) ?_
 refine pf (vb (decide (31 < d))) wN g ?_
 refine n2 ?_
 rcases bt (decide (31 < d)) with j | j
 ·have D := dT j
  refine ct j ?_
  have s : rot e d = (e % 4294967296) := by first | rfl | (exfalso; omega)
  exact wj (m s _ (Ch.refl _ _))
 have E := dF j
 refine cf j ?_
 refine wc_skip <| wq_then <| wc_seq ?_
 refine wc_drawT ([(15, [], [], (fun _ v _ => v = (vi (e % 4294967296)))), (16, [], [], (fun _ v _ => v = (vi d))), (17, [], [0, 1], (fun _ v _ => v = (vi ((e % 4294967296) / (2 : Int) ^ (d).toNat)))), (18, [], [], (fun _ v _ => v = (vi (e % 4294967296)))), (19, [], [], (fun _ v _ => v = (vi d))), (20, [], [4], (fun _ v _ => v = (vi (32 - d)))), (21, [], [3, 4, 5], (fun _ v _ => v = (vi ((e % 4294967296) * (2 : Int) ^ ((32 - d)).toNat))))] : GV) (fun _ l => Keep i l) [] mixed rfl (by kernel_rfl) (by kernel_rfl) ?_ (fun _ _ h => h) (fun _ _ _ _ h _ k => h.trans k) trivial ?_ ?_ ?_
 ·exact ⟨hV, hE, ⟨hV, hE, ⟨hV, hE, ⟨hV, hE, ⟨hV, hE, ⟨hV, hE, ⟨hV, hE, trivial⟩⟩⟩⟩⟩⟩⟩
 ·exact trivial
 ·refine ⟨?_, ⟨?_, ⟨?_, ⟨?_, ⟨?_, ⟨?_, ⟨?_, trivial⟩⟩⟩⟩⟩⟩⟩
  ·intro _ f F _
   rintro _ _ _ _ _ _ _
   show WL _ _ _ _ _ _ _
   refine mw (vi (e % 4294967296)) ?_
   exact f1
  ·intro _ f G _
   rintro _ _ _ _ _ _ _
   show WL _ _ _ _ _ _ _
   refine mw (vi d) ?_
   exact f1
  ·intro _ f H _
   rintro _ rfl _ rfl _ _ _ _ _
   show WL _ _ _ _ _ _ _
   refine wl_shr (e % 4294967296) d wN rfl rfl rfl rfl rfl (by omega) (by omega) ?_
   have I := shr_b (a := (e % 4294967296)) (by omega) (d).toNat
   exact f1
  ·intro _ f J _
   rintro _ _ _ _ _ _ _
   show WL _ _ _ _ _ _ _
   refine mw (vi (e % 4294967296)) ?_
   exact f1
  ·intro _ f K _
   rintro _ _ _ _ _ _ _
   show WL _ _ _ _ _ _ _
   refine mw (vi d) ?_
   exact f1
  ·intro _ f L _
   rintro _ _ _ _ _ rfl _ _
   show WL _ _ _ _ _ _ _
   refine ar (32 - d) wN ?_
   exact f1
  ·intro _ f M _
   rintro _ _ _ _ rfl _ rfl _ rfl _
   show WL _ _ _ _ _ _ _
   refine wl_shl (e % 4294967296) (32 - d) wN rfl rfl rfl rfl rfl (by omega) (by omega) (by omega) (by omega) ?_
   have N := shl_b (a := (e % 4294967296)) (n := ((32 - d)).toNat) (by omega) (by omega) (by omega)
   exact f1
 ·intro _ f t
  have u := (Ch.base i).extk t
  rintro _ rfl _ rfl _ rfl
  have O := shr_b (a := (e % 4294967296)) (by omega) (d).toNat
  rintro _ rfl _ rfl _ rfl _ rfl
  have P := shl_b (a := (e % 4294967296)) (n := ((32 - d)).toNat) (by omega) (by omega) (by omega)
  show WL _ _ _ _ _ _ _
  refine wl_or ((e % 4294967296) / (2 : Int) ^ (d).toNat) ((e % 4294967296) * (2 : Int) ^ ((32 - d)).toNat) wN rfl rfl (by kernel_rfl) (by omega) (by omega) (by omega) (by omega) ?_
  have Q := orI_p (a := ((e % 4294967296) / (2 : Int) ^ (d).toNat)) (b := ((e % 4294967296) * (2 : Int) ^ ((32 - d)).toNat)) (by omega) (by omega)
  refine wl_and (orI ((e % 4294967296) / (2 : Int) ^ (d).toNat) ((e % 4294967296) * (2 : Int) ^ ((32 - d)).toNat)) 4294967295 4294967296 32 wN rfl rfl (by decide) (by decide) (by decide) (by kernel_rfl) ?_
  refine aw (vi ((orI ((e % 4294967296) / (2 : Int) ^ (d).toNat) ((e % 4294967296) * (2 : Int) ^ ((32 - d)).toNat)) % 4294967296)) ?_
  refine n3 ?_
  refine rt (vi ((orI ((e % 4294967296) / (2 : Int) ^ (d).toNat) ((e % 4294967296) * (2 : Int) ^ ((32 - d)).toNat)) % 4294967296)) ?_
  refine ⟨u.keep0, ?_⟩
  have w : rot e d = ((orI ((e % 4294967296) / (2 : Int) ^ (d).toNat) ((e % 4294967296) * (2 : Int) ^ ((32 - d)).toNat)) % 4294967296) := by first | rfl | (exfalso; omega)
  rw [w]
  exact rfl
end Go.Proofs.YtpcpjeaighehhaaGreat.K
