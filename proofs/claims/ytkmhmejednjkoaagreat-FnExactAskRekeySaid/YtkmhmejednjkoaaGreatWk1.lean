import Derived.Test.YtkmhmejednjkoaaGreatCore
import Derived.Test.YtkmhmejednjkoaaGreatProg
import Derived.Test.YtkmhmejednjkoaaGreatHeld
import Derived.Test.YtkmhmejednjkoaaGreatFun
import Derived.Test.YtkmhmejednjkoaaGreatFunZ
import Derived.Test.YtkmhmejednjkoaaGreatSqz
import Derived.Test.YtkmhmejednjkoaaGreatHash
import Derived.Test.YtkmhmejednjkoaaGreatAead
namespace Go.Proofs.YtkmhmejednjkoaaGreat.K
open Go.RowKit
set_option linter.unusedVariables false
set_option linter.unusedSimpArgs false
set_option maxRecDepth 100000
set_option maxHeartbeats 4000000
def tot_PWin (x : PWin) : Int := (x.Bits.length : Int)
def tot_PEp (x : PEp) : Int := (x.Key.length : Int) + tot_PWin x.Win
def tot_PChan (x : PChan) : Int := (x.Sn.length : Int) + tot_PEp x.Cur + tot_PEp x.Old + (x.Next.length : Int)
def mk_PChan (x : PChan) (k : Int) : PChan := { Role := x.Role, Sn := marksB k x.Sn.length, Cur := { N := x.Cur.N, Key := marksB (k + (x.Sn.length : Int)) x.Cur.Key.length, Seq := x.Cur.Seq, Win := { Top := x.Cur.Win.Top, Bits := marksI ((k + (x.Sn.length : Int)) + (x.Cur.Key.length : Int)) x.Cur.Win.Bits.length : PWin } : PEp }, Old := { N := x.Old.N, Key := marksB ((k + (x.Sn.length : Int)) + tot_PEp x.Cur) x.Old.Key.length, Seq := x.Old.Seq, Win := { Top := x.Old.Win.Top, Bits := marksI (((k + (x.Sn.length : Int)) + tot_PEp x.Cur) + (x.Old.Key.length : Int)) x.Old.Win.Bits.length : PWin } : PEp }, HasOld := x.HasOld, Until := x.Until, Next := marksB (((k + (x.Sn.length : Int)) + tot_PEp x.Cur) + tot_PEp x.Old) x.Next.length : PChan }
abbrev L_35 (x : PChan) (a : Option Addr) (b : Nat) (d : Option Addr) (e : Nat) (f : Option Addr) (g : Nat) (h : Option Addr) (i : Nat) (j : Option Addr) (k : Nat) (l : Option Addr) (m : Nat) : List Value := [vi x.Role, vs a x.Sn.length b, vi x.Cur.N, vs d x.Cur.Key.length e, vi x.Cur.Seq, vi x.Cur.Win.Top, vs f x.Cur.Win.Bits.length g, vi x.Old.N, vs h x.Old.Key.length i, vi x.Old.Seq, vi x.Old.Win.Top, vs j x.Old.Win.Bits.length k, vb x.HasOld, vi x.Until, vs l x.Next.length m]
def tot_PFrame (x : PFrame) : Int := (x.Cn.length : Int) + (x.Sn.length : Int) + (x.Cookie.length : Int) + (x.Proof.length : Int) + (x.Body.length : Int) + (x.Tag.length : Int)
def mk_PFrame (x : PFrame) (k : Int) : PFrame := { Kind := x.Kind, Id := x.Id, Cn := marksB k x.Cn.length, Sn := marksB (k + (x.Cn.length : Int)) x.Sn.length, Tick := x.Tick, Cookie := marksB ((k + (x.Cn.length : Int)) + (x.Sn.length : Int)) x.Cookie.length, Proof := marksB (((k + (x.Cn.length : Int)) + (x.Sn.length : Int)) + (x.Cookie.length : Int)) x.Proof.length, Epoch := x.Epoch, Seq := x.Seq, Body := marksB ((((k + (x.Cn.length : Int)) + (x.Sn.length : Int)) + (x.Cookie.length : Int)) + (x.Proof.length : Int)) x.Body.length, Tag := marksB (((((k + (x.Cn.length : Int)) + (x.Sn.length : Int)) + (x.Cookie.length : Int)) + (x.Proof.length : Int)) + (x.Body.length : Int)) x.Tag.length : PFrame }
abbrev L_37 (x : PFrame) (a : Option Addr) (b : Nat) (d : Option Addr) (e : Nat) (f : Option Addr) (g : Nat) (h : Option Addr) (i : Nat) (j : Option Addr) (k : Nat) (l : Option Addr) (m : Nat) : List Value := [vi x.Kind, vi x.Id, vs a x.Cn.length b, vs d x.Sn.length e, vi x.Tick, vs f x.Cookie.length g, vs h x.Proof.length i, vi x.Epoch, vi x.Seq, vs j x.Body.length k, vs l x.Tag.length m]
def mk_PEp (x : PEp) (k : Int) : PEp := { N := x.N, Key := marksB k x.Key.length, Seq := x.Seq, Win := { Top := x.Win.Top, Bits := marksI (k + (x.Key.length : Int)) x.Win.Bits.length : PWin } : PEp }
abbrev L_33 (x : PEp) (a : Option Addr) (b : Nat) (d : Option Addr) (e : Nat) : List Value := [vi x.N, vs a x.Key.length b, vi x.Seq, vi x.Win.Top, vs d x.Win.Bits.length e]
def mk_PWin (x : PWin) (k : Int) : PWin := { Top := x.Top, Bits := marksI k x.Bits.length : PWin }
abbrev L_31 (x : PWin) (a : Option Addr) (b : Nat) : List Value := [vi x.Top, vs a x.Bits.length b]
theorem slTy_22 : SlTy Tryz.prog 22 5 1 1 (v8 0) := slTy Tryz.underlying22 (by kernel_rfl) rfl rfl
def R_35 (w : World) (v : Value) (x : (PChan)) : Prop := ∃ (a : Option Addr) (b : Nat) (d : Option Addr) (e : Nat) (f : Option Addr) (g : Nat) (h : Option Addr) (i : Nat) (j : Option Addr) (k : Nat) (l : Option Addr) (m : Nat), v = .agg #[.int .i64 x.Role, .slice a x.Sn.length b, .int .i64 x.Cur.N, .slice d x.Cur.Key.length e, .int .i64 x.Cur.Seq, .int .i64 x.Cur.Win.Top, .slice f x.Cur.Win.Bits.length g, .int .i64 x.Old.N, .slice h x.Old.Key.length i, .int .i64 x.Old.Seq, .int .i64 x.Old.Win.Top, .slice j x.Old.Win.Bits.length k, .bool x.HasOld, .int .i64 x.Until, .slice l x.Next.length m] ∧ Rd w 1 (.slice a x.Sn.length b) x.Sn.length (x.Sn.map bV) ∧ x.Sn.length ≤ 1073741824 ∧ Rd w 1 (.slice d x.Cur.Key.length e) x.Cur.Key.length (x.Cur.Key.map bV) ∧ x.Cur.Key.length ≤ 1073741824 ∧ Rd w 1 (.slice f x.Cur.Win.Bits.length g) x.Cur.Win.Bits.length (x.Cur.Win.Bits.map iV) ∧ x.Cur.Win.Bits.length ≤ 1073741824 ∧ Rd w 1 (.slice h x.Old.Key.length i) x.Old.Key.length (x.Old.Key.map bV) ∧ x.Old.Key.length ≤ 1073741824 ∧ Rd w 1 (.slice j x.Old.Win.Bits.length k) x.Old.Win.Bits.length (x.Old.Win.Bits.map iV) ∧ x.Old.Win.Bits.length ≤ 1073741824 ∧ Rd w 1 (.slice l x.Next.length m) x.Next.length (x.Next.map bV) ∧ x.Next.length ≤ 1073741824
theorem mkR_35 {w : World} {x : PChan} {k : Int} {a : Option Addr} {b : Nat} {d : Option Addr} {e : Nat} {f : Option Addr} {g : Nat} {h : Option Addr} {i : Nat} {j : Option Addr} {l : Nat} {m : Option Addr} {o : Nat} (p : Rd w 1 (.slice a x.Sn.length b) x.Sn.length ((marksB k x.Sn.length).map bV)) (q : x.Sn.length ≤ 1073741824) (r : Rd w 1 (.slice d x.Cur.Key.length e) x.Cur.Key.length ((marksB (k + (x.Sn.length : Int)) x.Cur.Key.length).map bV)) (s : x.Cur.Key.length ≤ 1073741824) (t : Rd w 1 (.slice f x.Cur.Win.Bits.length g) x.Cur.Win.Bits.length ((marksI ((k + (x.Sn.length : Int)) + (x.Cur.Key.length : Int)) x.Cur.Win.Bits.length).map iV)) (u : x.Cur.Win.Bits.length ≤ 1073741824) (v : Rd w 1 (.slice h x.Old.Key.length i) x.Old.Key.length ((marksB ((k + (x.Sn.length : Int)) + tot_PEp x.Cur) x.Old.Key.length).map bV)) (y : x.Old.Key.length ≤ 1073741824) (A : Rd w 1 (.slice j x.Old.Win.Bits.length l) x.Old.Win.Bits.length ((marksI (((k + (x.Sn.length : Int)) + tot_PEp x.Cur) + (x.Old.Key.length : Int)) x.Old.Win.Bits.length).map iV)) (B : x.Old.Win.Bits.length ≤ 1073741824) (C : Rd w 1 (.slice m x.Next.length o) x.Next.length ((marksB (((k + (x.Sn.length : Int)) + tot_PEp x.Cur) + tot_PEp x.Old) x.Next.length).map bV)) (D : x.Next.length ≤ 1073741824) : R_35 w (va (L_35 x a b d e f g h i j l m o)) (mk_PChan x k) := ⟨_, _, _, _, _, _, _, _, _, _, _, _, by simp only [mk_PChan, marksB_len, marksI_len]; try rfl, by simpa only [mk_PChan, marksB_len, marksI_len] using p, by simpa only [mk_PChan, marksB_len, marksI_len] using q, by simpa only [mk_PChan, marksB_len, marksI_len] using r, by simpa only [mk_PChan, marksB_len, marksI_len] using s, by simpa only [mk_PChan, marksB_len, marksI_len] using t, by simpa only [mk_PChan, marksB_len, marksI_len] using u, by simpa only [mk_PChan, marksB_len, marksI_len] using v, by simpa only [mk_PChan, marksB_len, marksI_len] using y, by simpa only [mk_PChan, marksB_len, marksI_len] using A, by simpa only [mk_PChan, marksB_len, marksI_len] using B, by simpa only [mk_PChan, marksB_len, marksI_len] using C, by simpa only [mk_PChan, marksB_len, marksI_len] using D⟩
theorem mkR_35_b {x : PChan} (a : x.Sn.length ≤ 1073741824) (b : x.Cur.Key.length ≤ 1073741824) (d : x.Cur.Win.Bits.length ≤ 1073741824) (e : x.Old.Key.length ≤ 1073741824) (f : x.Old.Win.Bits.length ≤ 1073741824) (g : x.Next.length ≤ 1073741824) : 0 ≤ tot_PChan x ∧ tot_PChan x ≤ 6442450944 := by
  simp only [tot_PChan, tot_PEp, tot_PWin]
  omega
def R_37 (w : World) (v : Value) (x : (PFrame)) : Prop := ∃ (a : Option Addr) (b : Nat) (d : Option Addr) (e : Nat) (f : Option Addr) (g : Nat) (h : Option Addr) (i : Nat) (j : Option Addr) (k : Nat) (l : Option Addr) (m : Nat), v = .agg #[.int .i64 x.Kind, .int .i64 x.Id, .slice a x.Cn.length b, .slice d x.Sn.length e, .int .i64 x.Tick, .slice f x.Cookie.length g, .slice h x.Proof.length i, .int .i64 x.Epoch, .int .i64 x.Seq, .slice j x.Body.length k, .slice l x.Tag.length m] ∧ Rd w 1 (.slice a x.Cn.length b) x.Cn.length (x.Cn.map bV) ∧ x.Cn.length ≤ 1073741824 ∧ Rd w 1 (.slice d x.Sn.length e) x.Sn.length (x.Sn.map bV) ∧ x.Sn.length ≤ 1073741824 ∧ Rd w 1 (.slice f x.Cookie.length g) x.Cookie.length (x.Cookie.map bV) ∧ x.Cookie.length ≤ 1073741824 ∧ Rd w 1 (.slice h x.Proof.length i) x.Proof.length (x.Proof.map bV) ∧ x.Proof.length ≤ 1073741824 ∧ Rd w 1 (.slice j x.Body.length k) x.Body.length (x.Body.map bV) ∧ x.Body.length ≤ 1073741824 ∧ Rd w 1 (.slice l x.Tag.length m) x.Tag.length (x.Tag.map bV) ∧ x.Tag.length ≤ 1073741824
theorem mkR_37 {w : World} {x : PFrame} {k : Int} {a : Option Addr} {b : Nat} {d : Option Addr} {e : Nat} {f : Option Addr} {g : Nat} {h : Option Addr} {i : Nat} {j : Option Addr} {l : Nat} {m : Option Addr} {o : Nat} (p : Rd w 1 (.slice a x.Cn.length b) x.Cn.length ((marksB k x.Cn.length).map bV)) (q : x.Cn.length ≤ 1073741824) (r : Rd w 1 (.slice d x.Sn.length e) x.Sn.length ((marksB (k + (x.Cn.length : Int)) x.Sn.length).map bV)) (s : x.Sn.length ≤ 1073741824) (t : Rd w 1 (.slice f x.Cookie.length g) x.Cookie.length ((marksB ((k + (x.Cn.length : Int)) + (x.Sn.length : Int)) x.Cookie.length).map bV)) (u : x.Cookie.length ≤ 1073741824) (v : Rd w 1 (.slice h x.Proof.length i) x.Proof.length ((marksB (((k + (x.Cn.length : Int)) + (x.Sn.length : Int)) + (x.Cookie.length : Int)) x.Proof.length).map bV)) (y : x.Proof.length ≤ 1073741824) (A : Rd w 1 (.slice j x.Body.length l) x.Body.length ((marksB ((((k + (x.Cn.length : Int)) + (x.Sn.length : Int)) + (x.Cookie.length : Int)) + (x.Proof.length : Int)) x.Body.length).map bV)) (B : x.Body.length ≤ 1073741824) (C : Rd w 1 (.slice m x.Tag.length o) x.Tag.length ((marksB (((((k + (x.Cn.length : Int)) + (x.Sn.length : Int)) + (x.Cookie.length : Int)) + (x.Proof.length : Int)) + (x.Body.length : Int)) x.Tag.length).map bV)) (D : x.Tag.length ≤ 1073741824) : R_37 w (va (L_37 x a b d e f g h i j l m o)) (mk_PFrame x k) := ⟨_, _, _, _, _, _, _, _, _, _, _, _, by simp only [mk_PFrame, marksB_len, marksI_len]; try rfl, by simpa only [mk_PFrame, marksB_len, marksI_len] using p, by simpa only [mk_PFrame, marksB_len, marksI_len] using q, by simpa only [mk_PFrame, marksB_len, marksI_len] using r, by simpa only [mk_PFrame, marksB_len, marksI_len] using s, by simpa only [mk_PFrame, marksB_len, marksI_len] using t, by simpa only [mk_PFrame, marksB_len, marksI_len] using u, by simpa only [mk_PFrame, marksB_len, marksI_len] using v, by simpa only [mk_PFrame, marksB_len, marksI_len] using y, by simpa only [mk_PFrame, marksB_len, marksI_len] using A, by simpa only [mk_PFrame, marksB_len, marksI_len] using B, by simpa only [mk_PFrame, marksB_len, marksI_len] using C, by simpa only [mk_PFrame, marksB_len, marksI_len] using D⟩
theorem mkR_37_b {x : PFrame} (a : x.Cn.length ≤ 1073741824) (b : x.Sn.length ≤ 1073741824) (d : x.Cookie.length ≤ 1073741824) (e : x.Proof.length ≤ 1073741824) (f : x.Body.length ≤ 1073741824) (g : x.Tag.length ≤ 1073741824) : 0 ≤ tot_PFrame x ∧ tot_PFrame x ≤ 6442450944 := by
  simp only [tot_PFrame]
  omega
def R_33 (w : World) (v : Value) (x : (PEp)) : Prop := ∃ (a : Option Addr) (b : Nat) (d : Option Addr) (e : Nat), v = .agg #[.int .i64 x.N, .slice a x.Key.length b, .int .i64 x.Seq, .int .i64 x.Win.Top, .slice d x.Win.Bits.length e] ∧ Rd w 1 (.slice a x.Key.length b) x.Key.length (x.Key.map bV) ∧ x.Key.length ≤ 1073741824 ∧ Rd w 1 (.slice d x.Win.Bits.length e) x.Win.Bits.length (x.Win.Bits.map iV) ∧ x.Win.Bits.length ≤ 1073741824
theorem mkR_33 {w : World} {x : PEp} {k : Int} {a : Option Addr} {b : Nat} {d : Option Addr} {e : Nat} (f : Rd w 1 (.slice a x.Key.length b) x.Key.length ((marksB k x.Key.length).map bV)) (g : x.Key.length ≤ 1073741824) (h : Rd w 1 (.slice d x.Win.Bits.length e) x.Win.Bits.length ((marksI (k + (x.Key.length : Int)) x.Win.Bits.length).map iV)) (i : x.Win.Bits.length ≤ 1073741824) : R_33 w (va (L_33 x a b d e)) (mk_PEp x k) := ⟨_, _, _, _, by simp only [mk_PEp, marksB_len, marksI_len]; try rfl, by simpa only [mk_PEp, marksB_len, marksI_len] using f, by simpa only [mk_PEp, marksB_len, marksI_len] using g, by simpa only [mk_PEp, marksB_len, marksI_len] using h, by simpa only [mk_PEp, marksB_len, marksI_len] using i⟩
theorem mkR_33_b {x : PEp} (a : x.Key.length ≤ 1073741824) (b : x.Win.Bits.length ≤ 1073741824) : 0 ≤ tot_PEp x ∧ tot_PEp x ≤ 2147483648 := by
  simp only [tot_PEp, tot_PWin]
  omega
def R_31 (w : World) (v : Value) (x : (PWin)) : Prop := ∃ (a : Option Addr) (b : Nat), v = .agg #[.int .i64 x.Top, .slice a x.Bits.length b] ∧ Rd w 1 (.slice a x.Bits.length b) x.Bits.length (x.Bits.map iV) ∧ x.Bits.length ≤ 1073741824
theorem mkR_31 {w : World} {x : PWin} {k : Int} {a : Option Addr} {b : Nat} (d : Rd w 1 (.slice a x.Bits.length b) x.Bits.length ((marksI k x.Bits.length).map iV)) (e : x.Bits.length ≤ 1073741824) : R_31 w (va (L_31 x a b)) (mk_PWin x k) := ⟨_, _, by simp only [mk_PWin, marksB_len, marksI_len]; try rfl, by simpa only [mk_PWin, marksB_len, marksI_len] using d, by simpa only [mk_PWin, marksB_len, marksI_len] using e⟩
theorem mkR_31_b {x : PWin} (a : x.Bits.length ≤ 1073741824) : 0 ≤ tot_PWin x ∧ tot_PWin x ≤ 1073741824 := by
  simp only [tot_PWin]
  omega
def Q_22 (w : World) (v : Value) (x : (List UInt8)) : Prop := ∃ (a : Option Addr) (b : Nat), v = .slice a x.length b ∧ Rd w 1 (.slice a x.length b) x.length (x.map bV) ∧ x.length ≤ 9223372036854775807
def O_3 (w : World) (lo : Nat) (v : Value) (x : (Int)) : Prop := v = .int .i64 x
def l_szByteS (a : List UInt8) (b : Int) : (Int) := bif (decide ((b - (a.length : Int)) < 0)) then ((-1)) else ((b - (a.length : Int)))
theorem clszByteS (e : World) (f : Value) (b : List UInt8) (j : Q_22 e f b) (a : Int) (l : 0 ≤ a) (m : a ≤ 1048576) : Fn Tryz.prog 44 #[f, (vi a)] e (fun v g => Keep e g ∧ O_3 g e.heap.size v (l_szByteS b a)) := by
 obtain ⟨h, i, rfl, k, o⟩ := j
 refine fn_ofS (n := 12) [(vs h b.length i), (vi a)] Tryz.func44 rfl rfl ?_
 refine sr ?_
 refine aw (vi 0) ?_
 refine nx ?_
 refine mw (vi a) ?_
 refine mw (vs h b.length i) ?_
 refine ln wN slTy_22 k ?_
 refine ar (a - (b.length : Int)) wN ?_
 refine aw (vi (a - (b.length : Int))) ?_
 refine n4 ?_
 refine mw (vi (a - (b.length : Int))) ?_
 refine pu (vb (decide ((a - (b.length : Int)) < 0))) wN ?_
 refine n2 ?_
 rcases bt (decide ((a - (b.length : Int)) < 0)) with d | d
 ·have p := dT d
  refine ct d ?_
  refine sr ?_
  refine aw (vi (-1)) ?_
  refine n1 ?_
  refine rt (vi (-1)) ?_
  refine ⟨Ch.refl _ _, ?_⟩
  simp only [l_szByteS, d, cond_true, cond_false]
  exact rfl
 have q := dF d
 refine cf d ?_
 refine y1 ?_
 refine mw (vi (a - (b.length : Int))) ?_
 refine aw (vi (a - (b.length : Int))) ?_
 refine n3 ?_
 refine rt (vi (a - (b.length : Int))) ?_
 refine ⟨Ch.refl _ _, ?_⟩
 simp only [l_szByteS, d, cond_true, cond_false]
 exact rfl
theorem laws_szByteS_le (x : List UInt8) (l : Int) : l_szByteS x l = -1 ∨ (l_szByteS x l = l - ((x.length : Int)) ∧ (0 ≤ l_szByteS x l ∨ l < 0 ∨ False)) := by

  simp only [l_szByteS, cond_eq_ite, decide_eq_true_eq]
  (repeat' split) <;> omega

theorem slTy_23 : SlTy Tryz.prog 23 3 1 8 (vi 0) := slTy Tryz.underlying23 (by kernel_rfl) rfl rfl
def Q_23 (w : World) (v : Value) (x : (List Int)) : Prop := ∃ (a : Option Addr) (b : Nat), v = .slice a x.length b ∧ Rd w 1 (.slice a x.length b) x.length (x.map iV) ∧ x.length ≤ 9223372036854775807
def l_szIntS (a : List Int) (b : Int) : (Int) := bif (decide ((b - (a.length : Int)) < 0)) then ((-1)) else ((b - (a.length : Int)))
theorem clszIntS (e : World) (f : Value) (b : List Int) (j : Q_23 e f b) (a : Int) (l : 0 ≤ a) (m : a ≤ 1048576) : Fn Tryz.prog 123 #[f, (vi a)] e (fun v g => Keep e g ∧ O_3 g e.heap.size v (l_szIntS b a)) := by
 obtain ⟨h, i, rfl, k, o⟩ := j
 refine fn_ofS (n := 12) [(vs h b.length i), (vi a)] Tryz.func123 rfl rfl ?_
 refine sr ?_
 refine aw (vi 0) ?_
 refine nx ?_
 refine mw (vi a) ?_
 refine mw (vs h b.length i) ?_
 refine ln wN slTy_23 k ?_
 refine ar (a - (b.length : Int)) wN ?_
 refine aw (vi (a - (b.length : Int))) ?_
 refine n4 ?_
 refine mw (vi (a - (b.length : Int))) ?_
 refine pu (vb (decide ((a - (b.length : Int)) < 0))) wN ?_
 refine n2 ?_
 rcases bt (decide ((a - (b.length : Int)) < 0)) with d | d
 ·have p := dT d
  refine ct d ?_
  refine sr ?_
  refine aw (vi (-1)) ?_
  refine n1 ?_
  refine rt (vi (-1)) ?_
  refine ⟨Ch.refl _ _, ?_⟩
  simp only [l_szIntS, d, cond_true, cond_false]
  exact rfl
 have q := dF d
 refine cf d ?_
 refine y1 ?_
 refine mw (vi (a - (b.length : Int))) ?_
 refine aw (vi (a - (b.length : Int))) ?_
 refine n3 ?_
 refine rt (vi (a - (b.length : Int))) ?_
 refine ⟨Ch.refl _ _, ?_⟩
 simp only [l_szIntS, d, cond_true, cond_false]
 exact rfl
theorem laws_szIntS_le (x : List Int) (l : Int) : l_szIntS x l = -1 ∨ (l_szIntS x l = l - ((x.length : Int)) ∧ (0 ≤ l_szIntS x l ∨ l < 0 ∨ False)) := by

  simp only [l_szIntS, cond_eq_ite, decide_eq_true_eq]
  (repeat' split) <;> omega

theorem isAgg_23 : ∀ w, (isAgg 23).run Tryz.prog w = .ok false w := fun w => by kernel_rfl
def Q_25 (w : World) (v : Value) (x : (PWin)) : Prop := ∃ (a : Option Addr) (b : Nat), v = .agg #[.int .i64 x.Top, .slice a x.Bits.length b] ∧ Rd w 1 (.slice a x.Bits.length b) x.Bits.length (x.Bits.map iV) ∧ x.Bits.length ≤ 9223372036854775807
theorem mQ_23 {w : World} {x : List Int} {a : Option Addr} {b : Nat} (d : Rd w 1 (.slice a x.length b) x.length (x.map iV)) (e : x.length ≤ 9223372036854775807) : Q_23 w (vs a x.length b) x := ⟨_, _, rfl, d, e⟩
def l_szWin (a : PWin) (b : Int) : (Int) := bif (decide ((l_szIntS a.Bits b) < 0)) then ((-1)) else ((l_szIntS a.Bits b))
theorem clszWin (e : World) (h : Value) (b : PWin) (l : Q_25 e h b) (a : Int) (u : 0 ≤ a) (w : a ≤ 1048576) : Fn Tryz.prog 85 #[h, (vi a)] e (fun v i => Keep e i ∧ O_3 i e.heap.size v (l_szWin b a)) := by
 obtain ⟨f, g, rfl, m, o⟩ := l
 refine fn_ofS (n := 12) [(va (L_31 b f g)), (vi a)] Tryz.func85 rfl rfl ?_
 refine sr ?_
 refine bx (L_31 b f g) wN ?_
 intro p q x y r s
 have j := (Ch.base e).extk r
 refine aw (vi 0) ?_
 refine nx ?_
 refine pu (vp p 1) wN ?_
 refine ld (vs f b.Bits.length g) wN isAgg_23 s ?_
 refine mw (vi a) ?_
 refine cl wN (clszIntS q _ b.Bits (mQ_23 (m.from0 j) o) a (by omega) (by omega)) ?_
 rintro _ A ⟨t, rfl⟩
 have k := j.extk t
 have B := laws_szIntS_le b.Bits a
 refine aw (vi (l_szIntS b.Bits a)) ?_
 refine n4 ?_
 refine mw (vi (l_szIntS b.Bits a)) ?_
 refine pu (vb (decide ((l_szIntS b.Bits a) < 0))) wN ?_
 refine n2 ?_
 rcases bt (decide ((l_szIntS b.Bits a) < 0)) with d | d
 ·have C := dT d
  refine ct d ?_
  refine sr ?_
  refine aw (vi (-1)) ?_
  refine n1 ?_
  refine rt (vi (-1)) ?_
  refine ⟨k.keep0, ?_⟩
  simp only [l_szWin, d, cond_true, cond_false]
  exact rfl
 have D := dF d
 refine cf d ?_
 refine y1 ?_
 refine mw (vi (l_szIntS b.Bits a)) ?_
 refine aw (vi (l_szIntS b.Bits a)) ?_
 refine n3 ?_
 refine rt (vi (l_szIntS b.Bits a)) ?_
 refine ⟨k.keep0, ?_⟩
 simp only [l_szWin, d, cond_true, cond_false]
 exact rfl
theorem laws_szWin_le (x : PWin) (l : Int) : l_szWin x l = -1 ∨ (l_szWin x l = l - ((x.Bits.length : Int)) ∧ (0 ≤ l_szWin x l ∨ l < 0 ∨ False)) := by
  have a := laws_szIntS_le x.Bits l
  simp only [l_szWin, cond_eq_ite, decide_eq_true_eq]
  (repeat' split) <;> omega

theorem isAgg_22 : ∀ w, (isAgg 22).run Tryz.prog w = .ok false w := fun w => by kernel_rfl
theorem isAgg_25 : ∀ w, (isAgg 25).run Tryz.prog w = .ok true w := fun w => by kernel_rfl
theorem sizeOf_25 : ∀ w, (sizeOf 25).run Tryz.prog w = .ok 2 w := fun w => by kernel_rfl
abbrev L_25 (x : PWin) (a : Option Addr) (b : Nat) : List Value := [vi x.Top, vs a x.Bits.length b]
def Q_27 (w : World) (v : Value) (x : (PEp)) : Prop := ∃ (a : Option Addr) (b : Nat) (d : Option Addr) (e : Nat), v = .agg #[.int .i64 x.N, .slice a x.Key.length b, .int .i64 x.Seq, .int .i64 x.Win.Top, .slice d x.Win.Bits.length e] ∧ Rd w 1 (.slice a x.Key.length b) x.Key.length (x.Key.map bV) ∧ x.Key.length ≤ 9223372036854775807 ∧ Rd w 1 (.slice d x.Win.Bits.length e) x.Win.Bits.length (x.Win.Bits.map iV) ∧ x.Win.Bits.length ≤ 9223372036854775807
theorem mQ_22 {w : World} {x : List UInt8} {a : Option Addr} {b : Nat} (d : Rd w 1 (.slice a x.length b) x.length (x.map bV)) (e : x.length ≤ 9223372036854775807) : Q_22 w (vs a x.length b) x := ⟨_, _, rfl, d, e⟩
theorem mQ_25 {w : World} {x : PWin} {a : Option Addr} {b : Nat} (d : Rd w 1 (.slice a x.Bits.length b) x.Bits.length (x.Bits.map iV)) (e : x.Bits.length ≤ 9223372036854775807) : Q_25 w (va (L_25 x a b)) x := ⟨_, _, rfl, d, e⟩
def l_szEp (a : PEp) (b : Int) : (Int) := bif (decide ((l_szByteS a.Key b) < 0)) then ((-1)) else (bif (decide ((l_szWin a.Win (l_szByteS a.Key b)) < 0)) then ((-1)) else ((l_szWin a.Win (l_szByteS a.Key b))))
theorem clszEp (f : World) (l : Value) (a : PEp) (t : Q_27 f l a) (b : Int) (F : 0 ≤ b) (G : b ≤ 1048576) : Fn Tryz.prog 45 #[l, (vi b)] f (fun v m => Keep f m ∧ O_3 m f.heap.size v (l_szEp a b)) := by
 obtain ⟨g, h, i, j, rfl, u, w, x, y⟩ := t
 refine fn_ofS (n := 18) [(va (L_33 a g h i j)), (vi b)] Tryz.func45 rfl rfl ?_
 refine sr ?_
 refine bx (L_33 a g h i j) wN ?_
 intro o A H I B p
 have q := (Ch.base f).extk B
 refine aw (vi 0) ?_
 refine nx ?_
 refine pu (vp o 1) wN ?_
 refine ld (vs g a.Key.length h) wN isAgg_22 p ?_
 refine mw (vi b) ?_
 refine cl wN (clszByteS A _ a.Key (mQ_22 (u.from0 q) w) b (by omega) (by omega)) ?_
 rintro _ C ⟨r, rfl⟩
 have k := q.extk r
 have J := laws_szByteS_le a.Key b
 refine aw (vi (l_szByteS a.Key b)) ?_
 refine n4 ?_
 refine mw (vi (l_szByteS a.Key b)) ?_
 refine pu (vb (decide ((l_szByteS a.Key b) < 0))) wN ?_
 refine n2 ?_
 rcases bt (decide ((l_szByteS a.Key b) < 0)) with d | d
 ·have K := dT d
  refine ct d ?_
  refine sr ?_
  refine aw (vi (-1)) ?_
  refine n1 ?_
  refine rt (vi (-1)) ?_
  refine ⟨k.keep0, ?_⟩
  simp only [l_szEp, d, cond_true, cond_false]
  exact rfl
 have L := dF d
 refine cf d ?_
 refine y1 ?_
 refine pu (vp o 3) wN ?_
 have D := (p.kp r)
 refine lN (L_31 a.Win i j) wN isAgg_25 sizeOf_25 D ?_
 refine mw (vi (l_szByteS a.Key b)) ?_
 refine cl wN (clszWin C _ a.Win (mQ_25 (x.from0 k) y) (l_szByteS a.Key b) (by omega) (by omega)) ?_
 rintro _ M ⟨E, rfl⟩
 have s := k.extk E
 have N := laws_szWin_le a.Win (l_szByteS a.Key b)
 refine aw (vi (l_szWin a.Win (l_szByteS a.Key b))) ?_
 refine n4 ?_
 refine mw (vi (l_szWin a.Win (l_szByteS a.Key b))) ?_
 refine pu (vb (decide ((l_szWin a.Win (l_szByteS a.Key b)) < 0))) wN ?_
 refine n2 ?_
 rcases bt (decide ((l_szWin a.Win (l_szByteS a.Key b)) < 0)) with e | e
 ·have O := dT e
  refine ct e ?_
  refine sr ?_
  refine aw (vi (-1)) ?_
  refine n1 ?_
  refine rt (vi (-1)) ?_
  refine ⟨s.keep0, ?_⟩
  simp only [l_szEp, d, e, cond_true, cond_false]
  exact rfl
 have P := dF e
 refine cf e ?_
 refine y1 ?_
 refine mw (vi (l_szWin a.Win (l_szByteS a.Key b))) ?_
 refine aw (vi (l_szWin a.Win (l_szByteS a.Key b))) ?_
 refine n3 ?_
 refine rt (vi (l_szWin a.Win (l_szByteS a.Key b))) ?_
 refine ⟨s.keep0, ?_⟩
 simp only [l_szEp, d, e, cond_true, cond_false]
 exact rfl
theorem laws_szEp_le (x : PEp) (l : Int) : l_szEp x l = -1 ∨ (l_szEp x l = l - ((x.Key.length : Int) + (x.Win.Bits.length : Int)) ∧ (0 ≤ l_szEp x l ∨ l < 0 ∨ False)) := by
  have a := laws_szByteS_le x.Key l
  have b := laws_szWin_le x.Win (l_szByteS x.Key l)
  simp only [l_szEp, cond_eq_ite, decide_eq_true_eq]
  (repeat' split) <;> omega

theorem isAgg_27 : ∀ w, (isAgg 27).run Tryz.prog w = .ok true w := fun w => by kernel_rfl
theorem sizeOf_27 : ∀ w, (sizeOf 27).run Tryz.prog w = .ok 5 w := fun w => by kernel_rfl
abbrev L_27 (x : PEp) (a : Option Addr) (b : Nat) (d : Option Addr) (e : Nat) : List Value := [vi x.N, vs a x.Key.length b, vi x.Seq, vi x.Win.Top, vs d x.Win.Bits.length e]
def Q_29 (w : World) (v : Value) (x : (PChan)) : Prop := ∃ (a : Option Addr) (b : Nat) (d : Option Addr) (e : Nat) (f : Option Addr) (g : Nat) (h : Option Addr) (i : Nat) (j : Option Addr) (k : Nat) (l : Option Addr) (m : Nat), v = .agg #[.int .i64 x.Role, .slice a x.Sn.length b, .int .i64 x.Cur.N, .slice d x.Cur.Key.length e, .int .i64 x.Cur.Seq, .int .i64 x.Cur.Win.Top, .slice f x.Cur.Win.Bits.length g, .int .i64 x.Old.N, .slice h x.Old.Key.length i, .int .i64 x.Old.Seq, .int .i64 x.Old.Win.Top, .slice j x.Old.Win.Bits.length k, .bool x.HasOld, .int .i64 x.Until, .slice l x.Next.length m] ∧ Rd w 1 (.slice a x.Sn.length b) x.Sn.length (x.Sn.map bV) ∧ x.Sn.length ≤ 9223372036854775807 ∧ Rd w 1 (.slice d x.Cur.Key.length e) x.Cur.Key.length (x.Cur.Key.map bV) ∧ x.Cur.Key.length ≤ 9223372036854775807 ∧ Rd w 1 (.slice f x.Cur.Win.Bits.length g) x.Cur.Win.Bits.length (x.Cur.Win.Bits.map iV) ∧ x.Cur.Win.Bits.length ≤ 9223372036854775807 ∧ Rd w 1 (.slice h x.Old.Key.length i) x.Old.Key.length (x.Old.Key.map bV) ∧ x.Old.Key.length ≤ 9223372036854775807 ∧ Rd w 1 (.slice j x.Old.Win.Bits.length k) x.Old.Win.Bits.length (x.Old.Win.Bits.map iV) ∧ x.Old.Win.Bits.length ≤ 9223372036854775807 ∧ Rd w 1 (.slice l x.Next.length m) x.Next.length (x.Next.map bV) ∧ x.Next.length ≤ 9223372036854775807
theorem mQ_27 {w : World} {x : PEp} {a : Option Addr} {b : Nat} {d : Option Addr} {e : Nat} (f : Rd w 1 (.slice a x.Key.length b) x.Key.length (x.Key.map bV)) (g : x.Key.length ≤ 9223372036854775807) (h : Rd w 1 (.slice d x.Win.Bits.length e) x.Win.Bits.length (x.Win.Bits.map iV)) (i : x.Win.Bits.length ≤ 9223372036854775807) : Q_27 w (va (L_27 x a b d e)) x := ⟨_, _, _, _, rfl, f, g, h, i⟩
def l_szChan (a : PChan) (b : Int) : (Int) := bif (decide ((l_szByteS a.Sn b) < 0)) then ((-1)) else (bif (decide ((l_szEp a.Cur (l_szByteS a.Sn b)) < 0)) then ((-1)) else (bif (decide ((l_szEp a.Old (l_szEp a.Cur (l_szByteS a.Sn b))) < 0)) then ((-1)) else (bif (decide ((l_szByteS a.Next (l_szEp a.Old (l_szEp a.Cur (l_szByteS a.Sn b)))) < 0)) then ((-1)) else ((l_szByteS a.Next (l_szEp a.Old (l_szEp a.Cur (l_szByteS a.Sn b))))))))
theorem clszChan (h : World) (B : Value) (a : PChan) (L : Q_29 h B a) (b : Int) (ah : 0 ≤ b) (ai : b ≤ 1048576) : Fn Tryz.prog 8 #[B, (vi b)] h (fun v C => Keep h C ∧ O_3 C h.heap.size v (l_szChan a b)) := by
 obtain ⟨l, m, o, p, q, r, s, t, u, w, x, y, rfl, M, N, O, P, Q, R, S, T, V, W, X, Y⟩ := L
 refine fn_ofS (n := 30) [(va (L_35 a l m o p q r s t u w x y)), (vi b)] Tryz.func8 rfl rfl ?_
 refine sr ?_
 refine bx (L_35 a l m o p q r s t u w x y) wN ?_
 intro i Z aj ak aa D
 have E := (Ch.base h).extk aa
 refine aw (vi 0) ?_
 refine nx ?_
 refine pu (vp i 1) wN ?_
 refine ld (vs l a.Sn.length m) wN isAgg_22 D ?_
 refine mw (vi b) ?_
 refine cl wN (clszByteS Z _ a.Sn (mQ_22 (M.from0 E) N) b (by omega) (by omega)) ?_
 rintro _ ab ⟨F, rfl⟩
 have j := E.extk F
 have am := laws_szByteS_le a.Sn b
 refine aw (vi (l_szByteS a.Sn b)) ?_
 refine n4 ?_
 refine mw (vi (l_szByteS a.Sn b)) ?_
 refine pu (vb (decide ((l_szByteS a.Sn b) < 0))) wN ?_
 refine n2 ?_
 rcases bt (decide ((l_szByteS a.Sn b) < 0)) with d | d
 ·have an := dT d
  refine ct d ?_
  refine sr ?_
  refine aw (vi (-1)) ?_
  refine n1 ?_
  refine rt (vi (-1)) ?_
  refine ⟨j.keep0, ?_⟩
  simp only [l_szChan, d, cond_true, cond_false]
  exact rfl
 have ao := dF d
 refine cf d ?_
 refine y1 ?_
 refine pu (vp i 2) wN ?_
 have G := (D.kp F)
 refine lN (L_33 a.Cur o p q r) wN isAgg_27 sizeOf_27 G ?_
 refine mw (vi (l_szByteS a.Sn b)) ?_
 refine cl wN (clszEp ab _ a.Cur (mQ_27 (O.from0 j) P (Q.from0 j) R) (l_szByteS a.Sn b) (by omega) (by omega)) ?_
 rintro _ ac ⟨H, rfl⟩
 have k := j.extk H
 have ap := laws_szEp_le a.Cur (l_szByteS a.Sn b)
 refine aw (vi (l_szEp a.Cur (l_szByteS a.Sn b))) ?_
 refine n4 ?_
 refine mw (vi (l_szEp a.Cur (l_szByteS a.Sn b))) ?_
 refine pu (vb (decide ((l_szEp a.Cur (l_szByteS a.Sn b)) < 0))) wN ?_
 refine n2 ?_
 rcases bt (decide ((l_szEp a.Cur (l_szByteS a.Sn b)) < 0)) with e | e
 ·have aq := dT e
  refine ct e ?_
  refine sr ?_
  refine aw (vi (-1)) ?_
  refine n1 ?_
  refine rt (vi (-1)) ?_
  refine ⟨k.keep0, ?_⟩
  simp only [l_szChan, d, e, cond_true, cond_false]
  exact rfl
 have au := dF e
 refine cf e ?_
 refine y1 ?_
 refine pu (vp i 7) wN ?_
 have I := (G.kp H)
 refine lN (L_33 a.Old s t u w) wN isAgg_27 sizeOf_27 I ?_
 refine mw (vi (l_szEp a.Cur (l_szByteS a.Sn b))) ?_
 refine cl wN (clszEp ac _ a.Old (mQ_27 (S.from0 k) T (V.from0 k) W) (l_szEp a.Cur (l_szByteS a.Sn b)) (by omega) (by omega)) ?_
 rintro _ ad ⟨J, rfl⟩
 have A := k.extk J
 have av := laws_szEp_le a.Old (l_szEp a.Cur (l_szByteS a.Sn b))
 refine aw (vi (l_szEp a.Old (l_szEp a.Cur (l_szByteS a.Sn b)))) ?_
 refine n4 ?_
 refine mw (vi (l_szEp a.Old (l_szEp a.Cur (l_szByteS a.Sn b)))) ?_
 refine pu (vb (decide ((l_szEp a.Old (l_szEp a.Cur (l_szByteS a.Sn b))) < 0))) wN ?_
 refine n2 ?_
 rcases bt (decide ((l_szEp a.Old (l_szEp a.Cur (l_szByteS a.Sn b))) < 0)) with f | f
 ·have ax := dT f
  refine ct f ?_
  refine sr ?_
  refine aw (vi (-1)) ?_
  refine n1 ?_
  refine rt (vi (-1)) ?_
  refine ⟨A.keep0, ?_⟩
  simp only [l_szChan, d, e, f, cond_true, cond_false]
  exact rfl
 have ay := dF f
 refine cf f ?_
 refine y1 ?_
 refine pu (vp i 14) wN ?_
 have ae := (I.kp J)
 refine ld (vs x a.Next.length y) wN isAgg_22 ae ?_
 refine mw (vi (l_szEp a.Old (l_szEp a.Cur (l_szByteS a.Sn b)))) ?_
 refine cl wN (clszByteS ad _ a.Next (mQ_22 (X.from0 A) Y) (l_szEp a.Old (l_szEp a.Cur (l_szByteS a.Sn b))) (by omega) (by omega)) ?_
 rintro _ az ⟨af, rfl⟩
 have K := A.extk af
 have a0 := laws_szByteS_le a.Next (l_szEp a.Old (l_szEp a.Cur (l_szByteS a.Sn b)))
 refine aw (vi (l_szByteS a.Next (l_szEp a.Old (l_szEp a.Cur (l_szByteS a.Sn b))))) ?_
 refine n4 ?_
 refine mw (vi (l_szByteS a.Next (l_szEp a.Old (l_szEp a.Cur (l_szByteS a.Sn b))))) ?_
 refine pu (vb (decide ((l_szByteS a.Next (l_szEp a.Old (l_szEp a.Cur (l_szByteS a.Sn b)))) < 0))) wN ?_
 refine n2 ?_
 rcases bt (decide ((l_szByteS a.Next (l_szEp a.Old (l_szEp a.Cur (l_szByteS a.Sn b)))) < 0)) with g | g
 ·have a1 := dT g
  refine ct g ?_
  refine sr ?_
  refine aw (vi (-1)) ?_
  refine n1 ?_
  refine rt (vi (-1)) ?_
  refine ⟨K.keep0, ?_⟩
  simp only [l_szChan, d, e, f, g, cond_true, cond_false]
  exact rfl
 have a2 := dF g
 refine cf g ?_
 refine y1 ?_
 refine mw (vi (l_szByteS a.Next (l_szEp a.Old (l_szEp a.Cur (l_szByteS a.Sn b))))) ?_
 refine aw (vi (l_szByteS a.Next (l_szEp a.Old (l_szEp a.Cur (l_szByteS a.Sn b))))) ?_
 refine n3 ?_
 refine rt (vi (l_szByteS a.Next (l_szEp a.Old (l_szEp a.Cur (l_szByteS a.Sn b))))) ?_
 refine ⟨K.keep0, ?_⟩
 simp only [l_szChan, d, e, f, g, cond_true, cond_false]
 exact rfl
theorem laws_szChan_le (x : PChan) (l : Int) : l_szChan x l = -1 ∨ (l_szChan x l = l - ((x.Sn.length : Int) + (x.Cur.Key.length : Int) + (x.Cur.Win.Bits.length : Int) + (x.Old.Key.length : Int) + (x.Old.Win.Bits.length : Int) + (x.Next.length : Int)) ∧ (0 ≤ l_szChan x l ∨ l < 0 ∨ False)) := by
  have a := laws_szByteS_le x.Sn l
  have b := laws_szEp_le x.Cur (l_szByteS x.Sn l)
  have d := laws_szEp_le x.Old (l_szEp x.Cur (l_szByteS x.Sn l))
  have e := laws_szByteS_le x.Next (l_szEp x.Old (l_szEp x.Cur (l_szByteS x.Sn l)))
  simp only [l_szChan, cond_eq_ite, decide_eq_true_eq]
  (repeat' split) <;> omega

theorem isAgg_5 : ∀ w, (isAgg 5).run Tryz.prog w = .ok false w := fun w => by kernel_rfl
theorem sizeOf_5 : ∀ w, (sizeOf 5).run Tryz.prog w = .ok 1 w := fun w => by kernel_rfl
def R_22 (w : World) (v : Value) (x : (List UInt8)) : Prop := ∃ (a : Option Addr) (b : Nat), v = .slice a x.length b ∧ Rd w 1 (.slice a x.length b) x.length (x.map bV) ∧ x.length ≤ 1073741824
def O_22 (w : World) (lo : Nat) (v : Value) (x : (List UInt8)) : Prop := ∃ (a : Option Addr) (b : Nat), v = .slice a x.length b ∧ w.ownsRow lo 5 1 (.slice a x.length b) x.length (x.map bV) ∧ x.length ≤ 1073741824 ∧ Aps [(a, b)]
theorem cltoByteS (b : World) (q : Value) (a : List UInt8) (w : R_22 b q a)  : Fn Tryz.prog 11 #[q] b (fun v h => Keep b h ∧ O_22 h b.heap.size v (cpB a)) := by
 obtain ⟨f, g, rfl, l, I⟩ := w
 refine fn_ofS (n := 22) [(vs f a.length g)] Tryz.func11 rfl rfl ?_
 refine sr ?_
 refine aw (vs none 0 0) ?_
 refine nx ?_
 refine mw (vs f a.length g) ?_
 refine ln wN slTy_22 l ?_
 refine wl_makeB (a.length) wN rfl rfl rfl slTy_22 (a.length : Int) rfl (by omega) (by first | (simp only [List.length_append, List.length_cons, List.length_nil, List.length_replicate, List.length_take, List.length_drop]; omega) | omega) (by first | (simp only [List.length_append, List.length_cons, List.length_nil, List.length_replicate, List.length_take, List.length_drop]; omega) | omega) ?_
 intro d e o y p
 have A := (Ch.base b).extk y
 refine aw (vs d (List.replicate a.length (0 : UInt8)).length e) ?_
 refine n4 ?_
 refine aw (vi 0) ?_
 refine wl_nil <| wq_then <| wc_block ?_
 have B : ((List.replicate a.length (0 : UInt8)) : List UInt8) = a.take 0 ++ List.replicate (a.length - 0) (0 : UInt8) := by first | exact cpB_next (by omega) | simp
 refine wc_loopP [(0, (vs f a.length g)), (2, (vs none 0 0)), (3, (vs d (List.replicate a.length (0 : UInt8)).length e)), (4, (vi ((0 : Nat) : Int)))] ⟨rfl, rfl, rfl, (cA (Value.int .i64) (show (0 : Int) = ((0 : Nat) : Int) by omega)), trivial⟩ (fun e' h => ∃ (k : Nat) (r : Env), e' = pt r [(0, (vs f a.length g)), (2, (vs none 0 0)), (3, (vs d (List.replicate a.length (0 : UInt8)).length e)), (4, (vi ((k : Nat) : Int)))] ∧ Ch (fun k => b.heap.size ≤ k) b h ∧ Ch (fun k => b.heap.size ≤ k) o h ∧ k ≤ a.length ∧ World.ownsRow h b.heap.size 5 1 (.slice d (List.replicate a.length (0 : UInt8)).length e) (List.replicate a.length (0 : UInt8)).length ((a.take k ++ List.replicate (a.length - k) (0 : UInt8)).map bV)) (fun e' _ => a.length - ((intOf (e' 4))).toNat) ?_ ?_
 ·exact fun u => ⟨0, u, rfl, A, (Ch.refl (fun k => b.heap.size ≤ k) o), (by omega), (by rw [← B]; exact p)⟩
 ·rintro _ C ⟨k, r, rfl, i, D, J, m⟩
  refine wc_seq <| sr ?_
  refine mw (vi ((k : Nat) : Int)) ?_
  refine mw (vs f a.length g) ?_
  refine ln wN slTy_22 (l.from0 i) ?_
  refine pu (vb (decide (((k : Nat) : Int) < (a.length : Int)))) wN ?_
  refine n2 ?_
  rcases bf (decide (((k : Nat) : Int) < (a.length : Int))) with j | j
  ·have K := dF j
   refine cf j ?_
   refine wc_exit <| wq_then_exit <| wq_then_exit <| wq_blk_exit <| wq_then <| sr ?_
   refine mw (vs d (List.replicate a.length (0 : UInt8)).length e) ?_
   refine aw (vs d (List.replicate a.length (0 : UInt8)).length e) ?_
   refine n3 ?_
   refine rt (vs d (List.replicate a.length (0 : UInt8)).length e) ?_
   refine ⟨i.keep0, ?_⟩
   have E : cpB a = (a.take k ++ List.replicate (a.length - k) (0 : UInt8)) := by exact cpB_end (by omega)
   rw [E]
   have s : (List.replicate a.length (0 : UInt8)).length = ((a.take k ++ List.replicate (a.length - k) (0 : UInt8))).length := by first | (simp only [List.length_append, List.length_take, List.length_replicate, List.length_set, List.length_map]; done) | (simp only [List.length_append, List.length_take, List.length_replicate, List.length_set, List.length_map]; omega)
   rw [s] at m ⊢
   exact ⟨_, _, rfl, m, (by rw [← s]; rw [List.length_replicate]; first | assumption | omega), ⟨trivial, trivial⟩⟩
  have L := dT j
  refine ct j ?_
  refine wc_skip <| wq_then <| wc_seq <| wc_block <| wc_region ?_
  refine mw (vs d (List.replicate a.length (0 : UInt8)).length e) ?_
  refine mw (vi ((k : Nat) : Int)) ?_
  refine mw (vs f a.length g) ?_
  refine mw (vi ((k : Nat) : Int)) ?_
  refine ix wN ((k : Nat) : Int) slTy_22 (l.from0 i) ?_
  refine eb (x := a) k wN isAgg_5 (l.from0 i) ?_
  refine ix wN ((k : Nat) : Int) slTy_22 (Rd.of_own m) ?_
  refine wl_storeB (a.take k ++ List.replicate (a.length - k) (0 : UInt8)) (k) ((a.getD k 0)) wN rfl rfl rfl (by simp) rfl sizeOf_5 m (by first | omega | (simp only [List.length_append, List.length_replicate, List.length_take, List.length_set, List.length_map]; omega)) ?_
  intro M t F
  have G := i.ext t (fun k hk => nT (Nat.le_refl b.heap.size) (own_lt p k hk).1)
  refine wl_nil <| wq_blk_normal <| wq_then <| wc_region ?_
  refine mw (vi ((k : Nat) : Int)) ?_
  refine ar (((k : Nat) : Int) + 1) wN ?_
  refine aw (vi (((k : Nat) : Int) + 1)) ?_
  refine wl_nil ?_
  have H : (((a.take k ++ List.replicate (a.length - k) (0 : UInt8)).set k (a.getD k 0)) : List UInt8) = a.take (k + 1) ++ List.replicate (a.length - (k + 1)) (0 : UInt8) := by first | exact cpB_next (by omega) | simp
  refine wq_loopP (w0 := C) [(0, (vs f a.length g)), (2, (vs none 0 0)), (3, (vs d (List.replicate a.length (0 : UInt8)).length e)), (4, (vi (((k + 1) : Nat) : Int)))] ?_ ?_ ?_
  · exact ⟨rfl, rfl, rfl, (cA (Value.int .i64) (show ((((k : Nat) : Int) + 1) : Int) = (((k + 1) : Nat) : Int) by omega)), trivial⟩
  · exact fun u => ⟨(k + 1), u, rfl, G, (((Ch.refl (fun k => b.heap.size ≤ k) o).ext D (fun k hk => hk)).ext t (fun k hk => nT (Nat.le_refl b.heap.size) (own_lt p k hk).1)), (by omega), (by rw [← H]; exact F)⟩
  · show a.length - ((((k + 1) : Nat) : Int)).toNat < a.length - (((k : Nat) : Int)).toNat; omega

theorem isAgg_3 : ∀ w, (isAgg 3).run Tryz.prog w = .ok false w := fun w => by kernel_rfl
theorem sizeOf_3 : ∀ w, (sizeOf 3).run Tryz.prog w = .ok 1 w := fun w => by kernel_rfl
def R_23 (w : World) (v : Value) (x : (List Int)) : Prop := ∃ (a : Option Addr) (b : Nat), v = .slice a x.length b ∧ Rd w 1 (.slice a x.length b) x.length (x.map iV) ∧ x.length ≤ 1073741824
def O_23 (w : World) (lo : Nat) (v : Value) (x : (List Int)) : Prop := ∃ (a : Option Addr) (b : Nat), v = .slice a x.length b ∧ w.ownsRow lo 3 1 (.slice a x.length b) x.length (x.map iV) ∧ x.length ≤ 1073741824 ∧ Aps [(a, b)]
theorem cltoIntS (b : World) (q : Value) (a : List Int) (w : R_23 b q a)  : Fn Tryz.prog 128 #[q] b (fun v h => Keep b h ∧ O_23 h b.heap.size v (cpI a)) := by
 obtain ⟨f, g, rfl, l, I⟩ := w
 refine fn_ofS (n := 22) [(vs f a.length g)] Tryz.func128 rfl rfl ?_
 refine sr ?_
 refine aw (vs none 0 0) ?_
 refine nx ?_
 refine mw (vs f a.length g) ?_
 refine ln wN slTy_23 l ?_
 refine wl_makeI (a.length) wN rfl rfl rfl slTy_23 (a.length : Int) rfl (by omega) (by first | (simp only [List.length_append, List.length_cons, List.length_nil, List.length_replicate, List.length_take, List.length_drop]; omega) | omega) (by first | (simp only [List.length_append, List.length_cons, List.length_nil, List.length_replicate, List.length_take, List.length_drop]; omega) | omega) ?_
 intro d e o y p
 have A := (Ch.base b).extk y
 refine aw (vs d (List.replicate a.length (0 : Int)).length e) ?_
 refine n4 ?_
 refine aw (vi 0) ?_
 refine wl_nil <| wq_then <| wc_block ?_
 have B : ((List.replicate a.length (0 : Int)) : List Int) = a.take 0 ++ List.replicate (a.length - 0) (0 : Int) := by first | exact cpI_next (by omega) | simp
 refine wc_loopP [(0, (vs f a.length g)), (2, (vs none 0 0)), (3, (vs d (List.replicate a.length (0 : Int)).length e)), (4, (vi ((0 : Nat) : Int)))] ⟨rfl, rfl, rfl, (cA (Value.int .i64) (show (0 : Int) = ((0 : Nat) : Int) by omega)), trivial⟩ (fun e' h => ∃ (k : Nat) (r : Env), e' = pt r [(0, (vs f a.length g)), (2, (vs none 0 0)), (3, (vs d (List.replicate a.length (0 : Int)).length e)), (4, (vi ((k : Nat) : Int)))] ∧ Ch (fun k => b.heap.size ≤ k) b h ∧ Ch (fun k => b.heap.size ≤ k) o h ∧ k ≤ a.length ∧ World.ownsRow h b.heap.size 3 1 (.slice d (List.replicate a.length (0 : Int)).length e) (List.replicate a.length (0 : Int)).length ((a.take k ++ List.replicate (a.length - k) (0 : Int)).map iV)) (fun e' _ => a.length - ((intOf (e' 4))).toNat) ?_ ?_
 ·exact fun u => ⟨0, u, rfl, A, (Ch.refl (fun k => b.heap.size ≤ k) o), (by omega), (by rw [← B]; exact p)⟩
 ·rintro _ C ⟨k, r, rfl, i, D, J, m⟩
  refine wc_seq <| sr ?_
  refine mw (vi ((k : Nat) : Int)) ?_
  refine mw (vs f a.length g) ?_
  refine ln wN slTy_23 (l.from0 i) ?_
  refine pu (vb (decide (((k : Nat) : Int) < (a.length : Int)))) wN ?_
  refine n2 ?_
  rcases bf (decide (((k : Nat) : Int) < (a.length : Int))) with j | j
  ·have K := dF j
   refine cf j ?_
   refine wc_exit <| wq_then_exit <| wq_then_exit <| wq_blk_exit <| wq_then <| sr ?_
   refine mw (vs d (List.replicate a.length (0 : Int)).length e) ?_
   refine aw (vs d (List.replicate a.length (0 : Int)).length e) ?_
   refine n3 ?_
   refine rt (vs d (List.replicate a.length (0 : Int)).length e) ?_
   refine ⟨i.keep0, ?_⟩
   have E : cpI a = (a.take k ++ List.replicate (a.length - k) (0 : Int)) := by exact cpI_end (by omega)
   rw [E]
   have s : (List.replicate a.length (0 : Int)).length = ((a.take k ++ List.replicate (a.length - k) (0 : Int))).length := by first | (simp only [List.length_append, List.length_take, List.length_replicate, List.length_set, List.length_map]; done) | (simp only [List.length_append, List.length_take, List.length_replicate, List.length_set, List.length_map]; omega)
   rw [s] at m ⊢
   exact ⟨_, _, rfl, m, (by rw [← s]; rw [List.length_replicate]; first | assumption | omega), ⟨trivial, trivial⟩⟩
  have L := dT j
  refine ct j ?_
  refine wc_skip <| wq_then <| wc_seq <| wc_block <| wc_region ?_
  refine mw (vs d (List.replicate a.length (0 : Int)).length e) ?_
  refine mw (vi ((k : Nat) : Int)) ?_
  refine mw (vs f a.length g) ?_
  refine mw (vi ((k : Nat) : Int)) ?_
  refine ix wN ((k : Nat) : Int) slTy_23 (l.from0 i) ?_
  refine ei (x := a) k wN isAgg_3 (l.from0 i) ?_
  refine ix wN ((k : Nat) : Int) slTy_23 (Rd.of_own m) ?_
  refine wl_storeI (a.take k ++ List.replicate (a.length - k) (0 : Int)) (k) ((a.getD k 0)) wN rfl rfl rfl (by simp) rfl sizeOf_3 m (by first | omega | (simp only [List.length_append, List.length_replicate, List.length_take, List.length_set, List.length_map]; omega)) ?_
  intro M t F
  have G := i.ext t (fun k hk => nT (Nat.le_refl b.heap.size) (own_lt p k hk).1)
  refine wl_nil <| wq_blk_normal <| wq_then <| wc_region ?_
  refine mw (vi ((k : Nat) : Int)) ?_
  refine ar (((k : Nat) : Int) + 1) wN ?_
  refine aw (vi (((k : Nat) : Int) + 1)) ?_
  refine wl_nil ?_
  have H : (((a.take k ++ List.replicate (a.length - k) (0 : Int)).set k (a.getD k 0)) : List Int) = a.take (k + 1) ++ List.replicate (a.length - (k + 1)) (0 : Int) := by first | exact cpI_next (by omega) | simp
  refine wq_loopP (w0 := C) [(0, (vs f a.length g)), (2, (vs none 0 0)), (3, (vs d (List.replicate a.length (0 : Int)).length e)), (4, (vi (((k + 1) : Nat) : Int)))] ?_ ?_ ?_
  · exact ⟨rfl, rfl, rfl, (cA (Value.int .i64) (show ((((k : Nat) : Int) + 1) : Int) = (((k + 1) : Nat) : Int) by omega)), trivial⟩
  · exact fun u => ⟨(k + 1), u, rfl, G, (((Ch.refl (fun k => b.heap.size ≤ k) o).ext D (fun k hk => hk)).ext t (fun k hk => nT (Nat.le_refl b.heap.size) (own_lt p k hk).1)), (by omega), (by rw [← H]; exact F)⟩
  · show a.length - ((((k + 1) : Nat) : Int)).toNat < a.length - (((k : Nat) : Int)).toNat; omega

theorem zero_31 : ∀ w, (zeroValue 31).run Tryz.prog w = .ok (va [(vi 0), (vs none 0 0)]) w := fun w => by kernel_rfl
theorem sizeOf_23 : ∀ w, (sizeOf 23).run Tryz.prog w = .ok 1 w := fun w => by kernel_rfl
theorem isAgg_31 : ∀ w, (isAgg 31).run Tryz.prog w = .ok true w := fun w => by kernel_rfl
theorem sizeOf_31 : ∀ w, (sizeOf 31).run Tryz.prog w = .ok 2 w := fun w => by kernel_rfl
def R_25 (w : World) (v : Value) (x : (PWin)) : Prop := ∃ (a : Option Addr) (b : Nat), v = .agg #[.int .i64 x.Top, .slice a x.Bits.length b] ∧ Rd w 1 (.slice a x.Bits.length b) x.Bits.length (x.Bits.map iV) ∧ x.Bits.length ≤ 1073741824
def O_31 (w : World) (lo : Nat) (v : Value) (x : (PWin)) : Prop := ∃ (a : Option Addr) (b : Nat), v = .agg #[.int .i64 x.Top, .slice a x.Bits.length b] ∧ w.ownsRow lo 3 1 (.slice a x.Bits.length b) x.Bits.length (x.Bits.map iV) ∧ x.Bits.length ≤ 1073741824 ∧ Aps [(a, b)]
theorem mR_23 {w : World} {x : List Int} {a : Option Addr} {b : Nat} (d : Rd w 1 (.slice a x.length b) x.length (x.map iV)) (e : x.length ≤ 1073741824) : R_23 w (vs a x.length b) x := ⟨_, _, rfl, d, e⟩
def l_toWin (a : PWin) : (PWin) := { Top := a.Top, Bits := (cpI a.Bits) : PWin }
theorem cltoWin (g : World) (s : Value) (a : PWin) (B : R_25 g s a)  : Fn Tryz.prog 93 #[s] g (fun v t => Keep g t ∧ O_31 t g.heap.size v (l_toWin a)) := by
 obtain ⟨l, m, rfl, C, D⟩ := B
 refine fn_ofS (n := 12) [(va (L_31 a l m))] Tryz.func93 rfl rfl ?_
 refine sr ?_
 refine bx (L_31 a l m) wN ?_
 intro u Y Z E h F
 refine al [(vi 0), (vs none 0 0)] wN zero_31 ?_
 intro aa ab G o e H
 have I := ((Ch.base g).extk h).extk e
 refine nx ?_
 refine al [(vi 0), (vs none 0 0)] wN zero_31 ?_
 intro w ac i J j K
 refine nx ?_
 refine pu (vp u 0) wN ?_
 have x := ((F.kp e).kp j)
 refine ld (vi a.Top) wN isAgg_3 x ?_
 refine pu (vp w 0) wN ?_
 refine st (vi a.Top) [(vi a.Top)] [(vi a.Top), (vs none 0 0)] wN sizeOf_3 K ?_
 intro L f M ad
 have y := (I.extk j).ext f (fun k hk => by subst hk; exact nT (z2 h e) i)
 refine nx ?_
 refine pu (vp u 1) wN ?_
 have N := (x.ch f (nN (nL E (nT e.size i))))
 refine ld (vs l a.Bits.length m) wN isAgg_23 N ?_
 refine cl wN (cltoIntS L _ a.Bits (mR_23 (C.from0 y) D)) ?_
 rintro _ ae ⟨p, ⟨b, d, rfl, q, O, af⟩⟩
 refine pu (vp w 1) wN ?_
 have P := (M.kp p)
 refine st (vs b (cpI a.Bits).length d) [(vs b (cpI a.Bits).length d)] [(vi a.Top), (vs b (cpI a.Bits).length d)] wN sizeOf_23 P ?_
 intro ah r Q ai
 have R := (y.extk p).ext r (fun k hk => by subst hk; exact nT (z2 h e) i)
 refine nx ?_
 refine lN [(vi a.Top), (vs b (cpI a.Bits).length d)] wN isAgg_31 sizeOf_31 Q ?_
 have S := ((((H.kp j).ch f (nN (nL o (i)))).kp p).ch r (nN (nL o (i))))
 refine sv [(vi a.Top), (vs b (cpI a.Bits).length d)] wN sizeOf_31 S ?_
 intro aj A T ak
 have V := R.ext A (fun k hk => by subst hk; exact nT h.size G)
 refine n3 ?_
 have W := (own_ch (own_ch q r (ne1 q (nL J f.size))) A (ne1 q (nL o (z2 j f))))
 refine ret_1 (.inl rfl) (va [(vi a.Top), (vs b (cpI a.Bits).length d)]) rfl (rv_c [(vi a.Top), (vs b (cpI a.Bits).length d)] rfl T isAgg_31 sizeOf_31) ?_
 refine ⟨V.keep0, ?_⟩
 have X : l_toWin a = { Top := a.Top, Bits := (cpI a.Bits) : PWin } := by rfl
 rw [X]
 exact ⟨_, _, rfl, (own_lo W (z4 h e j f)), O, ⟨trivial, trivial⟩⟩

abbrev Z_33 : List Value := [(vi 0), (vs none 0 0), (vi 0), (vi 0), (vs none 0 0)]
theorem zero_33 : ∀ w, (zeroValue 33).run Tryz.prog w = .ok (va Z_33) w := fun w => by kernel_rfl
theorem sizeOf_22 : ∀ w, (sizeOf 22).run Tryz.prog w = .ok 1 w := fun w => by kernel_rfl
theorem isAgg_33 : ∀ w, (isAgg 33).run Tryz.prog w = .ok true w := fun w => by kernel_rfl
theorem sizeOf_33 : ∀ w, (sizeOf 33).run Tryz.prog w = .ok 5 w := fun w => by kernel_rfl
def R_27 (w : World) (v : Value) (x : (PEp)) : Prop := ∃ (a : Option Addr) (b : Nat) (d : Option Addr) (e : Nat), v = .agg #[.int .i64 x.N, .slice a x.Key.length b, .int .i64 x.Seq, .int .i64 x.Win.Top, .slice d x.Win.Bits.length e] ∧ Rd w 1 (.slice a x.Key.length b) x.Key.length (x.Key.map bV) ∧ x.Key.length ≤ 1073741824 ∧ Rd w 1 (.slice d x.Win.Bits.length e) x.Win.Bits.length (x.Win.Bits.map iV) ∧ x.Win.Bits.length ≤ 1073741824
def O_33 (w : World) (lo : Nat) (v : Value) (x : (PEp)) : Prop := ∃ (a : Option Addr) (b : Nat) (d : Option Addr) (e : Nat), v = .agg #[.int .i64 x.N, .slice a x.Key.length b, .int .i64 x.Seq, .int .i64 x.Win.Top, .slice d x.Win.Bits.length e] ∧ w.ownsRow lo 5 1 (.slice a x.Key.length b) x.Key.length (x.Key.map bV) ∧ x.Key.length ≤ 1073741824 ∧ w.ownsRow lo 3 1 (.slice d x.Win.Bits.length e) x.Win.Bits.length (x.Win.Bits.map iV) ∧ x.Win.Bits.length ≤ 1073741824 ∧ Aps [(a, b), (d, e)]
theorem mR_22 {w : World} {x : List UInt8} {a : Option Addr} {b : Nat} (d : Rd w 1 (.slice a x.length b) x.length (x.map bV)) (e : x.length ≤ 1073741824) : R_22 w (vs a x.length b) x := ⟨_, _, rfl, d, e⟩
theorem mR_25 {w : World} {x : PWin} {a : Option Addr} {b : Nat} (d : Rd w 1 (.slice a x.Bits.length b) x.Bits.length (x.Bits.map iV)) (e : x.Bits.length ≤ 1073741824) : R_25 w (va (L_25 x a b)) x := ⟨_, _, rfl, d, e⟩
def l_toEp (a : PEp) : (PEp) := { N := a.N, Key := (cpB a.Key), Seq := a.Seq, Win := (l_toWin a.Win) : PEp }
theorem cltoEp (r : World) (I : Value) (a : PEp) (R : R_27 r I a)  : Fn Tryz.prog 49 #[I] r (fun v J => Keep r J ∧ O_33 J r.heap.size v (l_toEp a)) := by
 obtain ⟨A, B, C, D, rfl, S, T, V, W⟩ := R
 refine fn_ofS (n := 19) [(va (L_33 a A B C D))] Tryz.func49 rfl rfl ?_
 refine sr ?_
 refine bx (L_33 a A B C D) wN ?_
 intro s a1 a2 E g X
 refine al Z_33 wN zero_33 ?_
 intro a3 a4 Y F b Z
 have aa := ((Ch.base r).extk g).extk b
 refine nx ?_
 refine al Z_33 wN zero_33 ?_
 intro t a5 h K l ab
 refine nx ?_
 refine pu (vp s 0) wN ?_
 have L := ((X.kp b).kp l)
 refine ld (vi a.N) wN isAgg_3 L ?_
 refine pu (vp t 0) wN ?_
 refine st (vi a.N) [(vi a.N)] [(vi a.N), (vs none 0 0), (vi 0), (vi 0), (vs none 0 0)] wN sizeOf_3 ab ?_
 intro ac d ad a6
 have M := (aa.extk l).ext d (fun k hk => by subst hk; exact nT (z2 g b) h)
 refine nx ?_
 refine pu (vp s 1) wN ?_
 have O := (L.ch d (nN (nL E (nT b.size h))))
 refine ld (vs A a.Key.length B) wN isAgg_22 O ?_
 refine cl wN (cltoByteS ac _ a.Key (mR_22 (S.from0 M) T)) ?_
 rintro _ a7 ⟨m, ⟨e, f, rfl, q, ae, a8⟩⟩
 refine pu (vp t 1) wN ?_
 have af := (ad.kp m)
 refine st (vs e (cpB a.Key).length f) [(vs e (cpB a.Key).length f)] [(vi a.N), (vs e (cpB a.Key).length f), (vi 0), (vi 0), (vs none 0 0)] wN sizeOf_22 af ?_
 intro a9 i ah aA
 have ai := (M.extk m).ext i (fun k hk => by subst hk; exact nT (z2 g b) h)
 refine nx ?_
 refine pu (vp s 2) wN ?_
 have P := ((O.kp m).ch i (nN (nL E (nT b.size h))))
 refine ld (vi a.Seq) wN isAgg_3 P ?_
 refine pu (vp t 2) wN ?_
 refine st (vi a.Seq) [(vi a.Seq)] [(vi a.N), (vs e (cpB a.Key).length f), (vi a.Seq), (vi 0), (vs none 0 0)] wN sizeOf_3 ah ?_
 intro aj j ak aB
 have Q := ai.ext j (fun k hk => by subst hk; exact nT (z2 g b) h)
 refine nx ?_
 refine pu (vp s 3) wN ?_
 have am := (P.ch j (nN (nL E (nT b.size h))))
 refine lN (L_31 a.Win C D) wN isAgg_25 sizeOf_25 am ?_
 refine cl wN (cltoWin aj _ a.Win (mR_25 (V.from0 Q) W)) ?_
 rintro _ aC ⟨u, ⟨o, p, rfl, w, an, aD⟩⟩
 refine pu (vp t 3) wN ?_
 have ao := (ak.kp u)
 refine st (va (L_31 (l_toWin a.Win) o p)) (L_31 (l_toWin a.Win) o p) [(vi a.N), (vs e (cpB a.Key).length f), (vi a.Seq), (vi ((l_toWin a.Win).Top)), (vs o ((l_toWin a.Win).Bits).length p)] wN sizeOf_31 ao ?_
 intro aE x ap aF
 have aq := (Q.extk u).ext x (fun k hk => by subst hk; exact nT (z2 g b) h)
 refine nx ?_
 refine lN [(vi a.N), (vs e (cpB a.Key).length f), (vi a.Seq), (vi ((l_toWin a.Win).Top)), (vs o ((l_toWin a.Win).Bits).length p)] wN isAgg_33 sizeOf_33 ap ?_
 have y := nL F (h)
 have au := (((((((Z.kp l).ch d (nN y)).kp m).ch i (nN y)).ch j (nN y)).kp u).ch x (nN y))
 refine sv [(vi a.N), (vs e (cpB a.Key).length f), (vi a.Seq), (vi ((l_toWin a.Win).Top)), (vs o ((l_toWin a.Win).Bits).length p)] wN sizeOf_33 au ?_
 intro aG G av aH
 have ax := aq.ext G (fun k hk => by subst hk; exact nT g.size Y)
 refine n3 ?_
 have H := nL K d.size
 have ay := (own_ch (own_ch (own_kp (own_ch (own_ch q i (ne1 q H)) j (ne1 q H)) u) x (ne1 q H)) G (ne1 q (nL F (z2 l d))))
 have az := (own_ch (own_ch w x (ne1 w (nL K (z4 d m i j)))) G (ne1 w (nL F (z5 l d m i j))))
 refine ret_1 (.inl rfl) (va [(vi a.N), (vs e (cpB a.Key).length f), (vi a.Seq), (vi ((l_toWin a.Win).Top)), (vs o ((l_toWin a.Win).Bits).length p)]) rfl (rv_c [(vi a.N), (vs e (cpB a.Key).length f), (vi a.Seq), (vi ((l_toWin a.Win).Top)), (vs o ((l_toWin a.Win).Bits).length p)] rfl av isAgg_33 sizeOf_33) ?_
 refine ⟨ax.keep0, ?_⟩
 have a0 : l_toEp a = { N := a.N, Key := (cpB a.Key), Seq := a.Seq, Win := (l_toWin a.Win) : PEp } := by rfl
 rw [a0]
 exact ⟨_, _, _, _, rfl, (own_lo ay (z4 g b l d)), ae, (own_lo az (z7 g b l d m i j)), an, ⟨⟨(Ap.lt q w (z2 i j)), trivial⟩, ⟨trivial, trivial⟩⟩⟩

abbrev Z_35 : List Value := [(vi 0), (vs none 0 0), (vi 0), (vs none 0 0), (vi 0), (vi 0), (vs none 0 0), (vi 0), (vs none 0 0), (vi 0), (vi 0), (vs none 0 0), (vb false), (vi 0), (vs none 0 0)]
theorem zero_35 : ∀ w, (zeroValue 35).run Tryz.prog w = .ok (va Z_35) w := fun w => by kernel_rfl
theorem isAgg_4 : ∀ w, (isAgg 4).run Tryz.prog w = .ok false w := fun w => by kernel_rfl
theorem sizeOf_4 : ∀ w, (sizeOf 4).run Tryz.prog w = .ok 1 w := fun w => by kernel_rfl
theorem isAgg_35 : ∀ w, (isAgg 35).run Tryz.prog w = .ok true w := fun w => by kernel_rfl
theorem sizeOf_35 : ∀ w, (sizeOf 35).run Tryz.prog w = .ok 15 w := fun w => by kernel_rfl
def R_29 (w : World) (v : Value) (x : (PChan)) : Prop := ∃ (a : Option Addr) (b : Nat) (d : Option Addr) (e : Nat) (f : Option Addr) (g : Nat) (h : Option Addr) (i : Nat) (j : Option Addr) (k : Nat) (l : Option Addr) (m : Nat), v = .agg #[.int .i64 x.Role, .slice a x.Sn.length b, .int .i64 x.Cur.N, .slice d x.Cur.Key.length e, .int .i64 x.Cur.Seq, .int .i64 x.Cur.Win.Top, .slice f x.Cur.Win.Bits.length g, .int .i64 x.Old.N, .slice h x.Old.Key.length i, .int .i64 x.Old.Seq, .int .i64 x.Old.Win.Top, .slice j x.Old.Win.Bits.length k, .bool x.HasOld, .int .i64 x.Until, .slice l x.Next.length m] ∧ Rd w 1 (.slice a x.Sn.length b) x.Sn.length (x.Sn.map bV) ∧ x.Sn.length ≤ 1073741824 ∧ Rd w 1 (.slice d x.Cur.Key.length e) x.Cur.Key.length (x.Cur.Key.map bV) ∧ x.Cur.Key.length ≤ 1073741824 ∧ Rd w 1 (.slice f x.Cur.Win.Bits.length g) x.Cur.Win.Bits.length (x.Cur.Win.Bits.map iV) ∧ x.Cur.Win.Bits.length ≤ 1073741824 ∧ Rd w 1 (.slice h x.Old.Key.length i) x.Old.Key.length (x.Old.Key.map bV) ∧ x.Old.Key.length ≤ 1073741824 ∧ Rd w 1 (.slice j x.Old.Win.Bits.length k) x.Old.Win.Bits.length (x.Old.Win.Bits.map iV) ∧ x.Old.Win.Bits.length ≤ 1073741824 ∧ Rd w 1 (.slice l x.Next.length m) x.Next.length (x.Next.map bV) ∧ x.Next.length ≤ 1073741824
def O_35 (w : World) (lo : Nat) (v : Value) (x : (PChan)) : Prop := ∃ (a : Option Addr) (b : Nat) (d : Option Addr) (e : Nat) (f : Option Addr) (g : Nat) (h : Option Addr) (i : Nat) (j : Option Addr) (k : Nat) (l : Option Addr) (m : Nat), v = .agg #[.int .i64 x.Role, .slice a x.Sn.length b, .int .i64 x.Cur.N, .slice d x.Cur.Key.length e, .int .i64 x.Cur.Seq, .int .i64 x.Cur.Win.Top, .slice f x.Cur.Win.Bits.length g, .int .i64 x.Old.N, .slice h x.Old.Key.length i, .int .i64 x.Old.Seq, .int .i64 x.Old.Win.Top, .slice j x.Old.Win.Bits.length k, .bool x.HasOld, .int .i64 x.Until, .slice l x.Next.length m] ∧ w.ownsRow lo 5 1 (.slice a x.Sn.length b) x.Sn.length (x.Sn.map bV) ∧ x.Sn.length ≤ 1073741824 ∧ w.ownsRow lo 5 1 (.slice d x.Cur.Key.length e) x.Cur.Key.length (x.Cur.Key.map bV) ∧ x.Cur.Key.length ≤ 1073741824 ∧ w.ownsRow lo 3 1 (.slice f x.Cur.Win.Bits.length g) x.Cur.Win.Bits.length (x.Cur.Win.Bits.map iV) ∧ x.Cur.Win.Bits.length ≤ 1073741824 ∧ w.ownsRow lo 5 1 (.slice h x.Old.Key.length i) x.Old.Key.length (x.Old.Key.map bV) ∧ x.Old.Key.length ≤ 1073741824 ∧ w.ownsRow lo 3 1 (.slice j x.Old.Win.Bits.length k) x.Old.Win.Bits.length (x.Old.Win.Bits.map iV) ∧ x.Old.Win.Bits.length ≤ 1073741824 ∧ w.ownsRow lo 5 1 (.slice l x.Next.length m) x.Next.length (x.Next.map bV) ∧ x.Next.length ≤ 1073741824 ∧ Aps [(a, b), (d, e), (f, g), (h, i), (j, k), (l, m)]
theorem mR_27 {w : World} {x : PEp} {a : Option Addr} {b : Nat} {d : Option Addr} {e : Nat} (f : Rd w 1 (.slice a x.Key.length b) x.Key.length (x.Key.map bV)) (g : x.Key.length ≤ 1073741824) (h : Rd w 1 (.slice d x.Win.Bits.length e) x.Win.Bits.length (x.Win.Bits.map iV)) (i : x.Win.Bits.length ≤ 1073741824) : R_27 w (va (L_27 x a b d e)) x := ⟨_, _, _, _, rfl, f, g, h, i⟩
def l_toChan (a : PChan) : (PChan) := { Role := a.Role, Sn := (cpB a.Sn), Cur := (l_toEp a.Cur), Old := (l_toEp a.Old), HasOld := a.HasOld, Until := a.Until, Next := (cpB a.Next) : PChan }
theorem cltoChan (X : World) (a0 : Value) (a : PChan) (aE : R_29 X a0 a)  : Fn Tryz.prog 10 #[a0] X (fun v a1 => Keep X a1 ∧ O_35 a1 X.heap.size v (l_toChan a)) := by
 obtain ⟨ae, af, ah, ai, aj, ak, am, an, ao, ap, aq, au, rfl, aF, aG, aH, aI, aJ, aK, aL, aM, aN, aO, aP, aQ⟩ := aE
 refine fn_ofS (n := 30) [(va (L_35 a ae af ah ai aj ak am an ao ap aq au))] Tryz.func10 rfl rfl ?_
 refine sr ?_
 refine bx (L_35 a ae af ah ai aj ak am an ao ap aq au) wN ?_
 intro I bA bB O g aR
 refine al Z_35 wN zero_35 ?_
 intro bC bD aS Y b aT
 have aU := ((Ch.base X).extk g).extk b
 refine nx ?_
 refine al Z_35 wN zero_35 ?_
 intro J bE j ac q aV
 refine nx ?_
 refine pu (vp I 0) wN ?_
 have a2 := ((aR.kp b).kp q)
 refine ld (vi a.Role) wN isAgg_3 a2 ?_
 refine pu (vp J 0) wN ?_
 refine st (vi a.Role) [(vi a.Role)] [(vi a.Role), (vs none 0 0), (vi 0), (vs none 0 0), (vi 0), (vi 0), (vs none 0 0), (vi 0), (vs none 0 0), (vi 0), (vi 0), (vs none 0 0), (vb false), (vi 0), (vs none 0 0)] wN sizeOf_3 aV ?_
 intro aW f aX bF
 have a3 := (aU.extk q).ext f (fun k hk => by subst hk; exact nT (z2 g b) j)
 refine nx ?_
 refine pu (vp I 1) wN ?_
 have a4 := (a2.ch f (nN (nL O (nT b.size j))))
 refine ld (vs ae a.Sn.length af) wN isAgg_22 a4 ?_
 refine cl wN (cltoByteS aW _ a.Sn (mR_22 (aF.from0 a3) aG)) ?_
 rintro _ bG ⟨h, ⟨s, t, rfl, r, aY, bH⟩⟩
 refine pu (vp J 1) wN ?_
 have aZ := (aX.kp h)
 refine st (vs s (cpB a.Sn).length t) [(vs s (cpB a.Sn).length t)] [(vi a.Role), (vs s (cpB a.Sn).length t), (vi 0), (vs none 0 0), (vi 0), (vi 0), (vs none 0 0), (vi 0), (vs none 0 0), (vi 0), (vi 0), (vs none 0 0), (vb false), (vi 0), (vs none 0 0)] wN sizeOf_22 aZ ?_
 intro av e ba bI
 have ax := (a3.extk h).ext e (fun k hk => by subst hk; exact nT (z2 g b) j)
 refine nx ?_
 refine pu (vp I 2) wN ?_
 have a5 := ((a4.kp h).ch e (nN (nL O (nT b.size j))))
 refine lN (L_33 a.Cur ah ai aj ak) wN isAgg_27 sizeOf_27 a5 ?_
 refine cl wN (cltoEp av _ a.Cur (mR_27 (aH.from0 ax) aI (aJ.from0 ax) aK)) ?_
 rintro _ a6 ⟨i, ⟨x, y, A, B, rfl, P, bb, Q, bc, bd⟩⟩
 refine pu (vp J 2) wN ?_
 have be := (ba.kp i)
 refine st (va (L_33 (l_toEp a.Cur) x y A B)) (L_33 (l_toEp a.Cur) x y A B) [(vi a.Role), (vs s (cpB a.Sn).length t), (vi ((l_toEp a.Cur).N)), (vs x ((l_toEp a.Cur).Key).length y), (vi ((l_toEp a.Cur).Seq)), (vi (((l_toEp a.Cur).Win).Top)), (vs A (((l_toEp a.Cur).Win).Bits).length B), (vi 0), (vs none 0 0), (vi 0), (vi 0), (vs none 0 0), (vb false), (vi 0), (vs none 0 0)] wN sizeOf_33 be ?_
 intro ay d bg bJ
 have az := (ax.extk i).ext d (fun k hk => by subst hk; exact nT (z2 g b) j)
 refine nx ?_
 refine pu (vp I 7) wN ?_
 have a7 := ((a5.kp i).ch d (nN (nL O (nT b.size j))))
 refine lN (L_33 a.Old am an ao ap) wN isAgg_27 sizeOf_27 a7 ?_
 refine cl wN (cltoEp ay _ a.Old (mR_27 (aL.from0 az) aM (aN.from0 az) aO)) ?_
 rintro _ a8 ⟨u, ⟨C, D, F, G, rfl, R, bh, S, bi, bj⟩⟩
 refine pu (vp J 7) wN ?_
 have bk := (bg.kp u)
 refine st (va (L_33 (l_toEp a.Old) C D F G)) (L_33 (l_toEp a.Old) C D F G) [(vi a.Role), (vs s (cpB a.Sn).length t), (vi ((l_toEp a.Cur).N)), (vs x ((l_toEp a.Cur).Key).length y), (vi ((l_toEp a.Cur).Seq)), (vi (((l_toEp a.Cur).Win).Top)), (vs A (((l_toEp a.Cur).Win).Bits).length B), (vi ((l_toEp a.Old).N)), (vs C ((l_toEp a.Old).Key).length D), (vi ((l_toEp a.Old).Seq)), (vi (((l_toEp a.Old).Win).Top)), (vs F (((l_toEp a.Old).Win).Bits).length G), (vb false), (vi 0), (vs none 0 0)] wN sizeOf_33 bk ?_
 intro bK l bl bL
 have bm := (az.extk u).ext l (fun k hk => by subst hk; exact nT (z2 g b) j)
 refine nx ?_
 refine pu (vp I 12) wN ?_
 have a9 := ((a7.kp u).ch l (nN (nL O (nT b.size j))))
 refine ld (vb a.HasOld) wN isAgg_4 a9 ?_
 refine pu (vp J 12) wN ?_
 refine st (vb a.HasOld) [(vb a.HasOld)] [(vi a.Role), (vs s (cpB a.Sn).length t), (vi ((l_toEp a.Cur).N)), (vs x ((l_toEp a.Cur).Key).length y), (vi ((l_toEp a.Cur).Seq)), (vi (((l_toEp a.Cur).Win).Top)), (vs A (((l_toEp a.Cur).Win).Bits).length B), (vi ((l_toEp a.Old).N)), (vs C ((l_toEp a.Old).Key).length D), (vi ((l_toEp a.Old).Seq)), (vi (((l_toEp a.Old).Win).Top)), (vs F (((l_toEp a.Old).Win).Bits).length G), (vb a.HasOld), (vi 0), (vs none 0 0)] wN sizeOf_4 bl ?_
 intro bM m bn bN
 have bo := bm.ext m (fun k hk => by subst hk; exact nT (z2 g b) j)
 refine nx ?_
 refine pu (vp I 13) wN ?_
 have aA := (a9.ch m (nN (nL O (nT b.size j))))
 refine ld (vi a.Until) wN isAgg_3 aA ?_
 refine pu (vp J 13) wN ?_
 refine st (vi a.Until) [(vi a.Until)] [(vi a.Role), (vs s (cpB a.Sn).length t), (vi ((l_toEp a.Cur).N)), (vs x ((l_toEp a.Cur).Key).length y), (vi ((l_toEp a.Cur).Seq)), (vi (((l_toEp a.Cur).Win).Top)), (vs A (((l_toEp a.Cur).Win).Bits).length B), (vi ((l_toEp a.Old).N)), (vs C ((l_toEp a.Old).Key).length D), (vi ((l_toEp a.Old).Seq)), (vi (((l_toEp a.Old).Win).Top)), (vs F (((l_toEp a.Old).Win).Bits).length G), (vb a.HasOld), (vi a.Until), (vs none 0 0)] wN sizeOf_3 bn ?_
 intro bp p bq bO
 have aB := bo.ext p (fun k hk => by subst hk; exact nT (z2 g b) j)
 refine nx ?_
 refine pu (vp I 14) wN ?_
 have br := (aA.ch p (nN (nL O (nT b.size j))))
 refine ld (vs aq a.Next.length au) wN isAgg_22 br ?_
 refine cl wN (cltoByteS bp _ a.Next (mR_22 (aP.from0 aB) aQ)) ?_
 rintro _ bP ⟨T, ⟨K, L, rfl, H, bu, bQ⟩⟩
 refine pu (vp J 14) wN ?_
 have bv := (bq.kp T)
 refine st (vs K (cpB a.Next).length L) [(vs K (cpB a.Next).length L)] [(vi a.Role), (vs s (cpB a.Sn).length t), (vi ((l_toEp a.Cur).N)), (vs x ((l_toEp a.Cur).Key).length y), (vi ((l_toEp a.Cur).Seq)), (vi (((l_toEp a.Cur).Win).Top)), (vs A (((l_toEp a.Cur).Win).Bits).length B), (vi ((l_toEp a.Old).N)), (vs C ((l_toEp a.Old).Key).length D), (vi ((l_toEp a.Old).Seq)), (vi (((l_toEp a.Old).Win).Top)), (vs F (((l_toEp a.Old).Win).Bits).length G), (vb a.HasOld), (vi a.Until), (vs K (cpB a.Next).length L)] wN sizeOf_22 bv ?_
 intro bR V bw bS
 have bz := (aB.extk T).ext V (fun k hk => by subst hk; exact nT (z2 g b) j)
 refine nx ?_
 refine lN [(vi a.Role), (vs s (cpB a.Sn).length t), (vi ((l_toEp a.Cur).N)), (vs x ((l_toEp a.Cur).Key).length y), (vi ((l_toEp a.Cur).Seq)), (vi (((l_toEp a.Cur).Win).Top)), (vs A (((l_toEp a.Cur).Win).Bits).length B), (vi ((l_toEp a.Old).N)), (vs C ((l_toEp a.Old).Key).length D), (vi ((l_toEp a.Old).Seq)), (vi (((l_toEp a.Old).Win).Top)), (vs F (((l_toEp a.Old).Win).Bits).length G), (vb a.HasOld), (vi a.Until), (vs K (cpB a.Next).length L)] wN isAgg_35 sizeOf_35 bw ?_
 have M := nL Y (j)
 have b0 := ((((((((((((aT.kp q).ch f (nN M)).kp h).ch e (nN M)).kp i).ch d (nN M)).kp u).ch l (nN M)).ch m (nN M)).ch p (nN M)).kp T).ch V (nN M))
 refine sv [(vi a.Role), (vs s (cpB a.Sn).length t), (vi ((l_toEp a.Cur).N)), (vs x ((l_toEp a.Cur).Key).length y), (vi ((l_toEp a.Cur).Seq)), (vi (((l_toEp a.Cur).Win).Top)), (vs A (((l_toEp a.Cur).Win).Bits).length B), (vi ((l_toEp a.Old).N)), (vs C ((l_toEp a.Old).Key).length D), (vi ((l_toEp a.Old).Seq)), (vi (((l_toEp a.Old).Win).Top)), (vs F (((l_toEp a.Old).Win).Bits).length G), (vb a.HasOld), (vi a.Until), (vs K (cpB a.Next).length L)] wN sizeOf_35 b0 ?_
 intro bT Z b1 bU
 have b2 := bz.ext Z (fun k hk => by subst hk; exact nT g.size aS)
 refine n3 ?_
 have W := nL ac f.size
 have b3 := (own_ch (own_ch (own_kp (own_ch (own_ch (own_ch (own_kp (own_ch (own_kp (own_ch r e (ne1 r W)) i) d (ne1 r W)) u) l (ne1 r W)) m (ne1 r W)) p (ne1 r W)) T) V (ne1 r W)) Z (ne1 r (nL Y (z2 q f))))
 have aa := nL ac (z3 f h e)
 have aC := fun (E sz n : Nat) (v : Value) (ab : List Value) (o : World.ownsRow a6 av.heap.size E sz v n ab) (w : World.ownsRow a6 av.heap.size E sz v n ab) => (own_ch (own_ch (own_kp (own_ch (own_ch (own_ch (own_kp (own_ch o d (ne1 w aa)) u) l (ne1 w aa)) m (ne1 w aa)) p (ne1 w aa)) T) V (ne1 w aa)) Z (ne1 w (nL Y (z4 q f h e))))
 have b4 := (aC _ _ _ _ _ P P)
 have b5 := (aC _ _ _ _ _ Q Q)
 have ad := nL ac (z5 f h e i d)
 have aD := fun (E sz n : Nat) (v : Value) (ab : List Value) (o : World.ownsRow a8 ay.heap.size E sz v n ab) (w : World.ownsRow a8 ay.heap.size E sz v n ab) => (own_ch (own_ch (own_kp (own_ch (own_ch (own_ch o l (ne1 w ad)) m (ne1 w ad)) p (ne1 w ad)) T) V (ne1 w ad)) Z (ne1 w (nL Y (z6 q f h e i d))))
 have b6 := (aD _ _ _ _ _ R R)
 have b7 := (aD _ _ _ _ _ S S)
 have b8 := (own_ch (own_ch H V (ne1 H (nL ac (z9 f h e i d u l m p)))) Z (ne1 H (nL Y (z10 q f h e i d u l m p))))
 refine ret_1 (.inl rfl) (va [(vi a.Role), (vs s (cpB a.Sn).length t), (vi ((l_toEp a.Cur).N)), (vs x ((l_toEp a.Cur).Key).length y), (vi ((l_toEp a.Cur).Seq)), (vi (((l_toEp a.Cur).Win).Top)), (vs A (((l_toEp a.Cur).Win).Bits).length B), (vi ((l_toEp a.Old).N)), (vs C ((l_toEp a.Old).Key).length D), (vi ((l_toEp a.Old).Seq)), (vi (((l_toEp a.Old).Win).Top)), (vs F (((l_toEp a.Old).Win).Bits).length G), (vb a.HasOld), (vi a.Until), (vs K (cpB a.Next).length L)]) rfl (rv_c [(vi a.Role), (vs s (cpB a.Sn).length t), (vi ((l_toEp a.Cur).N)), (vs x ((l_toEp a.Cur).Key).length y), (vi ((l_toEp a.Cur).Seq)), (vi (((l_toEp a.Cur).Win).Top)), (vs A (((l_toEp a.Cur).Win).Bits).length B), (vi ((l_toEp a.Old).N)), (vs C ((l_toEp a.Old).Key).length D), (vi ((l_toEp a.Old).Seq)), (vi (((l_toEp a.Old).Win).Top)), (vs F (((l_toEp a.Old).Win).Bits).length G), (vb a.HasOld), (vi a.Until), (vs K (cpB a.Next).length L)] rfl b1 isAgg_35 sizeOf_35) ?_
 refine ⟨b2.keep0, ?_⟩
 have b9 : l_toChan a = { Role := a.Role, Sn := (cpB a.Sn), Cur := (l_toEp a.Cur), Old := (l_toEp a.Old), HasOld := a.HasOld, Until := a.Until, Next := (cpB a.Next) : PChan } := by rfl
 rw [b9]
 exact ⟨_, _, _, _, _, _, _, _, _, _, _, _, rfl, (own_lo b3 (z4 g b q f)), aY, (own_lo b4 (z6 g b q f h e)), bb, (own_lo b5 (z6 g b q f h e)), bc, (own_lo b6 (z8 g b q f h e i d)), bh, (own_lo b7 (z8 g b q f h e i d)), bi, (own_lo b8 (z12 g b q f h e i d u l m p)), bu, ⟨⟨(Ap.lt r P e.size), ⟨(Ap.lt r Q e.size), ⟨(Ap.lt r R (z3 e i d)), ⟨(Ap.lt r S (z3 e i d)), ⟨(Ap.lt r H (z7 e i d u l m p)), trivial⟩⟩⟩⟩⟩, ⟨⟨(bd.1.1), ⟨(Ap.lt P R d.size), ⟨(Ap.lt P S d.size), ⟨(Ap.lt P H (z5 d u l m p)), trivial⟩⟩⟩⟩, ⟨⟨(Ap.lt Q R d.size), ⟨(Ap.lt Q S d.size), ⟨(Ap.lt Q H (z5 d u l m p)), trivial⟩⟩⟩, ⟨⟨(bj.1.1), ⟨(Ap.lt R H (z3 l m p)), trivial⟩⟩, ⟨⟨(Ap.lt S H (z3 l m p)), trivial⟩, ⟨trivial, trivial⟩⟩⟩⟩⟩⟩⟩

theorem mixed : Tryz.prog.follows .mixedOrders = true := by kernel_rfl
def s_l8Copy (a : PWin) : (PWin) := a
theorem csl8Copy (f : World) (u : Value) (a : PWin) (G : R_31 f u a)  : Fn Tryz.prog 124 #[u] f (fun v g => Keep f g ∧ O_31 g f.heap.size v (a)) := by
 obtain ⟨b, i, rfl, H, I⟩ := G
 refine fn_ofS (n := 10) [(va (L_31 a b i))] Tryz.func124 rfl rfl ?_
 refine sr ?_
 refine bx (L_31 a b i) wN ?_
 intro j x ah ai p y
 refine al [(vi 0), (vs none 0 0)] wN zero_31 ?_
 intro aj q J K l L
 have A := ((Ch.base f).extk p).extk l
 refine wl_nil <| wq_then <| wc_seq ?_
 refine wc_drawT ([(3, [], [], (fun _ v _ => v = (vp j 0))), (4, [], [0], (fun _ v _ => v = (vi a.Top))), (5, [], [], (fun _ v w => ∃ a0 : Addr, v = .slice (some a0) 0 0 ∧ w.ownsRow q.heap.size 3 1 (.slice (some a0) 0 0) 0 [])), (6, [], [], (fun _ v _ => v = (vp j 1))), (7, [], [3], (fun _ v _ => v = (vs b a.Bits.length i))), (8, [], [2, 3, 4], (fun _ v w => ∃ (b : Option Addr) (r : Nat), v = .slice b a.Bits.length r ∧ w.ownsRow q.heap.size 3 1 (.slice b a.Bits.length r) a.Bits.length (a.Bits.map iV) ∧ a.Bits.length ≤ 1073741824 ∧ Aps [(b, r)]))] : GV) (fun _ g => Keep q g) [] mixed rfl (by kernel_rfl) (by kernel_rfl) ?_ (fun _ _ h => h) (fun _ _ _ _ h _ k => h.trans k) trivial ?_ ?_ ?_
 ·exact ⟨hV, hE, ⟨hV, hE, ⟨(fun e v w x h hk => by obtain ⟨s, he, t⟩ := h; exact ⟨s, he, own_kp t hk⟩), hE, ⟨hV, hE, ⟨hV, hE, ⟨(fun e v w x h hk => by obtain ⟨s, M, he, t, N, hap⟩ := h; exact ⟨s, M, he, own_kp t hk, N, hap⟩), hE, trivial⟩⟩⟩⟩⟩⟩
 ·exact trivial
 ·refine ⟨?_, ⟨?_, ⟨?_, ⟨?_, ⟨?_, ⟨?_, trivial⟩⟩⟩⟩⟩⟩
  ·intro _ d ak _
   rintro _ _ _ _ _ _
   show WL _ _ _ _ _ _ _
   refine pu (vp j 0) wN ?_
   exact f1
  ·intro _ d O _
   rintro _ rfl _ _ _ _ _
   show WL _ _ _ _ _ _ _
   have P := ((y.kp l).kp O)
   refine ld (vi a.Top) wN isAgg_3 P ?_
   exact f1
  ·intro _ d Q _
   rintro _ _ _ _ _ _
   show WL _ _ _ _ _ _ _
   refine wl_lit0 wN rfl rfl slTy_23 (fun w => by kernel_rfl) ?_
   intro am B R S
   exact wl_finT R ⟨_, rfl, own_lo S Q.size⟩
  ·intro _ d an _
   rintro _ _ _ _ _ _
   show WL _ _ _ _ _ _ _
   refine pu (vp j 1) wN ?_
   exact f1
  ·intro _ d T _
   rintro _ _ _ _ rfl _ _
   show WL _ _ _ _ _ _ _
   have V := ((y.kp l).kp T)
   refine ld (vs b a.Bits.length i) wN isAgg_23 V ?_
   exact f1
  ·intro _ d C _
   have W := A.extk C
   rintro _ _ _ ⟨ao, rfl, X⟩ _ rfl _ rfl _
   show WL _ _ _ _ _ _ _
   refine ap0I a.Bits wN slTy_23 X (H.from0 W) C.size ?_
   intro ap aq B Y Z au
   exact wl_finT Y ⟨_, _, rfl, Z, I, ⟨trivial, trivial⟩⟩
 ·intro _ d D
  rintro _ rfl _ rfl _ ⟨av, rfl, ax⟩ _ rfl _ rfl _ ⟨m, o, rfl, E, aa, -⟩
  show WL _ _ _ _ _ _ _
  refine pu (va (L_31 a m o)) wN ?_
  have ab := (L.kp D)
  refine sv (L_31 a m o) wN sizeOf_31 ab ?_
  intro B F ac ay
  have ad := (A.extk D).ext F (fun k hk => by subst hk; exact nT p.size J)
  refine n3 ?_
  have ae := (own_ch E F (ne1 E (K)))
  refine ret_1 (.inl rfl) (va (L_31 a m o)) rfl (rv_c (L_31 a m o) rfl ac isAgg_31 sizeOf_31) ?_
  refine ⟨ad.keep0, ?_⟩
  have af : a = a := by rfl
  rw [af]
  exact ⟨_, _, rfl, (own_lo ae (z2 p l)), aa, ⟨trivial, trivial⟩⟩

theorem mR_31 {w : World} {x : PWin} {a : Option Addr} {b : Nat} (d : Rd w 1 (.slice a x.Bits.length b) x.Bits.length (x.Bits.map iV)) (e : x.Bits.length ≤ 1073741824) : R_31 w (va (L_31 x a b)) x := ⟨_, _, rfl, d, e⟩
def s_l9Copy (a : PEp) : (PEp) := a
theorem csl9Copy (j : World) (I : Value) (a : PEp) (R : R_33 j I a)  : Fn Tryz.prog 86 #[I] j (fun v o => Keep j o ∧ O_33 o j.heap.size v (a)) := by
 obtain ⟨b, p, q, r, rfl, S, T, V, W⟩ := R
 refine fn_ofS (n := 15) [(va (L_33 a b p q r))] Tryz.func86 rfl rfl ?_
 refine sr ?_
 refine bx (L_33 a b p q r) wN ?_
 intro f C aA aB s t
 refine al Z_33 wN zero_33 ?_
 intro aC u X J i Y
 have D := ((Ch.base j).extk s).extk i
 refine wl_nil <| wq_then <| wc_seq ?_
 refine wc_drawT ([(3, [], [], (fun _ v _ => v = (vp f 0))), (4, [], [0], (fun _ v _ => v = (vi a.N))), (5, [], [], (fun _ v w => ∃ a0 : Addr, v = .slice (some a0) 0 0 ∧ w.ownsRow u.heap.size 5 1 (.slice (some a0) 0 0) 0 [])), (6, [], [], (fun _ v _ => v = (vp f 1))), (7, [], [3], (fun _ v _ => v = (vs b a.Key.length p))), (8, [], [2, 3, 4], (fun _ v w => ∃ (b : Option Addr) (g : Nat), v = .slice b a.Key.length g ∧ w.ownsRow u.heap.size 5 1 (.slice b a.Key.length g) a.Key.length (a.Key.map bV) ∧ a.Key.length ≤ 1073741824 ∧ Aps [(b, g)])), (9, [], [], (fun _ v _ => v = (vp f 2))), (10, [], [6], (fun _ v _ => v = (vi a.Seq))), (11, [], [], (fun _ v _ => v = (vp f 3))), (12, [], [8], (fun _ v _ => v = (va (L_31 a.Win q r)))), (13, [8], [2, 3, 4, 5, 8, 9], (fun e v w => ∃ (b : Option Addr) (g : Nat), v = .agg #[.int .i64 ((a.Win).Top), .slice b ((a.Win).Bits).length g] ∧ w.ownsRow (u.heap.size) 3 1 (.slice b ((a.Win).Bits).length g) ((a.Win).Bits).length (((a.Win).Bits).map iV) ∧ ((a.Win).Bits).length ≤ 1073741824 ∧ Aps [(b, g)] ∧ Ap (sp (e 8)) (b, g)))] : GV) (fun _ o => Keep u o) [] mixed rfl (by kernel_rfl) (by kernel_rfl) ?_ (fun _ _ h => h) (fun _ _ _ _ h _ k => h.trans k) trivial ?_ ?_ ?_
 ·exact ⟨hV, hE, ⟨hV, hE, ⟨(fun e v w C h hk => by obtain ⟨l, he, m⟩ := h; exact ⟨l, he, own_kp m hk⟩), hE, ⟨hV, hE, ⟨hV, hE, ⟨(fun e v w C h hk => by obtain ⟨l, E, he, m, F, hap⟩ := h; exact ⟨l, E, he, own_kp m hk, F, hap⟩), hE, ⟨hV, hE, ⟨hV, hE, ⟨hV, hE, ⟨hV, hE, ⟨(fun e v w C h hk => by obtain ⟨l, E, he, m, F, hap, hx⟩ := h; exact ⟨l, E, he, own_kp m hk, F, hap, hx⟩), (fun aD aE v w hx h => by have Z := hx 8 (by simp); simp only [Z] at h; exact h), trivial⟩⟩⟩⟩⟩⟩⟩⟩⟩⟩⟩
 ·exact trivial
 ·refine ⟨?_, ⟨?_, ⟨?_, ⟨?_, ⟨?_, ⟨?_, ⟨?_, ⟨?_, ⟨?_, ⟨?_, ⟨?_, trivial⟩⟩⟩⟩⟩⟩⟩⟩⟩⟩⟩
  ·intro _ d aF _
   rintro _ _ _ _ _ _ _ _ _ _ _
   show WL _ _ _ _ _ _ _
   refine pu (vp f 0) wN ?_
   exact f1
  ·intro _ d aa _
   rintro _ rfl _ _ _ _ _ _ _ _ _ _
   show WL _ _ _ _ _ _ _
   have ab := ((t.kp i).kp aa)
   refine ld (vi a.N) wN isAgg_3 ab ?_
   exact f1
  ·intro _ d ac _
   rintro _ _ _ _ _ _ _ _ _ _ _
   show WL _ _ _ _ _ _ _
   refine wl_lit0 wN rfl rfl slTy_22 (fun w => by kernel_rfl) ?_
   intro aG G ad ae
   exact wl_finT ad ⟨_, rfl, own_lo ae ac.size⟩
  ·intro _ d aH _
   rintro _ _ _ _ _ _ _ _ _ _ _
   show WL _ _ _ _ _ _ _
   refine pu (vp f 1) wN ?_
   exact f1
  ·intro _ d af _
   rintro _ _ _ _ rfl _ _ _ _ _ _ _
   show WL _ _ _ _ _ _ _
   have ah := ((t.kp i).kp af)
   refine ld (vs b a.Key.length p) wN isAgg_22 ah ?_
   exact f1
  ·intro _ d K _
   have ai := D.extk K
   rintro _ _ _ ⟨aI, rfl, aj⟩ _ rfl _ rfl _ _ _ _ _ _
   show WL _ _ _ _ _ _ _
   refine ap0 a.Key wN slTy_22 aj (S.from0 ai) K.size ?_
   intro aJ aK G ak am aL
   exact wl_finT ak ⟨_, _, rfl, am, T, ⟨trivial, trivial⟩⟩
  ·intro _ d aM _
   rintro _ _ _ _ _ _ _ _ _ _ _
   show WL _ _ _ _ _ _ _
   refine pu (vp f 2) wN ?_
   exact f1
  ·intro _ d an _
   rintro _ _ _ _ _ _ _ rfl _ _ _ _
   show WL _ _ _ _ _ _ _
   have ao := ((t.kp i).kp an)
   refine ld (vi a.Seq) wN isAgg_3 ao ?_
   exact f1
  ·intro _ d aN _
   rintro _ _ _ _ _ _ _ _ _ _ _
   show WL _ _ _ _ _ _ _
   refine pu (vp f 3) wN ?_
   exact f1
  ·intro _ d ap _
   rintro _ _ _ _ _ _ _ _ _ rfl _ _
   show WL _ _ _ _ _ _ _
   have aq := ((t.kp i).kp ap)
   refine lN (L_31 a.Win q r) wN isAgg_31 sizeOf_31 aq ?_
   exact f1
  ·intro _ d L _
   have au := D.extk L
   rintro _ _ _ ⟨aO, rfl, aP⟩ _ rfl _ rfl _ ⟨aQ, aR, rfl, av, aS, -⟩ _ _ _ rfl _ rfl _
   show WL _ _ _ _ _ _ _
   refine cl wN (csl8Copy d _ a.Win (mR_31 (V.from0 au) W)) ?_
   rintro _ G ⟨ax, ⟨aT, aU, rfl, M, ay, az⟩⟩
   exact wl_finT ax ⟨_, _, rfl, (own_lo M L.size), ay, az, (Ap.lt av M (Nat.le_refl _))⟩
 ·intro _ d O
  rintro _ rfl _ rfl _ ⟨aV, rfl, aW⟩ _ rfl _ rfl _ ⟨x, y, rfl, P, a1, -⟩ _ rfl _ rfl _ rfl _ rfl _ ⟨A, B, rfl, Q, a2, aX, a3⟩
  show WL _ _ _ _ _ _ _
  refine pu (va (L_33 a x y A B)) wN ?_
  have a4 := (Y.kp O)
  refine sv (L_33 a x y A B) wN sizeOf_33 a4 ?_
  intro G H a5 aY
  have a6 := (D.extk O).ext H (fun k hk => by subst hk; exact nT s.size X)
  refine n3 ?_
  have a7 := (own_ch P H (ne1 P (J)))
  have a8 := (own_ch Q H (ne1 Q (J)))
  refine ret_1 (.inl rfl) (va (L_33 a x y A B)) rfl (rv_c (L_33 a x y A B) rfl a5 isAgg_33 sizeOf_33) ?_
  refine ⟨a6.keep0, ?_⟩
  have a9 : a = a := by rfl
  rw [a9]
  exact ⟨_, _, _, _, rfl, (own_lo a7 (z2 s i)), a1, (own_lo a8 (z2 s i)), a2, ⟨⟨a3, trivial⟩, ⟨trivial, trivial⟩⟩⟩

theorem mR_33 {w : World} {x : PEp} {a : Option Addr} {b : Nat} {d : Option Addr} {e : Nat} (f : Rd w 1 (.slice a x.Key.length b) x.Key.length (x.Key.map bV)) (g : x.Key.length ≤ 1073741824) (h : Rd w 1 (.slice d x.Win.Bits.length e) x.Win.Bits.length (x.Win.Bits.map iV)) (i : x.Win.Bits.length ≤ 1073741824) : R_33 w (va (L_33 x a b d e)) x := ⟨_, _, _, _, rfl, f, g, h, i⟩
def s_l14Ep (a : PEp) (b : Bool) : (PEp) := bif b then ((a)) else (a)
theorem csl14Ep (r : World) (R : Value) (a : PEp) (ai : R_33 r R a) (s : Bool)  : Fn Tryz.prog 87 #[R, (vb s)] r (fun v A => Keep r A ∧ O_33 A r.heap.size v (a)) := by
 obtain ⟨d, t, u, x, rfl, S, T, V, W⟩ := ai
 refine fn_ofS (n := 27) [(va (L_33 a d t u x)), (vb s)] Tryz.func87 rfl rfl ?_
 refine sr ?_
 refine bx (L_33 a d t u x) wN ?_
 intro f B be bg j o
 refine al Z_33 wN zero_33 ?_
 intro bh p X C g Y
 have q := ((Ch.base r).extk j).extk g
 refine n4 ?_
 refine mw (vb s) ?_
 refine pu (vb (!s)) wN ?_
 refine n2 ?_
 rcases bt s with H | H
 ·refine cf (cA not H) ?_
  refine y1 ?_
  have aj := (o.kp g)
  refine lN (L_33 a d t u x) wN isAgg_33 sizeOf_33 aj ?_
  refine cl wN (csl9Copy p _ a (mR_33 (S.from0 q) T (V.from0 q) W)) ?_
  rintro _ b ⟨Z, ⟨I, J, K, L, rfl, aa, ak, ab, am, an⟩⟩
  have ao := (Y.kp Z)
  refine sv (L_33 (a) I J K L) wN sizeOf_33 ao ?_
  intro y M ap bi
  have aq := (q.extk Z).ext M (fun k hk => by subst hk; exact nT j.size X)
  refine n3 ?_
  have au := (own_ch aa M (ne1 aa (C)))
  have av := (own_ch ab M (ne1 ab (C)))
  refine ret_1 (.inl rfl) (va (L_33 (a) I J K L)) rfl (rv_c (L_33 (a) I J K L) rfl ap isAgg_33 sizeOf_33) ?_
  refine ⟨aq.keep0, ?_⟩
  have ax : a = (a) := by rfl
  rw [ax]
  exact ⟨_, _, _, _, rfl, (own_lo au (z2 j g)), ak, (own_lo av (z2 j g)), am, ⟨⟨(an.1.1), trivial⟩, ⟨trivial, trivial⟩⟩⟩
 refine ct (cA not H) ?_
 refine wc_seq ?_
 refine wc_drawT ([(7, [], [], (fun _ v _ => v = (vp f 0))), (8, [], [0], (fun _ v _ => v = (vi a.N))), (9, [], [], (fun _ v w => ∃ a0 : Addr, v = .slice (some a0) 0 0 ∧ w.ownsRow p.heap.size 5 1 (.slice (some a0) 0 0) 0 [])), (10, [], [], (fun _ v _ => v = (vp f 1))), (11, [], [3], (fun _ v _ => v = (vs d a.Key.length t))), (12, [], [2, 3, 4], (fun _ v w => ∃ (d : Option Addr) (i : Nat), v = .slice d a.Key.length i ∧ w.ownsRow p.heap.size 5 1 (.slice d a.Key.length i) a.Key.length (a.Key.map bV) ∧ a.Key.length ≤ 1073741824 ∧ Aps [(d, i)])), (13, [], [], (fun _ v _ => v = (vp f 2))), (14, [], [6], (fun _ v _ => v = (vi a.Seq))), (15, [], [], (fun _ v _ => v = (vp f 3))), (16, [], [8], (fun _ v _ => v = (vp f 3))), (17, [], [8, 9], (fun _ v _ => v = (vi a.Win.Top))), (18, [], [], (fun _ v w => ∃ a0 : Addr, v = .slice (some a0) 0 0 ∧ w.ownsRow p.heap.size 3 1 (.slice (some a0) 0 0) 0 [])), (19, [], [], (fun _ v _ => v = (vp f 3))), (20, [], [12], (fun _ v _ => v = (vp f 4))), (21, [], [12, 13], (fun _ v _ => v = (vs u a.Win.Bits.length x))), (22, [12], [2, 3, 4, 5, 11, 12, 13, 14], (fun e v w => ∃ (d : Option Addr) (i : Nat), v = .slice d a.Win.Bits.length i ∧ w.ownsRow p.heap.size 3 1 (.slice d a.Win.Bits.length i) a.Win.Bits.length (a.Win.Bits.map iV) ∧ a.Win.Bits.length ≤ 1073741824 ∧ Aps [(d, i)] ∧ Ap (sp (e 12)) (d, i))), (23, [22], [2, 3, 4, 5, 8, 9, 10, 11, 12, 13, 14, 15], (fun e v _ => v = (.agg #[(vi a.Win.Top), (e 22)])))] : GV) (fun _ A => Keep p A) [] mixed rfl (by kernel_rfl) (by kernel_rfl) ?_ (fun _ _ h => h) (fun _ _ _ _ h _ k => h.trans k) trivial ?_ ?_ ?_
 ·exact ⟨hV, hE, ⟨hV, hE, ⟨(fun e v w B h hk => by obtain ⟨l, he, m⟩ := h; exact ⟨l, he, own_kp m hk⟩), hE, ⟨hV, hE, ⟨hV, hE, ⟨(fun e v w B h hk => by obtain ⟨l, O, he, m, P, hap⟩ := h; exact ⟨l, O, he, own_kp m hk, P, hap⟩), hE, ⟨hV, hE, ⟨hV, hE, ⟨hV, hE, ⟨hV, hE, ⟨hV, hE, ⟨(fun e v w B h hk => by obtain ⟨l, he, m⟩ := h; exact ⟨l, he, own_kp m hk⟩), hE, ⟨hV, hE, ⟨hV, hE, ⟨hV, hE, ⟨(fun e v w B h hk => by obtain ⟨l, O, he, m, P, hap, hx⟩ := h; exact ⟨l, O, he, own_kp m hk, P, hap, hx⟩), (fun ay az v w hx h => by have a1 := hx 12 (by simp); simp only [a1] at h; exact h), ⟨hV, (fun ay az v w hx h => by have a2 := hx 22 (by simp); simp only [a2] at h; exact h), trivial⟩⟩⟩⟩⟩⟩⟩⟩⟩⟩⟩⟩⟩⟩⟩⟩⟩
 ·exact trivial
 ·refine ⟨?_, ⟨?_, ⟨?_, ⟨?_, ⟨?_, ⟨?_, ⟨?_, ⟨?_, ⟨?_, ⟨?_, ⟨?_, ⟨?_, ⟨?_, ⟨?_, ⟨?_, ⟨?_, ⟨?_, trivial⟩⟩⟩⟩⟩⟩⟩⟩⟩⟩⟩⟩⟩⟩⟩⟩⟩
  ·intro _ b bj _
   rintro _ _ _ _ _ _ _ _ _ _ _ _ _ _ _ _ _
   show WL _ _ _ _ _ _ _
   refine pu (vp f 0) wN ?_
   exact f1
  ·intro _ b a3 _
   rintro _ rfl _ _ _ _ _ _ _ _ _ _ _ _ _ _ _ _
   show WL _ _ _ _ _ _ _
   have a4 := ((o.kp g).kp a3)
   refine ld (vi a.N) wN isAgg_3 a4 ?_
   exact f1
  ·intro _ b a5 _
   rintro _ _ _ _ _ _ _ _ _ _ _ _ _ _ _ _ _
   show WL _ _ _ _ _ _ _
   refine wl_lit0 wN rfl rfl slTy_22 (fun w => by kernel_rfl) ?_
   intro bk y a6 a7
   exact wl_finT a6 ⟨_, rfl, own_lo a7 a5.size⟩
  ·intro _ b bl _
   rintro _ _ _ _ _ _ _ _ _ _ _ _ _ _ _ _ _
   show WL _ _ _ _ _ _ _
   refine pu (vp f 1) wN ?_
   exact f1
  ·intro _ b a8 _
   rintro _ _ _ _ rfl _ _ _ _ _ _ _ _ _ _ _ _ _
   show WL _ _ _ _ _ _ _
   have a9 := ((o.kp g).kp a8)
   refine ld (vs d a.Key.length t) wN isAgg_22 a9 ?_
   exact f1
  ·intro _ b ac _
   have aA := q.extk ac
   rintro _ _ _ ⟨bm, rfl, aB⟩ _ rfl _ rfl _ _ _ _ _ _ _ _ _ _ _ _
   show WL _ _ _ _ _ _ _
   refine ap0 a.Key wN slTy_22 aB (S.from0 aA) ac.size ?_
   intro bn bo y aC aD bp
   exact wl_finT aC ⟨_, _, rfl, aD, T, ⟨trivial, trivial⟩⟩
  ·intro _ b bq _
   rintro _ _ _ _ _ _ _ _ _ _ _ _ _ _ _ _ _
   show WL _ _ _ _ _ _ _
   refine pu (vp f 2) wN ?_
   exact f1
  ·intro _ b aE _
   rintro _ _ _ _ _ _ _ rfl _ _ _ _ _ _ _ _ _ _
   show WL _ _ _ _ _ _ _
   have aF := ((o.kp g).kp aE)
   refine ld (vi a.Seq) wN isAgg_3 aF ?_
   exact f1
  ·intro _ b br _
   rintro _ _ _ _ _ _ _ _ _ _ _ _ _ _ _ _ _
   show WL _ _ _ _ _ _ _
   refine pu (vp f 3) wN ?_
   exact f1
  ·intro _ b bu _
   rintro _ _ _ _ _ _ _ _ _ rfl _ _ _ _ _ _ _ _
   show WL _ _ _ _ _ _ _
   refine pu (vp f 3) wN ?_
   exact f1
  ·intro _ b aG _
   rintro _ _ _ _ _ _ _ _ _ rfl _ rfl _ _ _ _ _ _ _
   show WL _ _ _ _ _ _ _
   have aH := ((o.kp g).kp aG)
   refine ld (vi a.Win.Top) wN isAgg_3 aH ?_
   exact f1
  ·intro _ b aI _
   rintro _ _ _ _ _ _ _ _ _ _ _ _ _ _ _ _ _
   show WL _ _ _ _ _ _ _
   refine wl_lit0 wN rfl rfl slTy_23 (fun w => by kernel_rfl) ?_
   intro bv y aJ aK
   exact wl_finT aJ ⟨_, rfl, own_lo aK aI.size⟩
  ·intro _ b bw _
   rintro _ _ _ _ _ _ _ _ _ _ _ _ _ _ _ _ _
   show WL _ _ _ _ _ _ _
   refine pu (vp f 3) wN ?_
   exact f1
  ·intro _ b bz _
   rintro _ _ _ _ _ _ _ _ _ _ _ _ _ rfl _ _ _ _
   show WL _ _ _ _ _ _ _
   refine pu (vp f 4) wN ?_
   exact f1
  ·intro _ b aL _
   rintro _ _ _ _ _ _ _ _ _ _ _ _ _ rfl _ rfl _ _ _
   show WL _ _ _ _ _ _ _
   have aM := ((o.kp g).kp aL)
   refine ld (vs u a.Win.Bits.length x) wN isAgg_23 aM ?_
   exact f1
  ·intro _ b ad _
   have aN := q.extk ad
   rintro _ _ _ ⟨b0, rfl, b1⟩ _ rfl _ rfl _ ⟨b2, b3, rfl, aO, b4, -⟩ _ _ _ _ _ _ ⟨b5, rfl, aP⟩ _ rfl _ rfl _ rfl _ _
   show WL _ _ _ _ _ _ _
   refine ap0I a.Win.Bits wN slTy_23 aP (V.from0 aN) ad.size ?_
   intro b6 b7 y aQ aR aS
   exact wl_finT aQ ⟨_, _, rfl, aR, W, ⟨trivial, trivial⟩, (Ap.new aO aS (Nat.le_refl _))⟩
  ·intro _ b b8 _
   rintro _ _ _ ⟨b9, rfl, bA⟩ _ rfl _ rfl _ ⟨bB, bC, rfl, bD, bE, -⟩ _ _ _ rfl _ rfl _ rfl _ ⟨bF, rfl, bG⟩ _ rfl _ rfl _ rfl _ ⟨aT, aU, rfl, bH, bI, -, bJ⟩ _
   show WL _ _ _ _ _ _ _
   refine pu (va (L_31 a.Win aT aU)) wN ?_
   exact f1
 ·intro _ b ae
  rintro _ rfl _ rfl _ ⟨bK, rfl, bL⟩ _ rfl _ rfl _ ⟨D, E, rfl, af, aV, -⟩ _ rfl _ rfl _ rfl _ rfl _ rfl _ ⟨bM, rfl, bN⟩ _ rfl _ rfl _ rfl _ ⟨F, G, rfl, ah, aW, -, aX⟩ _ rfl
  show WL _ _ _ _ _ _ _
  refine pu (va (L_33 a D E F G)) wN ?_
  have aY := (Y.kp ae)
  refine sv (L_33 a D E F G) wN sizeOf_33 aY ?_
  intro y Q aZ bO
  have ba := (q.extk ae).ext Q (fun k hk => by subst hk; exact nT j.size X)
  refine n1 ?_
  have bb := (own_ch af Q (ne1 af (C)))
  have bc := (own_ch ah Q (ne1 ah (C)))
  refine ret_1 (.inl rfl) (va (L_33 a D E F G)) rfl (rv_c (L_33 a D E F G) rfl aZ isAgg_33 sizeOf_33) ?_
  refine ⟨ba.keep0, ?_⟩
  have bd : a = a := by rfl
  rw [bd]
  exact ⟨_, _, _, _, rfl, (own_lo bb (z2 j g)), aV, (own_lo bc (z2 j g)), aW, ⟨⟨aX, trivial⟩, ⟨trivial, trivial⟩⟩⟩

def s_l14Copy (a : PChan) : (PChan) := a
theorem csl14Copy (C : World) (au : Value) (a : PChan) (aH : R_35 C au a)  : Fn Tryz.prog 46 #[au] C (fun v H => Keep C H ∧ O_35 H C.heap.size v (a)) := by
 obtain ⟨b, g, I, J, K, L, M, O, P, Q, R, S, rfl, aI, aJ, aK, aL, aM, aN, aO, aP, aQ, aR, aS, aT⟩ := aH
 refine fn_ofS (n := 26) [(va (L_35 a b g I J K L M O P Q R S))] Tryz.func46 rfl rfl ?_
 refine sr ?_
 refine bx (L_35 a b g I J K L M O P Q R S) wN ?_
 intro i x cc cd q r
 refine al Z_35 wN zero_35 ?_
 intro ce p aU y j aV
 have D := ((Ch.base C).extk q).extk j
 refine wl_nil <| wq_then <| wc_seq ?_
 refine wc_drawT ([(3, [], [], (fun _ v _ => v = (vp i 0))), (4, [], [0], (fun _ v _ => v = (vi a.Role))), (5, [], [], (fun _ v w => ∃ a0 : Addr, v = .slice (some a0) 0 0 ∧ w.ownsRow p.heap.size 5 1 (.slice (some a0) 0 0) 0 [])), (6, [], [], (fun _ v _ => v = (vp i 1))), (7, [], [3], (fun _ v _ => v = (vs b a.Sn.length g))), (8, [], [2, 3, 4], (fun _ v w => ∃ (b : Option Addr) (d : Nat), v = .slice b a.Sn.length d ∧ w.ownsRow p.heap.size 5 1 (.slice b a.Sn.length d) a.Sn.length (a.Sn.map bV) ∧ a.Sn.length ≤ 1073741824 ∧ Aps [(b, d)])), (9, [], [], (fun _ v _ => v = (vp i 2))), (10, [], [6], (fun _ v _ => v = (va (L_33 a.Cur I J K L)))), (11, [8], [2, 3, 4, 5, 6, 7], (fun e v w => ∃ (b : Option Addr) (d : Nat) (l : Option Addr) (g : Nat), v = .agg #[.int .i64 ((a.Cur).N), .slice b ((a.Cur).Key).length d, .int .i64 ((a.Cur).Seq), .int .i64 (((a.Cur).Win).Top), .slice l (((a.Cur).Win).Bits).length g] ∧ w.ownsRow (p.heap.size) 5 1 (.slice b ((a.Cur).Key).length d) ((a.Cur).Key).length (((a.Cur).Key).map bV) ∧ ((a.Cur).Key).length ≤ 1073741824 ∧ w.ownsRow (p.heap.size) 3 1 (.slice l (((a.Cur).Win).Bits).length g) (((a.Cur).Win).Bits).length ((((a.Cur).Win).Bits).map iV) ∧ (((a.Cur).Win).Bits).length ≤ 1073741824 ∧ Aps [(b, d), (l, g)] ∧ Ap (sp (e 8)) (b, d) ∧ Ap (sp (e 8)) (l, g))), (12, [], [], (fun _ v _ => v = (vp i 7))), (13, [], [9], (fun _ v _ => v = (va (L_33 a.Old M O P Q)))), (14, [], [], (fun _ v _ => v = (vp i 12))), (15, [], [11], (fun _ v _ => v = (vb a.HasOld))), (16, [8, 11], [2, 3, 4, 5, 6, 7, 8, 9, 10, 11, 12], (fun e v w => ∃ (b : Option Addr) (d : Nat) (l : Option Addr) (g : Nat), v = .agg #[.int .i64 ((a.Old).N), .slice b ((a.Old).Key).length d, .int .i64 ((a.Old).Seq), .int .i64 (((a.Old).Win).Top), .slice l (((a.Old).Win).Bits).length g] ∧ w.ownsRow (p.heap.size) 5 1 (.slice b ((a.Old).Key).length d) ((a.Old).Key).length (((a.Old).Key).map bV) ∧ ((a.Old).Key).length ≤ 1073741824 ∧ w.ownsRow (p.heap.size) 3 1 (.slice l (((a.Old).Win).Bits).length g) (((a.Old).Win).Bits).length ((((a.Old).Win).Bits).map iV) ∧ (((a.Old).Win).Bits).length ≤ 1073741824 ∧ Aps [(b, d), (l, g)] ∧ Ap (sp (e 8)) (b, d) ∧ Ap (sp (e 8)) (l, g) ∧ Ap (sp (cellAt (e 11) 1)) (b, d) ∧ Ap (sp (cellAt (e 11) 1)) (l, g) ∧ Ap (sp (cellAt (e 11) 4)) (b, d) ∧ Ap (sp (cellAt (e 11) 4)) (l, g))), (17, [], [], (fun _ v _ => v = (vp i 12))), (18, [], [14], (fun _ v _ => v = (vb a.HasOld))), (19, [], [], (fun _ v _ => v = (vp i 13))), (20, [], [16], (fun _ v _ => v = (vi a.Until))), (21, [], [], (fun _ v w => ∃ a0 : Addr, v = .slice (some a0) 0 0 ∧ w.ownsRow p.heap.size 5 1 (.slice (some a0) 0 0) 0 [])), (22, [], [], (fun _ v _ => v = (vp i 14))), (23, [], [19], (fun _ v _ => v = (vs R a.Next.length S))), (24, [8, 11, 16], [2, 3, 4, 5, 6, 7, 8, 9, 10, 11, 12, 13, 18, 19, 20], (fun e v w => ∃ (b : Option Addr) (d : Nat), v = .slice b a.Next.length d ∧ w.ownsRow p.heap.size 5 1 (.slice b a.Next.length d) a.Next.length (a.Next.map bV) ∧ a.Next.length ≤ 1073741824 ∧ Aps [(b, d)] ∧ Ap (sp (e 8)) (b, d) ∧ Ap (sp (cellAt (e 11) 1)) (b, d) ∧ Ap (sp (cellAt (e 11) 4)) (b, d) ∧ Ap (sp (cellAt (e 16) 1)) (b, d) ∧ Ap (sp (cellAt (e 16) 4)) (b, d)))] : GV) (fun _ H => Keep p H) [] mixed rfl (by kernel_rfl) (by kernel_rfl) ?_ (fun _ _ h => h) (fun _ _ _ _ h _ k => h.trans k) trivial ?_ ?_ ?_
 ·exact ⟨hV, hE, ⟨hV, hE, ⟨(fun e v w x h hk => by obtain ⟨m, he, o⟩ := h; exact ⟨m, he, own_kp o hk⟩), hE, ⟨hV, hE, ⟨hV, hE, ⟨(fun e v w x h hk => by obtain ⟨m, s, he, o, t, hap⟩ := h; exact ⟨m, s, he, own_kp o hk, t, hap⟩), hE, ⟨hV, hE, ⟨hV, hE, ⟨(fun e v w x h hk => by obtain ⟨m, s, aj, ak, he, o, t, am, an, hap, hx⟩ := h; exact ⟨m, s, aj, ak, he, own_kp o hk, t, own_kp am hk, an, hap, hx⟩), (fun av ax v w hx h => by have E := hx 8 (by simp); simp only [E] at h; exact h), ⟨hV, hE, ⟨hV, hE, ⟨hV, hE, ⟨hV, hE, ⟨(fun e v w x h hk => by obtain ⟨m, s, aj, ak, he, o, t, am, an, hap, hx⟩ := h; exact ⟨m, s, aj, ak, he, own_kp o hk, t, own_kp am hk, an, hap, hx⟩), (fun av ax v w hx h => by have E := hx 8 (by simp); have ao := hx 11 (by simp); simp only [E, ao] at h; exact h), ⟨hV, hE, ⟨hV, hE, ⟨hV, hE, ⟨hV, hE, ⟨(fun e v w x h hk => by obtain ⟨m, he, o⟩ := h; exact ⟨m, he, own_kp o hk⟩), hE, ⟨hV, hE, ⟨hV, hE, ⟨(fun e v w x h hk => by obtain ⟨m, s, he, o, t, hap, hx⟩ := h; exact ⟨m, s, he, own_kp o hk, t, hap, hx⟩), (fun av ax v w hx h => by have E := hx 8 (by simp); have ao := hx 11 (by simp); have aW := hx 16 (by simp); simp only [E, ao, aW] at h; exact h), trivial⟩⟩⟩⟩⟩⟩⟩⟩⟩⟩⟩⟩⟩⟩⟩⟩⟩⟩⟩⟩⟩⟩
 ·exact trivial
 ·refine ⟨?_, ⟨?_, ⟨?_, ⟨?_, ⟨?_, ⟨?_, ⟨?_, ⟨?_, ⟨?_, ⟨?_, ⟨?_, ⟨?_, ⟨?_, ⟨?_, ⟨?_, ⟨?_, ⟨?_, ⟨?_, ⟨?_, ⟨?_, ⟨?_, ⟨?_, trivial⟩⟩⟩⟩⟩⟩⟩⟩⟩⟩⟩⟩⟩⟩⟩⟩⟩⟩⟩⟩⟩⟩
  ·intro _ f cg _
   rintro _ _ _ _ _ _ _ _ _ _ _ _ _ _ _ _ _ _ _ _ _ _
   show WL _ _ _ _ _ _ _
   refine pu (vp i 0) wN ?_
   exact f1
  ·intro _ f aX _
   rintro _ rfl _ _ _ _ _ _ _ _ _ _ _ _ _ _ _ _ _ _ _ _ _
   show WL _ _ _ _ _ _ _
   have aY := ((r.kp j).kp aX)
   refine ld (vi a.Role) wN isAgg_3 aY ?_
   exact f1
  ·intro _ f aZ _
   rintro _ _ _ _ _ _ _ _ _ _ _ _ _ _ _ _ _ _ _ _ _ _
   show WL _ _ _ _ _ _ _
   refine wl_lit0 wN rfl rfl slTy_22 (fun w => by kernel_rfl) ?_
   intro ci A ba bb
   exact wl_finT ba ⟨_, rfl, own_lo bb aZ.size⟩
  ·intro _ f cj _
   rintro _ _ _ _ _ _ _ _ _ _ _ _ _ _ _ _ _ _ _ _ _ _
   show WL _ _ _ _ _ _ _
   refine pu (vp i 1) wN ?_
   exact f1
  ·intro _ f bc _
   rintro _ _ _ _ rfl _ _ _ _ _ _ _ _ _ _ _ _ _ _ _ _ _ _
   show WL _ _ _ _ _ _ _
   have bd := ((r.kp j).kp bc)
   refine ld (vs b a.Sn.length g) wN isAgg_22 bd ?_
   exact f1
  ·intro _ f ay _
   have be := D.extk ay
   rintro _ _ _ ⟨ck, rfl, bg⟩ _ rfl _ rfl _ _ _ _ _ _ _ _ _ _ _ _ _ _ _ _ _
   show WL _ _ _ _ _ _ _
   refine ap0 a.Sn wN slTy_22 bg (aI.from0 be) ay.size ?_
   intro cm cn A bh bi co
   exact wl_finT bh ⟨_, _, rfl, bi, aJ, ⟨trivial, trivial⟩⟩
  ·intro _ f cp _
   rintro _ _ _ _ _ _ _ _ _ _ _ _ _ _ _ _ _ _ _ _ _ _
   show WL _ _ _ _ _ _ _
   refine pu (vp i 2) wN ?_
   exact f1
  ·intro _ f bj _
   rintro _ _ _ _ _ _ _ rfl _ _ _ _ _ _ _ _ _ _ _ _ _ _ _
   show WL _ _ _ _ _ _ _
   have bk := ((r.kp j).kp bj)
   refine lN (L_33 a.Cur I J K L) wN isAgg_33 sizeOf_33 bk ?_
   exact f1
  ·intro _ f ap _
   have az := D.extk ap
   rintro _ _ _ ⟨cq, rfl, cr⟩ _ rfl _ rfl _ ⟨cs, cu, rfl, a1, cv, -⟩ _ rfl _ rfl _ _ _ _ _ _ _ _ _ _ _ _ _ _
   show WL _ _ _ _ _ _ _
   refine cl wN (csl9Copy f _ a.Cur (mR_33 (aK.from0 az) aL (aM.from0 az) aN)) ?_
   rintro _ A ⟨bl, ⟨cw, cx, cy, cz, rfl, a2, bm, a3, bn, bo⟩⟩
   exact wl_finT bl ⟨_, _, _, _, rfl, (own_lo a2 ap.size), bm, (own_lo a3 ap.size), bn, bo, ⟨(Ap.lt a1 a2 (Nat.le_refl _)), (Ap.lt a1 a3 (Nat.le_refl _))⟩⟩
  ·intro _ f c0 _
   rintro _ _ _ _ _ _ _ _ _ _ _ _ _ _ _ _ _ _ _ _ _ _
   show WL _ _ _ _ _ _ _
   refine pu (vp i 7) wN ?_
   exact f1
  ·intro _ f bp _
   rintro _ _ _ _ _ _ _ _ _ _ rfl _ _ _ _ _ _ _ _ _ _ _ _
   show WL _ _ _ _ _ _ _
   have bq := ((r.kp j).kp bp)
   refine lN (L_33 a.Old M O P Q) wN isAgg_33 sizeOf_33 bq ?_
   exact f1
  ·intro _ f c1 _
   rintro _ _ _ _ _ _ _ _ _ _ _ _ _ _ _ _ _ _ _ _ _ _
   show WL _ _ _ _ _ _ _
   refine pu (vp i 12) wN ?_
   exact f1
  ·intro _ f br _
   rintro _ _ _ _ _ _ _ _ _ _ _ _ rfl _ _ _ _ _ _ _ _ _ _
   show WL _ _ _ _ _ _ _
   have bu := ((r.kp j).kp br)
   refine ld (vb a.HasOld) wN isAgg_4 bu ?_
   exact f1
  ·intro _ f aq _
   have a4 := D.extk aq
   rintro _ _ _ ⟨c2, rfl, c3⟩ _ rfl _ rfl _ ⟨c4, c5, rfl, a5, c6, -⟩ _ rfl _ rfl _ ⟨c7, c8, c9, cC, rfl, a6, cD, a7, _⟩ _ rfl _ rfl _ rfl _ rfl _ _ _ _ _ _ _ _ _
   show WL _ _ _ _ _ _ _
   refine cl wN (csl14Ep f _ a.Old (mR_33 (aO.from0 a4) aP (aQ.from0 a4) aR) a.HasOld) ?_
   rintro _ A ⟨bv, ⟨cE, cF, cG, cH, rfl, T, bw, V, bz, b0⟩⟩
   exact wl_finT bv ⟨_, _, _, _, rfl, (own_lo T aq.size), bw, (own_lo V aq.size), bz, b0, ⟨(Ap.lt a5 T (Nat.le_refl _)), (Ap.lt a5 V (Nat.le_refl _)), (Ap.lt a6 T (Nat.le_refl _)), (Ap.lt a6 V (Nat.le_refl _)), (Ap.lt a7 T (Nat.le_refl _)), (Ap.lt a7 V (Nat.le_refl _))⟩⟩
  ·intro _ f cI _
   rintro _ _ _ _ _ _ _ _ _ _ _ _ _ _ _ _ _ _ _ _ _ _
   show WL _ _ _ _ _ _ _
   refine pu (vp i 12) wN ?_
   exact f1
  ·intro _ f b1 _
   rintro _ _ _ _ _ _ _ _ _ _ _ _ _ _ _ rfl _ _ _ _ _ _ _
   show WL _ _ _ _ _ _ _
   have b2 := ((r.kp j).kp b1)
   refine ld (vb a.HasOld) wN isAgg_4 b2 ?_
   exact f1
  ·intro _ f cJ _
   rintro _ _ _ _ _ _ _ _ _ _ _ _ _ _ _ _ _ _ _ _ _ _
   show WL _ _ _ _ _ _ _
   refine pu (vp i 13) wN ?_
   exact f1
  ·intro _ f b3 _
   rintro _ _ _ _ _ _ _ _ _ _ _ _ _ _ _ _ _ rfl _ _ _ _ _
   show WL _ _ _ _ _ _ _
   have b4 := ((r.kp j).kp b3)
   refine ld (vi a.Until) wN isAgg_3 b4 ?_
   exact f1
  ·intro _ f b5 _
   rintro _ _ _ _ _ _ _ _ _ _ _ _ _ _ _ _ _ _ _ _ _ _
   show WL _ _ _ _ _ _ _
   refine wl_lit0 wN rfl rfl slTy_22 (fun w => by kernel_rfl) ?_
   intro cK A b6 b7
   exact wl_finT b6 ⟨_, rfl, own_lo b7 b5.size⟩
  ·intro _ f cL _
   rintro _ _ _ _ _ _ _ _ _ _ _ _ _ _ _ _ _ _ _ _ _ _
   show WL _ _ _ _ _ _ _
   refine pu (vp i 14) wN ?_
   exact f1
  ·intro _ f b8 _
   rintro _ _ _ _ _ _ _ _ _ _ _ _ _ _ _ _ _ _ _ _ rfl _ _
   show WL _ _ _ _ _ _ _
   have b9 := ((r.kp j).kp b8)
   refine ld (vs R a.Next.length S) wN isAgg_22 b9 ?_
   exact f1
  ·intro _ f a8 _
   have bA := D.extk a8
   rintro _ _ _ ⟨cM, rfl, cN⟩ _ rfl _ rfl _ ⟨cO, cP, rfl, bB, cQ, -⟩ _ rfl _ rfl _ ⟨cR, cS, cT, cU, rfl, bC, cV, bD, _⟩ _ rfl _ rfl _ rfl _ rfl _ ⟨cW, cX, cY, cZ, rfl, bE, da, bF, _⟩ _ _ _ _ _ ⟨db, rfl, bG⟩ _ rfl _ rfl _
   show WL _ _ _ _ _ _ _
   refine ap0 a.Next wN slTy_22 bG (aS.from0 bA) a8.size ?_
   intro dc dd A bH bI F
   exact wl_finT bH ⟨_, _, rfl, bI, aT, ⟨trivial, trivial⟩, ⟨(Ap.new bB F (Nat.le_refl _)), (Ap.new bC F (Nat.le_refl _)), (Ap.new bD F (Nat.le_refl _)), (Ap.new bE F (Nat.le_refl _)), (Ap.new bF F (Nat.le_refl _))⟩⟩
 ·intro _ f a9
  rintro _ rfl _ rfl _ ⟨de, rfl, df⟩ _ rfl _ rfl _ ⟨W, X, rfl, aA, bJ, -⟩ _ rfl _ rfl _ ⟨Y, Z, aa, ab, rfl, aB, bK, aC, bL, bM, aD⟩ _ rfl _ rfl _ rfl _ rfl _ ⟨ac, ad, ae, af, rfl, aE, bN, aF, bO, bP, B⟩ _ rfl _ rfl _ rfl _ rfl _ ⟨dg, rfl, dh⟩ _ rfl _ rfl _ ⟨ah, ai, rfl, aG, bQ, -, G⟩
  show WL _ _ _ _ _ _ _
  refine pu (va (L_35 a W X Y Z aa ab ac ad ae af ah ai)) wN ?_
  have bR := (aV.kp a9)
  refine sv (L_35 a W X Y Z aa ab ac ad ae af ah ai) wN sizeOf_35 bR ?_
  intro A u bS di
  have bT := (D.extk a9).ext u (fun k hk => by subst hk; exact nT q.size aU)
  refine n3 ?_
  have bU := (own_ch aA u (ne1 aA (y)))
  have bW := (own_ch aB u (ne1 aB (y)))
  have bX := (own_ch aC u (ne1 aC (y)))
  have bY := (own_ch aE u (ne1 aE (y)))
  have bZ := (own_ch aF u (ne1 aF (y)))
  have ca := (own_ch aG u (ne1 aG (y)))
  refine ret_1 (.inl rfl) (va (L_35 a W X Y Z aa ab ac ad ae af ah ai)) rfl (rv_c (L_35 a W X Y Z aa ab ac ad ae af ah ai) rfl bS isAgg_35 sizeOf_35) ?_
  refine ⟨bT.keep0, ?_⟩
  have cb : a = a := by rfl
  rw [cb]
  exact ⟨_, _, _, _, _, _, _, _, _, _, _, _, rfl, (own_lo bU (z2 q j)), bJ, (own_lo bW (z2 q j)), bK, (own_lo bX (z2 q j)), bL, (own_lo bY (z2 q j)), bN, (own_lo bZ (z2 q j)), bO, (own_lo ca (z2 q j)), bQ, ⟨⟨(aD.1), ⟨(aD.2), ⟨(B.1), ⟨(B.2.1), ⟨(G.1), trivial⟩⟩⟩⟩⟩, ⟨⟨(bM.1.1), ⟨(B.2.2.1), ⟨(B.2.2.2.1), ⟨(G.2.1), trivial⟩⟩⟩⟩, ⟨⟨(B.2.2.2.2.1), ⟨(B.2.2.2.2.2), ⟨(G.2.2.1), trivial⟩⟩⟩, ⟨⟨(bP.1.1), ⟨(G.2.2.2.1), trivial⟩⟩, ⟨⟨(G.2.2.2.2), trivial⟩, ⟨trivial, trivial⟩⟩⟩⟩⟩⟩⟩

def O_4 (w : World) (lo : Nat) (v : Value) (x : (Bool)) : Prop := v = .bool x
def s_l1In (a : Int) (b : Int) (d : Int) : (Bool) := bif (decide (b ≤ a)) then (decide (a ≤ d)) else (false)
theorem csl1In (f : World) (a : Int) (e : Int) (d : Int)  : Fn Tryz.prog 57 #[(vi a), (vi e), (vi d)] f (fun v g => Keep f g ∧ O_4 g f.heap.size v (s_l1In a e d)) := by
 refine fn_ofS (n := 15) [(vi a), (vi e), (vi d)] Tryz.func57 rfl rfl ?_
 refine sr ?_
 refine aw (vb false) ?_
 refine nx ?_
 refine mw (vi a) ?_
 refine mw (vi e) ?_
 refine pu (vb (decide (e ≤ a))) wN ?_
 refine mw (vb (decide (e ≤ a))) ?_
 rcases bf (decide (e ≤ a)) with b | b
 ·have h := dF b
  iterate 3 refine sk b ?_
  refine pf (vb false) wN b ?_
  refine aw (vb false) ?_
  refine n3 ?_
  refine rt (vb false) ?_
  refine ⟨Ch.refl _ _, ?_⟩
  simp only [s_l1In, b, cond_true, cond_false]
  exact rfl
 have i := dT b
 refine mv (vi a) (wS b) ?_
 refine mv (vi d) (wS b) ?_
 refine pu (vb (decide (a ≤ d))) (wS b) ?_
 refine pk (vb (decide (a ≤ d))) wN b ?_
 refine aw (vb (decide (a ≤ d))) ?_
 refine n3 ?_
 refine rt (vb (decide (a ≤ d))) ?_
 refine ⟨Ch.refl _ _, ?_⟩
 simp only [s_l1In, b, cond_true, cond_false]
 exact rfl
theorem spec_l1In_t {n a b : Int} (h : s_l1In n a b = true) : a ≤ n ∧ n ≤ b := by
  unfold s_l1In at h
  by_cases h1 : a ≤ n <;> simp [h1] at h
  exact ⟨h1, h⟩
theorem spec_l1In_f {n a b : Int} (h : s_l1In n a b = false) : n < a ∨ b < n := by
  unfold s_l1In at h
  by_cases h1 : a ≤ n <;> simp [h1] at h <;> omega

def s_l8Bit (b : PWin) (a : Int) : (Bool) := decide ((((b.Bits.getD (((a % 1024) / 32)).toNat 0) / (2 : Int) ^ (((a % 1024) % 32)).toNat) % 2) = 1)
theorem csl8Bit (d : World) (h : Value) (b : PWin) (k : R_31 d h b) (a : Int) (q : b.Bits.length = 32) (r : 0 ≤ a) : Fn Tryz.prog 137 #[h, (vi a)] d (fun v i => Keep d i ∧ O_4 i d.heap.size v (s_l8Bit b a)) := by
 obtain ⟨e, f, rfl, j, s⟩ := k
 refine fn_ofS (n := 19) [(va (L_31 b e f)), (vi a)] Tryz.func137 rfl rfl ?_
 refine sr ?_
 refine bx (L_31 b e f) wN ?_
 intro l t u w m o
 have g := (Ch.base d).extk m
 refine aw (vb false) ?_
 refine nx ?_
 refine mw (vi a) ?_
 refine wl_rem a 1024 wN rfl rfl (by kernel_rfl) (by first | omega | assumption) ?_
 refine aw (vi (a % 1024)) ?_
 refine nx ?_
 refine pu (vp l 1) wN ?_
 refine ld (vs e b.Bits.length f) wN isAgg_23 o ?_
 refine mw (vi (a % 1024)) ?_
 refine wl_quo (a % 1024) 32 wN rfl rfl (by kernel_rfl) (by omega) (by omega) (by omega) ?_
 refine ix wN ((a % 1024) / 32) slTy_23 (j.from0 g) ?_
 refine ei (x := b.Bits) ((((a % 1024) / 32)).toNat) wN isAgg_3 (j.from0 g) ?_
 refine mw (vi (a % 1024)) ?_
 refine wl_rem (a % 1024) 32 wN rfl rfl (by kernel_rfl) (by first | omega | assumption) ?_
 refine wl_shr (b.Bits.getD (((a % 1024) / 32)).toNat 0) ((a % 1024) % 32) wN rfl rfl rfl rfl rfl (by omega) (by omega) ?_
 refine wl_and ((b.Bits.getD (((a % 1024) / 32)).toNat 0) / (2 : Int) ^ (((a % 1024) % 32)).toNat) 1 2 1 wN rfl rfl (by decide) (by decide) (by decide) (by kernel_rfl) ?_
 refine pu (vb (decide ((((b.Bits.getD (((a % 1024) / 32)).toNat 0) / (2 : Int) ^ (((a % 1024) % 32)).toNat) % 2) = 1))) wN ?_
 refine aw (vb (decide ((((b.Bits.getD (((a % 1024) / 32)).toNat 0) / (2 : Int) ^ (((a % 1024) % 32)).toNat) % 2) = 1))) ?_
 refine n3 ?_
 refine rt (vb (decide ((((b.Bits.getD (((a % 1024) / 32)).toNat 0) / (2 : Int) ^ (((a % 1024) % 32)).toNat) % 2) = 1))) ?_
 refine ⟨g.keep0, ?_⟩
 have p : s_l8Bit b a = decide ((((b.Bits.getD (((a % 1024) / 32)).toNat 0) / (2 : Int) ^ (((a % 1024) % 32)).toNat) % 2) = 1) := by rfl
 rw [p]
 exact rfl

def sWin (w : PWin) : Bool := bif (decide ((w.Bits.length : Int) = 32)) then (bif s_l1In w.Top (-1) 281474976710655 then (bif allW w.Bits then (bif decide (0 ≤ w.Top) && !(s_l8Bit w w.Top) then false else noneIn (s_l8Bit w) (w.Top + 1) 1024) else false) else false) else false
theorem csWinOk (s : World) (W : Value) (d : PWin) (an : R_31 s W d)  : Fn Tryz.prog 125 #[W] s (fun v t => Keep s t ∧ O_4 t s.heap.size v (sWin d)) := by
 obtain ⟨E, F, rfl, H, N⟩ := an
 refine fn_ofS (n := 46) [(va (L_31 d E F))] Tryz.func125 rfl rfl ?_
 refine sr ?_
 refine bx (L_31 d E F) wN ?_
 intro o ao a9 L ap M
 have O := (Ch.base s).extk ap
 refine aw (vb false) ?_
 refine n4 ?_
 refine jT1 [(1, (vp o 0)), (2, (vb false))] (sWin d = false) ?_ fun X => ?_
 ·intro aq G au aA
  have av := O.extk au
  refine sr ?_
  refine aw (vb false) ?_
  refine n1 ?_
  refine rt (vb false) ?_
  refine ⟨av.keep0, ?_⟩
  rw [aq]
  exact rfl
 refine pu (vp o 1) wN ?_
 refine ld (vs E d.Bits.length F) wN isAgg_23 M ?_
 refine ln wN slTy_23 (H.from0 O) ?_
 refine pu (vb (!(decide ((d.Bits.length : Int) = 32)))) wN ?_
 refine mw (vb (!(decide ((d.Bits.length : Int) = 32)))) ?_
 rcases bf (decide ((d.Bits.length : Int) = 32)) with e | e
 ·have aB := dF e
  iterate 4 refine sk (cA not e) ?_
  refine pk (vb true) wN (cA not e) ?_
  refine n2 ?_
  refine ct (Eq.refl true) ?_
  have ax : sWin d = false := by first | (simp [sWin, e]; done) | (have hz := allW_no (x := d.Bits) (k := i) (by omega) (by assumption); simp [sWin, e, hz]; done) | (have hy := allW_all (x := d.Bits) (k := i) (by assumption) (by omega); simp [sWin, e, hy]; done) | (have hy := allW_all (x := d.Bits) (k := i) (by assumption) (by omega); have hz := noneIn_f (f := s_l8Bit d) (a := d.Top + 1) (b := 1024) (q := q) (by assumption) (by omega) (by omega); simp [sWin, e, hy, hz]; done) | (have hy := allW_all (x := d.Bits) (k := i) (by assumption) (by omega); have hz := noneIn_t (f := s_l8Bit d) (a := d.Top + 1) (b := 1024) (q := q) (by assumption) (by omega); simp [sWin, e, hy, hz]; done)
  exact wj (X ax _ (Ch.refl _ _))
 have aC := dT e
 refine pu (vp o 0) (wS (cA not e)) ?_
 refine ld (vi d.Top) (wS (cA not e)) isAgg_3 M ?_
 refine cl (wS (cA not e)) (csl1In ao d.Top (-1) 281474976710655) ?_
 rintro _ G ⟨B, rfl⟩
 have ay := O.extk B
 refine pu (vb (!(s_l1In d.Top (-1) 281474976710655))) (wS (cA not e)) ?_
 refine pf (vb (!(s_l1In d.Top (-1) 281474976710655))) wN (cA not e) ?_
 refine n2 ?_
 rcases bf (s_l1In d.Top (-1) 281474976710655) with g | g
 ·have aD := spec_l1In_f g
  refine ct (cA not g) ?_
  have az : sWin d = false := by first | (simp [sWin, e, g]; done) | (have hz := allW_no (x := d.Bits) (k := i) (by omega) (by assumption); simp [sWin, e, g, hz]; done) | (have hy := allW_all (x := d.Bits) (k := i) (by assumption) (by omega); simp [sWin, e, g, hy]; done) | (have hy := allW_all (x := d.Bits) (k := i) (by assumption) (by omega); have hz := noneIn_f (f := s_l8Bit d) (a := d.Top + 1) (b := 1024) (q := q) (by assumption) (by omega) (by omega); simp [sWin, e, g, hy, hz]; done) | (have hy := allW_all (x := d.Bits) (k := i) (by assumption) (by omega); have hz := noneIn_t (f := s_l8Bit d) (a := d.Top + 1) (b := 1024) (q := q) (by assumption) (by omega); simp [sWin, e, g, hy, hz]; done)
  exact wj (X az _ B)
 have aE := spec_l1In_t g
 refine cf (cA not g) ?_
 refine y2 ?_
 refine aw (vi 0) ?_
 refine wl_nil <| wq_then <| wc_block ?_
 refine wc_loopP [(1, (vp o 0)), (3, (vi ((0 : Nat) : Int)))] ⟨rfl, (cA (Value.int .i64) (show (0 : Int) = ((0 : Nat) : Int) by omega)), trivial⟩ (fun e' t => ∃ (i : Nat) (Y : Env), e' = pt Y [(1, (vp o 0)), (3, (vi ((i : Nat) : Int)))] ∧ Ch (fun k => s.heap.size ≤ k) s t ∧ Ch (fun k => G.heap.size ≤ k) G t ∧ i ≤ 32 ∧ allW (d.Bits.take i) = true) (fun e' _ => (32 - (intOf (e' 3))).toNat) ?_ ?_
 ·exact fun u => ⟨0, u, rfl, ay, (Ch.refl (fun k => G.heap.size ≤ k) G), (by omega), (by first | rfl | exact allW_next (by assumption) (by omega) (by assumption))⟩
 ·rintro _ A ⟨i, Y, rfl, I, K, aF, aG⟩
  refine wc_seq <| sr ?_
  refine mw (vi ((i : Nat) : Int)) ?_
  refine pu (vb (decide (((i : Nat) : Int) < 32))) wN ?_
  refine n2 ?_
  rcases bt (decide (((i : Nat) : Int) < 32)) with j | j
  ·have aH := dT j
   refine ct j ?_
   refine wc_skip <| wq_then <| wc_seq <| wc_block <| sr ?_
   refine pu (vp o 1) wN ?_
   have a0 := ((M.kp B).ch K (Nat.not_le.2 (nL L B.size)))
   refine ld (vs E d.Bits.length F) wN isAgg_23 a0 ?_
   refine mw (vi ((i : Nat) : Int)) ?_
   refine ix wN ((i : Nat) : Int) slTy_23 (H.from0 I) ?_
   refine ei (x := d.Bits) i wN isAgg_3 (H.from0 I) ?_
   refine cl wN (csl1In A (d.Bits.getD i 0) 0 4294967295) ?_
   rintro _ w ⟨Z, rfl⟩
   have aa := I.extk Z
   refine pu (vb (!(s_l1In (d.Bits.getD i 0) 0 4294967295))) wN ?_
   refine n2 ?_
   rcases bt (s_l1In (d.Bits.getD i 0) 0 4294967295) with y | y
   ·have aI := spec_l1In_t y
    refine cf (cA not y) ?_
    refine wc_skip <| wq_blk_normal <| wq_then <| wc_region ?_
    refine mw (vi ((i : Nat) : Int)) ?_
    refine ar (((i : Nat) : Int) + 1) wN ?_
    refine aw (vi (((i : Nat) : Int) + 1)) ?_
    refine wl_nil ?_
    refine wq_loopP (w0 := A) [(1, (vp o 0)), (3, (vi (((i + 1) : Nat) : Int)))] ?_ ?_ ?_
    · exact ⟨rfl, (cA (Value.int .i64) (show ((((i : Nat) : Int) + 1) : Int) = (((i + 1) : Nat) : Int) by omega)), trivial⟩
    · exact fun u => ⟨(i + 1), u, rfl, aa, (((Ch.refl (fun k => G.heap.size ≤ k) G).ext K (fun k hk => hk)).extk Z), (by omega), (by first | rfl | exact allW_next (by assumption) (by omega) (by assumption))⟩
    · show (32 - (((i + 1) : Nat) : Int)).toNat < (32 - ((i : Nat) : Int)).toNat; omega
   have aJ := spec_l1In_f y
   refine ct (cA not y) ?_
   refine sr ?_
   refine aw (vb false) ?_
   refine wl_nil <| wq_then <| wc_ret <| wq_blk_ret <| wq_then_ret <| wq_then_ret <| wq_blk_ret <| wq_then_ret ?_
   refine rt (vb false) ?_
   refine ⟨aa.keep0, ?_⟩
   have a1 : sWin d = false := by first | (simp [sWin, e, g, j, y]; done) | (have hz := allW_no (x := d.Bits) (k := i) (by omega) (by assumption); simp [sWin, e, g, j, y, hz]; done) | (have hy := allW_all (x := d.Bits) (k := i) (by assumption) (by omega); simp [sWin, e, g, j, y, hy]; done) | (have hy := allW_all (x := d.Bits) (k := i) (by assumption) (by omega); have hz := noneIn_f (f := s_l8Bit d) (a := d.Top + 1) (b := 1024) (q := q) (by assumption) (by omega) (by omega); simp [sWin, e, g, j, y, hy, hz]; done) | (have hy := allW_all (x := d.Bits) (k := i) (by assumption) (by omega); have hz := noneIn_t (f := s_l8Bit d) (a := d.Top + 1) (b := 1024) (q := q) (by assumption) (by omega); simp [sWin, e, g, j, y, hy, hz]; done)
   rw [a1]
   exact rfl
  have aK := dF j
  refine cf j ?_
  refine wc_exit <| wq_then_exit <| wq_then_exit <| wq_blk_exit <| wq_then <| wc_seq <| sr ?_
  refine pu (vp o 0) wN ?_
  have J := ((M.kp B).ch K (Nat.not_le.2 (nL L B.size)))
  refine ld (vi d.Top) wN isAgg_3 J ?_
  refine pu (vb (decide (0 ≤ d.Top))) wN ?_
  refine mw (vb (decide (0 ≤ d.Top))) ?_
  rcases bf (decide (0 ≤ d.Top)) with h | h
  ·have aL := dF h
   iterate 5 refine sk h ?_
   refine pf (vb false) wN h ?_
   refine n2 ?_
   refine cf (Eq.refl false) ?_
   refine y2 ?_
   refine pu (vp o 0) wN ?_
   refine ld (vi d.Top) wN isAgg_3 J ?_
   refine ar (d.Top + 1) wN ?_
   refine aw (vi (d.Top + 1)) ?_
   refine wl_nil <| wq_then <| wc_block ?_
   refine wc_loopP [(1, (vp o 0)), (4, (vi (d.Top + 1)))] ⟨rfl, rfl, trivial⟩ (fun e' t => ∃ (q : Int) (ab : Env), e' = pt ab [(1, (vp o 0)), (4, (vi q))] ∧ Ch (fun k => s.heap.size ≤ k) s t ∧ Ch (fun k => A.heap.size ≤ k) A t ∧ d.Top + 1 ≤ q ∧ q ≤ 281474976710656 ∧ ∀ m : Int, d.Top + 1 ≤ m → m < q → s_l8Bit d m = false) (fun e' _ => (1024 - (intOf (e' 4))).toNat) ?_ ?_
   ·exact fun u => ⟨(d.Top + 1), u, rfl, I, (Ch.refl (fun k => A.heap.size ≤ k) A), (by omega), (by omega), (by first | (intro m P Q; omega) | exact none_next (by assumption) (by assumption))⟩
   ·rintro _ w ⟨q, ab, rfl, R, ac, aM, aN, aO⟩
    refine wc_seq <| sr ?_
    refine mw (vi q) ?_
    refine pu (vb (decide (q < 1024))) wN ?_
    refine n2 ?_
    rcases bf (decide (q < 1024)) with p | p
    ·have aP := dF p
     refine cf p ?_
     refine wc_exit <| wq_then_exit <| wq_then_exit <| wq_blk_exit <| wq_then <| sr ?_
     refine aw (vb true) ?_
     refine n3 ?_
     refine rt (vb true) ?_
     refine ⟨R.keep0, ?_⟩
     have a2 : sWin d = true := by first | (simp [sWin, e, g, j, h, p]; done) | (have hz := allW_no (x := d.Bits) (k := i) (by omega) (by assumption); simp [sWin, e, g, j, h, p, hz]; done) | (have hy := allW_all (x := d.Bits) (k := i) (by assumption) (by omega); simp [sWin, e, g, j, h, p, hy]; done) | (have hy := allW_all (x := d.Bits) (k := i) (by assumption) (by omega); have hz := noneIn_f (f := s_l8Bit d) (a := d.Top + 1) (b := 1024) (q := q) (by assumption) (by omega) (by omega); simp [sWin, e, g, j, h, p, hy, hz]; done) | (have hy := allW_all (x := d.Bits) (k := i) (by assumption) (by omega); have hz := noneIn_t (f := s_l8Bit d) (a := d.Top + 1) (b := 1024) (q := q) (by assumption) (by omega); simp [sWin, e, g, j, h, p, hy, hz]; done)
     rw [a2]
     exact rfl
    have aQ := dT p
    refine ct p ?_
    refine wc_skip <| wq_then <| wc_seq <| wc_block <| sr ?_
    have a3 := (J.ch ac (Nat.not_le.2 (nL L (z2 B K))))
    refine lN (L_31 d E F) wN isAgg_31 sizeOf_31 a3 ?_
    refine mw (vi q) ?_
    refine cl wN (csl8Bit w _ d (mR_31 (H.from0 R) N) q (by first | assumption | omega) (by first | assumption | omega)) ?_
    rintro _ S ⟨ad, rfl⟩
    have ae := R.extk ad
    refine n2 ?_
    rcases bf (s_l8Bit d q) with C | C
    ·refine cf C ?_
     refine wc_skip <| wq_blk_normal <| wq_then <| wc_region ?_
     refine mw (vi q) ?_
     refine ar (q + 1) wN ?_
     refine aw (vi (q + 1)) ?_
     refine wl_nil ?_
     refine wq_loopP (w0 := w) [(1, (vp o 0)), (4, (vi (q + 1)))] ?_ ?_ ?_
     · exact ⟨rfl, rfl, trivial⟩
     · exact fun u => ⟨(q + 1), u, rfl, ae, (((Ch.refl (fun k => A.heap.size ≤ k) A).ext ac (fun k hk => hk)).extk ad), (by omega), (by omega), (by first | (intro m P Q; omega) | exact none_next (by assumption) (by assumption))⟩
     · show (1024 - (q + 1)).toNat < (1024 - q).toNat; omega
    refine ct C ?_
    refine sr ?_
    refine aw (vb false) ?_
    refine wl_nil <| wq_then <| wc_ret <| wq_blk_ret <| wq_then_ret <| wq_then_ret <| wq_blk_ret <| wq_then_ret ?_
    refine rt (vb false) ?_
    refine ⟨ae.keep0, ?_⟩
    have a4 : sWin d = false := by first | (simp [sWin, e, g, j, h, p, C]; done) | (have hz := allW_no (x := d.Bits) (k := i) (by omega) (by assumption); simp [sWin, e, g, j, h, p, C, hz]; done) | (have hy := allW_all (x := d.Bits) (k := i) (by assumption) (by omega); simp [sWin, e, g, j, h, p, C, hy]; done) | (have hy := allW_all (x := d.Bits) (k := i) (by assumption) (by omega); have hz := noneIn_f (f := s_l8Bit d) (a := d.Top + 1) (b := 1024) (q := q) (by assumption) (by omega) (by omega); simp [sWin, e, g, j, h, p, C, hy, hz]; done) | (have hy := allW_all (x := d.Bits) (k := i) (by assumption) (by omega); have hz := noneIn_t (f := s_l8Bit d) (a := d.Top + 1) (b := 1024) (q := q) (by assumption) (by omega); simp [sWin, e, g, j, h, p, C, hy, hz]; done)
    rw [a4]
    exact rfl
  have aR := dT h
  refine lN (L_31 d E F) (wS h) isAgg_31 sizeOf_31 J ?_
  refine pu (vp o 0) (wS h) ?_
  refine ld (vi d.Top) (wS h) isAgg_3 J ?_
  refine cl (wS h) (csl8Bit A _ d (mR_31 (H.from0 I) N) d.Top (by first | assumption | omega) (by first | assumption | omega)) ?_
  rintro _ w ⟨T, rfl⟩
  have af := I.extk T
  refine pu (vb (!(s_l8Bit d d.Top))) (wS h) ?_
  refine pk (vb (!(s_l8Bit d d.Top))) wN h ?_
  refine n2 ?_
  rcases bf (s_l8Bit d d.Top) with l | l
  ·refine ct (cA not l) ?_
   refine sr ?_
   refine aw (vb false) ?_
   refine n1 ?_
   refine rt (vb false) ?_
   refine ⟨af.keep0, ?_⟩
   have a5 : sWin d = false := by first | (simp [sWin, e, g, j, h, l]; done) | (have hz := allW_no (x := d.Bits) (k := i) (by omega) (by assumption); simp [sWin, e, g, j, h, l, hz]; done) | (have hy := allW_all (x := d.Bits) (k := i) (by assumption) (by omega); simp [sWin, e, g, j, h, l, hy]; done) | (have hy := allW_all (x := d.Bits) (k := i) (by assumption) (by omega); have hz := noneIn_f (f := s_l8Bit d) (a := d.Top + 1) (b := 1024) (q := q) (by assumption) (by omega) (by omega); simp [sWin, e, g, j, h, l, hy, hz]; done) | (have hy := allW_all (x := d.Bits) (k := i) (by assumption) (by omega); have hz := noneIn_t (f := s_l8Bit d) (a := d.Top + 1) (b := 1024) (q := q) (by assumption) (by omega); simp [sWin, e, g, j, h, l, hy, hz]; done)
   rw [a5]
   exact rfl
  refine cf (cA not l) ?_
  refine y2 ?_
  refine pu (vp o 0) wN ?_
  have ah := (J.kp T)
  refine ld (vi d.Top) wN isAgg_3 ah ?_
  refine ar (d.Top + 1) wN ?_
  refine aw (vi (d.Top + 1)) ?_
  refine wl_nil <| wq_then <| wc_block ?_
  refine wc_loopP [(1, (vp o 0)), (4, (vi (d.Top + 1)))] ⟨rfl, rfl, trivial⟩ (fun e' t => ∃ (q : Int) (ai : Env), e' = pt ai [(1, (vp o 0)), (4, (vi q))] ∧ Ch (fun k => s.heap.size ≤ k) s t ∧ Ch (fun k => w.heap.size ≤ k) w t ∧ d.Top + 1 ≤ q ∧ q ≤ 281474976710656 ∧ ∀ m : Int, d.Top + 1 ≤ m → m < q → s_l8Bit d m = false) (fun e' _ => (1024 - (intOf (e' 4))).toNat) ?_ ?_
  ·exact fun u => ⟨(d.Top + 1), u, rfl, af, (Ch.refl (fun k => w.heap.size ≤ k) w), (by omega), (by omega), (by first | (intro m P Q; omega) | exact none_next (by assumption) (by assumption))⟩
  ·rintro _ S ⟨q, ai, rfl, V, aj, aS, aT, aU⟩
   refine wc_seq <| sr ?_
   refine mw (vi q) ?_
   refine pu (vb (decide (q < 1024))) wN ?_
   refine n2 ?_
   rcases bf (decide (q < 1024)) with r | r
   ·have aV := dF r
    refine cf r ?_
    refine wc_exit <| wq_then_exit <| wq_then_exit <| wq_blk_exit <| wq_then <| sr ?_
    refine aw (vb true) ?_
    refine n3 ?_
    refine rt (vb true) ?_
    refine ⟨V.keep0, ?_⟩
    have a6 : sWin d = true := by first | (simp [sWin, e, g, j, h, l, r]; done) | (have hz := allW_no (x := d.Bits) (k := i) (by omega) (by assumption); simp [sWin, e, g, j, h, l, r, hz]; done) | (have hy := allW_all (x := d.Bits) (k := i) (by assumption) (by omega); simp [sWin, e, g, j, h, l, r, hy]; done) | (have hy := allW_all (x := d.Bits) (k := i) (by assumption) (by omega); have hz := noneIn_f (f := s_l8Bit d) (a := d.Top + 1) (b := 1024) (q := q) (by assumption) (by omega) (by omega); simp [sWin, e, g, j, h, l, r, hy, hz]; done) | (have hy := allW_all (x := d.Bits) (k := i) (by assumption) (by omega); have hz := noneIn_t (f := s_l8Bit d) (a := d.Top + 1) (b := 1024) (q := q) (by assumption) (by omega); simp [sWin, e, g, j, h, l, r, hy, hz]; done)
    rw [a6]
    exact rfl
   have aW := dT r
   refine ct r ?_
   refine wc_skip <| wq_then <| wc_seq <| wc_block <| sr ?_
   have a7 := (ah.ch aj (Nat.not_le.2 (nL L (z3 B K T))))
   refine lN (L_31 d E F) wN isAgg_31 sizeOf_31 a7 ?_
   refine mw (vi q) ?_
   refine cl wN (csl8Bit S _ d (mR_31 (H.from0 V) N) q (by first | assumption | omega) (by first | assumption | omega)) ?_
   rintro _ aX ⟨ak, rfl⟩
   have am := V.extk ak
   refine n2 ?_
   rcases bf (s_l8Bit d q) with D | D
   ·refine cf D ?_
    refine wc_skip <| wq_blk_normal <| wq_then <| wc_region ?_
    refine mw (vi q) ?_
    refine ar (q + 1) wN ?_
    refine aw (vi (q + 1)) ?_
    refine wl_nil ?_
    refine wq_loopP (w0 := S) [(1, (vp o 0)), (4, (vi (q + 1)))] ?_ ?_ ?_
    · exact ⟨rfl, rfl, trivial⟩
    · exact fun u => ⟨(q + 1), u, rfl, am, (((Ch.refl (fun k => w.heap.size ≤ k) w).ext aj (fun k hk => hk)).extk ak), (by omega), (by omega), (by first | (intro m P Q; omega) | exact none_next (by assumption) (by assumption))⟩
    · show (1024 - (q + 1)).toNat < (1024 - q).toNat; omega
   refine ct D ?_
   refine sr ?_
   refine aw (vb false) ?_
   refine wl_nil <| wq_then <| wc_ret <| wq_blk_ret <| wq_then_ret <| wq_then_ret <| wq_blk_ret <| wq_then_ret ?_
   refine rt (vb false) ?_
   refine ⟨am.keep0, ?_⟩
   have a8 : sWin d = false := by first | (simp [sWin, e, g, j, h, l, r, D]; done) | (have hz := allW_no (x := d.Bits) (k := i) (by omega) (by assumption); simp [sWin, e, g, j, h, l, r, D, hz]; done) | (have hy := allW_all (x := d.Bits) (k := i) (by assumption) (by omega); simp [sWin, e, g, j, h, l, r, D, hy]; done) | (have hy := allW_all (x := d.Bits) (k := i) (by assumption) (by omega); have hz := noneIn_f (f := s_l8Bit d) (a := d.Top + 1) (b := 1024) (q := q) (by assumption) (by omega) (by omega); simp [sWin, e, g, j, h, l, r, D, hy, hz]; done) | (have hy := allW_all (x := d.Bits) (k := i) (by assumption) (by omega); have hz := noneIn_t (f := s_l8Bit d) (a := d.Top + 1) (b := 1024) (q := q) (by assumption) (by omega); simp [sWin, e, g, j, h, l, r, D, hy, hz]; done)
   rw [a8]
   exact rfl
theorem sWin_t {w : PWin} (h : sWin w = true) : allW w.Bits = true ∧ w.Bits.length = 32 ∧ -1 ≤ w.Top ∧ w.Top ≤ 281474976710655 := by
  unfold sWin at h
  cases h0 : decide ((w.Bits.length : Int) = 32) with
  | false => simp only [h0, cond_false] at h; cases h
  | true =>
    cases h1 : s_l1In w.Top (-1) 281474976710655 with
    | false => simp only [h0, h1, cond_true, cond_false] at h; cases h
    | true =>
      cases h2 : allW w.Bits with
      | false => simp only [h0, h1, h2, cond_true, cond_false] at h; cases h
      | true =>
        have b := dT h0
        have a := spec_l1In_t h1
        exact ⟨rfl, by omega, a.1, a.2⟩

def s_EpOk (a : PEp) : (Bool) := bif (s_l1In a.N 0 4294967295) then (bif (decide ((a.Key.length : Int) = 32)) then (bif (s_l1In a.Seq 0 281474976710656) then ((sWin a.Win)) else (false)) else (false)) else (false)
theorem csEpOk (f : World) (p : Value) (a : PEp) (u : R_33 f p a)  : Fn Tryz.prog 88 #[p] f (fun v q => Keep f q ∧ O_4 q f.heap.size v (s_EpOk a)) := by
 obtain ⟨i, j, k, l, rfl, w, H, x, y⟩ := u
 refine fn_ofS (n := 22) [(va (L_33 a i j k l))] Tryz.func88 rfl rfl ?_
 refine sr ?_
 refine bx (L_33 a i j k l) wN ?_
 intro g A I J B r
 refine aw (vb false) ?_
 refine nx ?_
 refine pu (vp g 0) wN ?_
 refine ld (vi a.N) wN isAgg_3 r ?_
 refine cl wN (csl1In A a.N 0 4294967295) ?_
 rintro _ C ⟨s, rfl⟩
 have h := ((Ch.base f).extk B).extk s
 refine mw (vb (s_l1In a.N 0 4294967295)) ?_
 rcases bf (s_l1In a.N 0 4294967295) with b | b
 ·have K := spec_l1In_f b
  iterate 4 refine sk b ?_
  refine pf (vb false) wN b ?_
  refine mw (vb false) ?_
  iterate 3 refine sk (Eq.refl false) ?_
  refine pf (vb false) wN (Eq.refl false) ?_
  refine mw (vb false) ?_
  iterate 3 refine sk (Eq.refl false) ?_
  refine pf (vb false) wN (Eq.refl false) ?_
  refine aw (vb false) ?_
  refine n3 ?_
  refine rt (vb false) ?_
  refine ⟨h.keep0, ?_⟩
  simp only [s_EpOk, b, cond_true, cond_false]
  exact rfl
 have L := spec_l1In_t b
 refine pu (vp g 1) (wS b) ?_
 have m := (r.kp s)
 refine ld (vs i a.Key.length j) (wS b) isAgg_22 m ?_
 refine ln (wS b) slTy_22 (w.from0 h) ?_
 refine pu (vb (decide ((a.Key.length : Int) = 32))) (wS b) ?_
 refine pk (vb (decide ((a.Key.length : Int) = 32))) wN b ?_
 refine mw (vb (decide ((a.Key.length : Int) = 32))) ?_
 rcases bf (decide ((a.Key.length : Int) = 32)) with d | d
 ·have M := dF d
  iterate 3 refine sk d ?_
  refine pf (vb false) wN d ?_
  refine mw (vb false) ?_
  iterate 3 refine sk (Eq.refl false) ?_
  refine pf (vb false) wN (Eq.refl false) ?_
  refine aw (vb false) ?_
  refine n3 ?_
  refine rt (vb false) ?_
  refine ⟨h.keep0, ?_⟩
  simp only [s_EpOk, b, d, cond_true, cond_false]
  exact rfl
 have O := dT d
 refine pu (vp g 2) (wS d) ?_
 refine ld (vi a.Seq) (wS d) isAgg_3 m ?_
 refine cl (wS d) (csl1In C a.Seq 0 281474976710656) ?_
 rintro _ D ⟨t, rfl⟩
 have o := h.extk t
 refine pk (vb (s_l1In a.Seq 0 281474976710656)) wN d ?_
 refine mw (vb (s_l1In a.Seq 0 281474976710656)) ?_
 rcases bf (s_l1In a.Seq 0 281474976710656) with e | e
 ·have P := spec_l1In_f e
  iterate 3 refine sk e ?_
  refine pf (vb false) wN e ?_
  refine aw (vb false) ?_
  refine n3 ?_
  refine rt (vb false) ?_
  refine ⟨o.keep0, ?_⟩
  simp only [s_EpOk, b, d, e, cond_true, cond_false]
  exact rfl
 have Q := spec_l1In_t e
 refine pu (vp g 3) (wS e) ?_
 have E := (m.kp t)
 refine lN (L_31 a.Win k l) (wS e) isAgg_31 sizeOf_31 E ?_
 refine cl (wS e) (csWinOk D _ a.Win (mR_31 (x.from0 o) y)) ?_
 rintro _ R ⟨F, rfl⟩
 have G := o.extk F
 refine pk (vb (sWin a.Win)) wN e ?_
 refine aw (vb (sWin a.Win)) ?_
 refine n3 ?_
 refine rt (vb (sWin a.Win)) ?_
 refine ⟨G.keep0, ?_⟩
 simp only [s_EpOk, b, d, e, cond_true, cond_false]
 exact rfl
theorem spec_EpOk_t {e : PEp} (h : s_EpOk e = true) : 0 ≤ e.N ∧ e.N ≤ 4294967295 ∧ (e.Key.length : Int) = 32 ∧ 0 ≤ e.Seq ∧ e.Seq ≤ 281474976710656 ∧ sWin e.Win = true := by
  simp only [s_EpOk, Bool.cond_false_right, Bool.and_eq_true, decide_eq_true_eq] at h
  have a := spec_l1In_t h.1
  have b := spec_l1In_t h.2.2.1
  exact ⟨a.1, a.2, h.2.1, b.1, b.2, h.2.2.2⟩

def s_l14None (a : PEp) : (Bool) := bif (decide (a.N = 0)) then (bif (decide ((a.Key.length : Int) = 0)) then (bif (decide (a.Seq = 0)) then (bif (decide (a.Win.Top = 0)) then (decide ((a.Win.Bits.length : Int) = 0)) else (false)) else (false)) else (false)) else (false)
theorem csl14None (i : World) (p : Value) (a : PEp) (r : R_33 i p a)  : Fn Tryz.prog 89 #[p] i (fun v q => Keep i q ∧ O_4 q i.heap.size v (s_l14None a)) := by
 obtain ⟨k, l, m, o, rfl, s, w, t, x⟩ := r
 refine fn_ofS (n := 30) [(va (L_33 a k l m o))] Tryz.func89 rfl rfl ?_
 refine sr ?_
 refine bx (L_33 a k l m o) wN ?_
 intro g y A B u j
 have h := (Ch.base i).extk u
 refine aw (vb false) ?_
 refine nx ?_
 refine pu (vp g 0) wN ?_
 refine ld (vi a.N) wN isAgg_3 j ?_
 refine pu (vb (decide (a.N = 0))) wN ?_
 refine mw (vb (decide (a.N = 0))) ?_
 rcases bf (decide (a.N = 0)) with b | b
 ·have C := dF b
  iterate 4 refine sk b ?_
  refine pf (vb false) wN b ?_
  refine mw (vb false) ?_
  iterate 3 refine sk (Eq.refl false) ?_
  refine pf (vb false) wN (Eq.refl false) ?_
  refine mw (vb false) ?_
  iterate 4 refine sk (Eq.refl false) ?_
  refine pf (vb false) wN (Eq.refl false) ?_
  refine mw (vb false) ?_
  iterate 5 refine sk (Eq.refl false) ?_
  refine pf (vb false) wN (Eq.refl false) ?_
  refine aw (vb false) ?_
  refine n3 ?_
  refine rt (vb false) ?_
  refine ⟨h.keep0, ?_⟩
  simp only [s_l14None, b, cond_true, cond_false]
  exact rfl
 have D := dT b
 refine pu (vp g 1) (wS b) ?_
 refine ld (vs k a.Key.length l) (wS b) isAgg_22 j ?_
 refine ln (wS b) slTy_22 (s.from0 h) ?_
 refine pu (vb (decide ((a.Key.length : Int) = 0))) (wS b) ?_
 refine pk (vb (decide ((a.Key.length : Int) = 0))) wN b ?_
 refine mw (vb (decide ((a.Key.length : Int) = 0))) ?_
 rcases bf (decide ((a.Key.length : Int) = 0)) with d | d
 ·have E := dF d
  iterate 3 refine sk d ?_
  refine pf (vb false) wN d ?_
  refine mw (vb false) ?_
  iterate 4 refine sk (Eq.refl false) ?_
  refine pf (vb false) wN (Eq.refl false) ?_
  refine mw (vb false) ?_
  iterate 5 refine sk (Eq.refl false) ?_
  refine pf (vb false) wN (Eq.refl false) ?_
  refine aw (vb false) ?_
  refine n3 ?_
  refine rt (vb false) ?_
  refine ⟨h.keep0, ?_⟩
  simp only [s_l14None, b, d, cond_true, cond_false]
  exact rfl
 have F := dT d
 refine pu (vp g 2) (wS d) ?_
 refine ld (vi a.Seq) (wS d) isAgg_3 j ?_
 refine pu (vb (decide (a.Seq = 0))) (wS d) ?_
 refine pk (vb (decide (a.Seq = 0))) wN d ?_
 refine mw (vb (decide (a.Seq = 0))) ?_
 rcases bf (decide (a.Seq = 0)) with e | e
 ·have G := dF e
  iterate 4 refine sk e ?_
  refine pf (vb false) wN e ?_
  refine mw (vb false) ?_
  iterate 5 refine sk (Eq.refl false) ?_
  refine pf (vb false) wN (Eq.refl false) ?_
  refine aw (vb false) ?_
  refine n3 ?_
  refine rt (vb false) ?_
  refine ⟨h.keep0, ?_⟩
  simp only [s_l14None, b, d, e, cond_true, cond_false]
  exact rfl
 have H := dT e
 refine pu (vp g 3) (wS e) ?_
 refine pu (vp g 3) (wS e) ?_
 refine ld (vi a.Win.Top) (wS e) isAgg_3 j ?_
 refine pu (vb (decide (a.Win.Top = 0))) (wS e) ?_
 refine pk (vb (decide (a.Win.Top = 0))) wN e ?_
 refine mw (vb (decide (a.Win.Top = 0))) ?_
 rcases bf (decide (a.Win.Top = 0)) with f | f
 ·have I := dF f
  iterate 5 refine sk f ?_
  refine pf (vb false) wN f ?_
  refine aw (vb false) ?_
  refine n3 ?_
  refine rt (vb false) ?_
  refine ⟨h.keep0, ?_⟩
  simp only [s_l14None, b, d, e, f, cond_true, cond_false]
  exact rfl
 have J := dT f
 refine pu (vp g 3) (wS f) ?_
 refine pu (vp g 4) (wS f) ?_
 refine ld (vs m a.Win.Bits.length o) (wS f) isAgg_23 j ?_
 refine ln (wS f) slTy_23 (t.from0 h) ?_
 refine pu (vb (decide ((a.Win.Bits.length : Int) = 0))) (wS f) ?_
 refine pk (vb (decide ((a.Win.Bits.length : Int) = 0))) wN f ?_
 refine aw (vb (decide ((a.Win.Bits.length : Int) = 0))) ?_
 refine n3 ?_
 refine rt (vb (decide ((a.Win.Bits.length : Int) = 0))) ?_
 refine ⟨h.keep0, ?_⟩
 simp only [s_l14None, b, d, e, f, cond_true, cond_false]
 exact rfl

def s_ChanOk (a : PChan) : (Bool) := bif (s_l1In a.Role 0 1) then (bif (decide ((a.Sn.length : Int) = 12)) then (bif (s_EpOk a.Cur) then (bif a.HasOld then (bif (decide (a.Role = 0)) then (bif (s_EpOk a.Old) then (bif (decide (a.Old.N = (a.Cur.N - 1))) then (bif (s_l1In a.Until 0 1000005) then (bif (decide ((a.Next.length : Int) = 0)) then (true) else (bif (decide ((a.Next.length : Int) = 32)) then (decide (a.Cur.N < 4294967295)) else (false))) else (false)) else (false)) else (false)) else (bif (s_EpOk a.Old) then (bif (decide (a.Old.N = (a.Cur.N - 1))) then (bif (s_l1In a.Until (-1) 1000005) then (bif (decide ((a.Next.length : Int) = 0)) then (true) else (false)) else (false)) else (false)) else (false))) else (bif (s_l14None a.Old) then (bif (decide (a.Until = 0)) then (bif (decide ((a.Next.length : Int) = 0)) then (true) else (bif (decide (a.Role = 0)) then (bif (decide ((a.Next.length : Int) = 32)) then (decide (a.Cur.N < 4294967295)) else (false)) else (false))) else (false)) else (false))) else (false)) else (false)) else (false)
theorem csChanOk (F : World) (av : Value) (a : PChan) (a3 : R_35 F av a)  : Fn Tryz.prog 47 #[av] F (fun v ax => Keep F ax ∧ O_4 ax F.heap.size v (s_ChanOk a)) := by
 obtain ⟨X, Y, Z, aa, ab, ac, G, H, I, J, A, B, rfl, a4, aZ, a5, a6, a7, a8, ad, ae, af, ah, K, ba⟩ := a3
 refine fn_ofS (n := 74) [(va (L_35 a X Y Z aa ab ac G H I J A B))] Tryz.func47 rfl rfl ?_
 refine sr ?_
 refine bx (L_35 a X Y Z aa ab ac G H I J A B) wN ?_
 intro b a9 bb bc aA ay
 have az := (Ch.base F).extk aA
 refine aw (vb false) ?_
 refine n4 ?_
 refine jT1 [(1, (vp b 0)), (2, (vb false))] (s_ChanOk a = false) ?_ fun ai => ?_
 ·intro aB a0 aC bd
  have aD := az.extk aC
  refine sr ?_
  refine aw (vb false) ?_
  refine n1 ?_
  refine rt (vb false) ?_
  refine ⟨aD.keep0, ?_⟩
  rw [aB]
  exact rfl
 refine pu (vp b 0) wN ?_
 refine ld (vi a.Role) wN isAgg_3 ay ?_
 refine cl wN (csl1In a9 a.Role 0 1) ?_
 rintro _ a0 ⟨L, rfl⟩
 have R := az.extk L
 refine pu (vb (!(s_l1In a.Role 0 1))) wN ?_
 refine mw (vb (!(s_l1In a.Role 0 1))) ?_
 rcases bf (s_l1In a.Role 0 1) with d | d
 ·have be := spec_l1In_f d
  iterate 4 refine sk (cA not d) ?_
  refine pk (vb true) wN (cA not d) ?_
  refine mw (vb true) ?_
  iterate 4 refine sk (Eq.refl true) ?_
  refine pk (vb true) wN (Eq.refl true) ?_
  refine n2 ?_
  refine ct (Eq.refl true) ?_
  have aE : s_ChanOk a = false := by simp only [s_ChanOk, d, cond_true, cond_false]
  exact wj (ai aE _ L)
 have bg := spec_l1In_t d
 refine pu (vp b 1) (wS (cA not d)) ?_
 have aj := (ay.kp L)
 refine ld (vs X a.Sn.length Y) (wS (cA not d)) isAgg_22 aj ?_
 refine ln (wS (cA not d)) slTy_22 (a4.from0 R) ?_
 refine pu (vb (!(decide ((a.Sn.length : Int) = 12)))) (wS (cA not d)) ?_
 refine pf (vb (!(decide ((a.Sn.length : Int) = 12)))) wN (cA not d) ?_
 refine mw (vb (!(decide ((a.Sn.length : Int) = 12)))) ?_
 rcases bf (decide ((a.Sn.length : Int) = 12)) with e | e
 ·have bh := dF e
  iterate 4 refine sk (cA not e) ?_
  refine pk (vb true) wN (cA not e) ?_
  refine n2 ?_
  refine ct (Eq.refl true) ?_
  have aF : s_ChanOk a = false := by simp only [s_ChanOk, d, e, cond_true, cond_false]
  exact wj (ai aF _ L)
 have bi := dT e
 refine pu (vp b 2) (wS (cA not e)) ?_
 refine lN (L_33 a.Cur Z aa ab ac) (wS (cA not e)) isAgg_33 sizeOf_33 aj ?_
 refine cl (wS (cA not e)) (csEpOk a0 _ a.Cur (mR_33 (a5.from0 R) a6 (a7.from0 R) a8)) ?_
 rintro _ ak ⟨am, rfl⟩
 have p := R.extk am
 refine pu (vb (!(s_EpOk a.Cur))) (wS (cA not e)) ?_
 refine pf (vb (!(s_EpOk a.Cur))) wN (cA not e) ?_
 refine n2 ?_
 rcases bf (s_EpOk a.Cur) with g | g
 ·refine ct (cA not g) ?_
  have aG : s_ChanOk a = false := by simp only [s_ChanOk, d, e, g, cond_true, cond_false]
  exact wj (ai aG _ (L.trans am))
 have bj := spec_EpOk_t g
 refine cf (cA not g) ?_
 refine y2 ?_
 refine pu (vp b 12) wN ?_
 have w := (aj.kp am)
 refine ld (vb a.HasOld) wN isAgg_4 w ?_
 refine n2 ?_
 rcases bf a.HasOld with h | h
 ·refine cf h ?_
  refine sr ?_
  refine jT1 [(1, (vp b 0)), (2, (vb false))] (s_ChanOk a = false) ?_ fun a1 => ?_
  ·intro aH C aI bk
   have aJ := p.extk aI
   refine sr ?_
   refine aw (vb false) ?_
   refine n1 ?_
   refine rt (vb false) ?_
   refine ⟨aJ.keep0, ?_⟩
   rw [aH]
   exact rfl
  refine pu (vp b 7) wN ?_
  refine lN (L_33 a.Old G H I J) wN isAgg_33 sizeOf_33 w ?_
  refine cl wN (csl14None ak _ a.Old (mR_33 (ad.from0 p) ae (af.from0 p) ah)) ?_
  rintro _ C ⟨S, rfl⟩
  have E := p.extk S
  refine pu (vb (!(s_l14None a.Old))) wN ?_
  refine mw (vb (!(s_l14None a.Old))) ?_
  rcases bf (s_l14None a.Old) with m | m
  ·iterate 3 refine sk (cA not m) ?_
   refine pk (vb true) wN (cA not m) ?_
   refine n2 ?_
   refine ct (Eq.refl true) ?_
   have aK : s_ChanOk a = false := by simp only [s_ChanOk, d, e, g, h, m, cond_true, cond_false]
   exact wj (a1 aK _ S)
  refine pu (vp b 13) (wS (cA not m)) ?_
  have M := (w.kp S)
  refine ld (vi a.Until) (wS (cA not m)) isAgg_3 M ?_
  refine pu (vb (!(decide (a.Until = 0)))) (wS (cA not m)) ?_
  refine pf (vb (!(decide (a.Until = 0)))) wN (cA not m) ?_
  refine n2 ?_
  rcases bf (decide (a.Until = 0)) with s | s
  ·have bl := dF s
   refine ct (cA not s) ?_
   have aL : s_ChanOk a = false := by simp only [s_ChanOk, d, e, g, h, m, s, cond_true, cond_false]
   exact wj (a1 aL _ S)
  have bm := dT s
  refine cf (cA not s) ?_
  refine y2 ?_
  refine pu (vp b 14) wN ?_
  refine ld (vs A a.Next.length B) wN isAgg_22 M ?_
  refine ln wN slTy_22 (K.from0 E) ?_
  refine pu (vb (decide ((a.Next.length : Int) = 0))) wN ?_
  refine n2 ?_
  rcases bt (decide ((a.Next.length : Int) = 0)) with t | t
  ·have bn := dT t
   refine ct t ?_
   refine sr ?_
   refine aw (vb true) ?_
   refine n1 ?_
   refine rt (vb true) ?_
   refine ⟨E.keep0, ?_⟩
   simp only [s_ChanOk, d, e, g, h, m, s, t, cond_true, cond_false]
   exact rfl
  have bo := dF t
  refine cf t ?_
  refine y1 ?_
  refine pu (vp b 0) wN ?_
  refine ld (vi a.Role) wN isAgg_3 M ?_
  refine pu (vb (decide (a.Role = 0))) wN ?_
  refine mw (vb (decide (a.Role = 0))) ?_
  rcases bf (decide (a.Role = 0)) with o | o
  ·have bp := dF o
   iterate 4 refine sk o ?_
   refine pf (vb false) wN o ?_
   refine mw (vb false) ?_
   iterate 4 refine sk (Eq.refl false) ?_
   refine pf (vb false) wN (Eq.refl false) ?_
   refine aw (vb false) ?_
   refine n3 ?_
   refine rt (vb false) ?_
   refine ⟨E.keep0, ?_⟩
   simp only [s_ChanOk, d, e, g, h, m, s, t, o, cond_true, cond_false]
   exact rfl
  have bq := dT o
  refine pu (vp b 14) (wS o) ?_
  refine ld (vs A a.Next.length B) (wS o) isAgg_22 M ?_
  refine ln (wS o) slTy_22 (K.from0 E) ?_
  refine pu (vb (decide ((a.Next.length : Int) = 32))) (wS o) ?_
  refine pk (vb (decide ((a.Next.length : Int) = 32))) wN o ?_
  refine mw (vb (decide ((a.Next.length : Int) = 32))) ?_
  rcases bf (decide ((a.Next.length : Int) = 32)) with q | q
  ·have br := dF q
   iterate 4 refine sk q ?_
   refine pf (vb false) wN q ?_
   refine aw (vb false) ?_
   refine n3 ?_
   refine rt (vb false) ?_
   refine ⟨E.keep0, ?_⟩
   simp only [s_ChanOk, d, e, g, h, m, s, t, o, q, cond_true, cond_false]
   exact rfl
  have bu := dT q
  refine pu (vp b 2) (wS q) ?_
  refine pu (vp b 2) (wS q) ?_
  refine ld (vi a.Cur.N) (wS q) isAgg_3 M ?_
  refine pu (vb (decide (a.Cur.N < 4294967295))) (wS q) ?_
  refine pk (vb (decide (a.Cur.N < 4294967295))) wN q ?_
  refine aw (vb (decide (a.Cur.N < 4294967295))) ?_
  refine n3 ?_
  refine rt (vb (decide (a.Cur.N < 4294967295))) ?_
  refine ⟨E.keep0, ?_⟩
  simp only [s_ChanOk, d, e, g, h, m, s, t, o, q, cond_true, cond_false]
  exact rfl
 refine ct h ?_
 refine sr ?_
 refine aw (vi (-1)) ?_
 refine n4 ?_
 refine pu (vp b 0) wN ?_
 refine ld (vi a.Role) wN isAgg_3 w ?_
 refine pu (vb (decide (a.Role = 0))) wN ?_
 refine n2 ?_
 rcases bf (decide (a.Role = 0)) with f | f
 ·have bv := dF f
  refine cf f ?_
  refine y1 ?_
  refine jT1 [(1, (vp b 0)), (2, (vb false))] (s_ChanOk a = false) ?_ fun an => ?_
  ·intro aM C aN bw
   have aO := p.extk aN
   refine sr ?_
   refine aw (vb false) ?_
   refine n1 ?_
   refine rt (vb false) ?_
   refine ⟨aO.keep0, ?_⟩
   rw [aM]
   exact rfl
  refine pu (vp b 7) wN ?_
  refine lN (L_33 a.Old G H I J) wN isAgg_33 sizeOf_33 w ?_
  refine cl wN (csEpOk ak _ a.Old (mR_33 (ad.from0 p) ae (af.from0 p) ah)) ?_
  rintro _ C ⟨O, rfl⟩
  refine pu (vb (!(s_EpOk a.Old))) wN ?_
  refine mw (vb (!(s_EpOk a.Old))) ?_
  rcases bf (s_EpOk a.Old) with j | j
  ·iterate 8 refine sk (cA not j) ?_
   refine pk (vb true) wN (cA not j) ?_
   refine mw (vb true) ?_
   iterate 5 refine sk (Eq.refl true) ?_
   refine pk (vb true) wN (Eq.refl true) ?_
   refine n2 ?_
   refine ct (Eq.refl true) ?_
   have aP : s_ChanOk a = false := by simp only [s_ChanOk, d, e, g, h, f, j, cond_true, cond_false]
   exact wj (an aP _ O)
  have bz := spec_EpOk_t j
  refine pu (vp b 7) (wS (cA not j)) ?_
  refine pu (vp b 7) (wS (cA not j)) ?_
  have T := (w.kp O)
  refine ld (vi a.Old.N) (wS (cA not j)) isAgg_3 T ?_
  refine pu (vp b 2) (wS (cA not j)) ?_
  refine pu (vp b 2) (wS (cA not j)) ?_
  refine ld (vi a.Cur.N) (wS (cA not j)) isAgg_3 T ?_
  refine ar (a.Cur.N - 1) (wS (cA not j)) ?_
  refine pu (vb (!(decide (a.Old.N = (a.Cur.N - 1))))) (wS (cA not j)) ?_
  refine pf (vb (!(decide (a.Old.N = (a.Cur.N - 1))))) wN (cA not j) ?_
  refine mw (vb (!(decide (a.Old.N = (a.Cur.N - 1))))) ?_
  rcases bf (decide (a.Old.N = (a.Cur.N - 1))) with l | l
  ·have b0 := dF l
   iterate 5 refine sk (cA not l) ?_
   refine pk (vb true) wN (cA not l) ?_
   refine n2 ?_
   refine ct (Eq.refl true) ?_
   have aQ : s_ChanOk a = false := by simp only [s_ChanOk, d, e, g, h, f, j, l, cond_true, cond_false]
   exact wj (an aQ _ O)
  have b1 := dT l
  refine pu (vp b 13) (wS (cA not l)) ?_
  refine ld (vi a.Until) (wS (cA not l)) isAgg_3 T ?_
  refine mv (vi (-1)) (wS (cA not l)) ?_
  refine cl (wS (cA not l)) (csl1In C a.Until (-1) 1000005) ?_
  rintro _ aR ⟨ao, rfl⟩
  have ap := (p.extk O).extk ao
  refine pu (vb (!(s_l1In a.Until (-1) 1000005))) (wS (cA not l)) ?_
  refine pf (vb (!(s_l1In a.Until (-1) 1000005))) wN (cA not l) ?_
  refine n2 ?_
  rcases bf (s_l1In a.Until (-1) 1000005) with x | x
  ·have b2 := spec_l1In_f x
   refine ct (cA not x) ?_
   have aS : s_ChanOk a = false := by simp only [s_ChanOk, d, e, g, h, f, j, l, x, cond_true, cond_false]
   exact wj (an aS _ (O.trans ao))
  have b3 := spec_l1In_t x
  refine cf (cA not x) ?_
  refine y2 ?_
  refine pu (vp b 14) wN ?_
  have a2 := (T.kp ao)
  refine ld (vs A a.Next.length B) wN isAgg_22 a2 ?_
  refine ln wN slTy_22 (K.from0 ap) ?_
  refine pu (vb (decide ((a.Next.length : Int) = 0))) wN ?_
  refine n2 ?_
  rcases bt (decide ((a.Next.length : Int) = 0)) with D | D
  ·have b4 := dT D
   refine ct D ?_
   refine sr ?_
   refine aw (vb true) ?_
   refine n1 ?_
   refine rt (vb true) ?_
   refine ⟨ap.keep0, ?_⟩
   simp only [s_ChanOk, d, e, g, h, f, j, l, x, D, cond_true, cond_false]
   exact rfl
  have b5 := dF D
  refine cf D ?_
  refine y1 ?_
  refine pu (vp b 0) wN ?_
  refine ld (vi a.Role) wN isAgg_3 a2 ?_
  refine pu (vb (decide (a.Role = 0))) wN ?_
  refine mw (vb (decide (a.Role = 0))) ?_
  iterate 4 refine sk f ?_
  refine pf (vb false) wN f ?_
  refine mw (vb false) ?_
  iterate 4 refine sk (Eq.refl false) ?_
  refine pf (vb false) wN (Eq.refl false) ?_
  refine aw (vb false) ?_
  refine n3 ?_
  refine rt (vb false) ?_
  refine ⟨ap.keep0, ?_⟩
  simp only [s_ChanOk, d, e, g, h, f, j, l, x, D, cond_true, cond_false]
  exact rfl
 have b6 := dT f
 refine ct f ?_
 refine wc_region ?_
 refine aw (vi 0) ?_
 refine nx ?_
 refine jT1 [(1, (vp b 0)), (2, (vb false))] (s_ChanOk a = false) ?_ fun aq => ?_
 ·intro aT C aU b7
  have aV := p.extk aU
  refine sr ?_
  refine aw (vb false) ?_
  refine n1 ?_
  refine rt (vb false) ?_
  refine ⟨aV.keep0, ?_⟩
  rw [aT]
  exact rfl
 refine pu (vp b 7) wN ?_
 refine lN (L_33 a.Old G H I J) wN isAgg_33 sizeOf_33 w ?_
 refine cl wN (csEpOk ak _ a.Old (mR_33 (ad.from0 p) ae (af.from0 p) ah)) ?_
 rintro _ C ⟨P, rfl⟩
 refine pu (vb (!(s_EpOk a.Old))) wN ?_
 refine mw (vb (!(s_EpOk a.Old))) ?_
 rcases bf (s_EpOk a.Old) with i | i
 ·iterate 8 refine sk (cA not i) ?_
  refine pk (vb true) wN (cA not i) ?_
  refine mw (vb true) ?_
  iterate 5 refine sk (Eq.refl true) ?_
  refine pk (vb true) wN (Eq.refl true) ?_
  refine n2 ?_
  refine ct (Eq.refl true) ?_
  have aW : s_ChanOk a = false := by simp only [s_ChanOk, d, e, g, h, f, i, cond_true, cond_false]
  exact wj (aq aW _ P)
 have b8 := spec_EpOk_t i
 refine pu (vp b 7) (wS (cA not i)) ?_
 refine pu (vp b 7) (wS (cA not i)) ?_
 have V := (w.kp P)
 refine ld (vi a.Old.N) (wS (cA not i)) isAgg_3 V ?_
 refine pu (vp b 2) (wS (cA not i)) ?_
 refine pu (vp b 2) (wS (cA not i)) ?_
 refine ld (vi a.Cur.N) (wS (cA not i)) isAgg_3 V ?_
 refine ar (a.Cur.N - 1) (wS (cA not i)) ?_
 refine pu (vb (!(decide (a.Old.N = (a.Cur.N - 1))))) (wS (cA not i)) ?_
 refine pf (vb (!(decide (a.Old.N = (a.Cur.N - 1))))) wN (cA not i) ?_
 refine mw (vb (!(decide (a.Old.N = (a.Cur.N - 1))))) ?_
 rcases bf (decide (a.Old.N = (a.Cur.N - 1))) with k | k
 ·have b9 := dF k
  iterate 5 refine sk (cA not k) ?_
  refine pk (vb true) wN (cA not k) ?_
  refine n2 ?_
  refine ct (Eq.refl true) ?_
  have aX : s_ChanOk a = false := by simp only [s_ChanOk, d, e, g, h, f, i, k, cond_true, cond_false]
  exact wj (aq aX _ P)
 have bA := dT k
 refine pu (vp b 13) (wS (cA not k)) ?_
 refine ld (vi a.Until) (wS (cA not k)) isAgg_3 V ?_
 refine mv (vi 0) (wS (cA not k)) ?_
 refine cl (wS (cA not k)) (csl1In C a.Until 0 1000005) ?_
 rintro _ aR ⟨au, rfl⟩
 have Q := (p.extk P).extk au
 refine pu (vb (!(s_l1In a.Until 0 1000005))) (wS (cA not k)) ?_
 refine pf (vb (!(s_l1In a.Until 0 1000005))) wN (cA not k) ?_
 refine n2 ?_
 rcases bf (s_l1In a.Until 0 1000005) with u | u
 ·have bB := spec_l1In_f u
  refine ct (cA not u) ?_
  have aY : s_ChanOk a = false := by simp only [s_ChanOk, d, e, g, h, f, i, k, u, cond_true, cond_false]
  exact wj (aq aY _ (P.trans au))
 have bC := spec_l1In_t u
 refine cf (cA not u) ?_
 refine y2 ?_
 refine pu (vp b 14) wN ?_
 have W := (V.kp au)
 refine ld (vs A a.Next.length B) wN isAgg_22 W ?_
 refine ln wN slTy_22 (K.from0 Q) ?_
 refine pu (vb (decide ((a.Next.length : Int) = 0))) wN ?_
 refine n2 ?_
 rcases bt (decide ((a.Next.length : Int) = 0)) with y | y
 ·have bD := dT y
  refine ct y ?_
  refine sr ?_
  refine aw (vb true) ?_
  refine n1 ?_
  refine rt (vb true) ?_
  refine ⟨Q.keep0, ?_⟩
  simp only [s_ChanOk, d, e, g, h, f, i, k, u, y, cond_true, cond_false]
  exact rfl
 have bE := dF y
 refine cf y ?_
 refine y1 ?_
 refine pu (vp b 0) wN ?_
 refine ld (vi a.Role) wN isAgg_3 W ?_
 refine pu (vb (decide (a.Role = 0))) wN ?_
 refine mw (vb (decide (a.Role = 0))) ?_
 refine pu (vp b 14) (wS f) ?_
 refine ld (vs A a.Next.length B) (wS f) isAgg_22 W ?_
 refine ln (wS f) slTy_22 (K.from0 Q) ?_
 refine pu (vb (decide ((a.Next.length : Int) = 32))) (wS f) ?_
 refine pk (vb (decide ((a.Next.length : Int) = 32))) wN f ?_
 refine mw (vb (decide ((a.Next.length : Int) = 32))) ?_
 rcases bf (decide ((a.Next.length : Int) = 32)) with r | r
 ·have bF := dF r
  iterate 4 refine sk r ?_
  refine pf (vb false) wN r ?_
  refine aw (vb false) ?_
  refine n3 ?_
  refine rt (vb false) ?_
  refine ⟨Q.keep0, ?_⟩
  simp only [s_ChanOk, d, e, g, h, f, i, k, u, y, r, cond_true, cond_false]
  exact rfl
 have bG := dT r
 refine pu (vp b 2) (wS r) ?_
 refine pu (vp b 2) (wS r) ?_
 refine ld (vi a.Cur.N) (wS r) isAgg_3 W ?_
 refine pu (vb (decide (a.Cur.N < 4294967295))) (wS r) ?_
 refine pk (vb (decide (a.Cur.N < 4294967295))) wN r ?_
 refine aw (vb (decide (a.Cur.N < 4294967295))) ?_
 refine n3 ?_
 refine rt (vb (decide (a.Cur.N < 4294967295))) ?_
 refine ⟨Q.keep0, ?_⟩
 simp only [s_ChanOk, d, e, g, h, f, i, k, u, y, r, cond_true, cond_false]
 exact rfl
theorem spec_ChanOk_t {c : PChan} (h : s_ChanOk c = true) : 0 ≤ c.Cur.N ∧ c.Cur.N ≤ 4294967295 ∧ 0 ≤ c.Role ∧ c.Role ≤ 1 := by
  simp only [s_ChanOk, Bool.cond_false_right, Bool.and_eq_true] at h
  have b := spec_l1In_t h.1
  have a := spec_EpOk_t h.2.2.1
  exact ⟨a.1, a.2.1, by omega, by omega⟩

theorem csPutN (e : World) (B : Value) (d : List UInt8) (S : R_22 e B d) (b : Int) (a : Int) (aj : d.length ≤ 1000000) : Fn Tryz.prog 100 #[B, (vi b), (vi a)] e (fun v o => Keep e o ∧ O_22 o e.heap.size v (putN d b a)) := by
 obtain ⟨C, D, rfl, T, E⟩ := S
 refine fn_ofS (n := 35) [(vs C d.length D), (vi b), (vi a)] Tryz.func100 rfl rfl ?_
 refine sr ?_
 refine aw (vs none 0 0) ?_
 refine nx ?_
 refine wl_lit0 wN rfl rfl slTy_22 (fun w => by kernel_rfl) ?_
 intro ak am y V
 have F := (Ch.base e).extk y
 refine mw (vs C d.length D) ?_
 refine ap0 d wN slTy_22 V (T.from0 F) y.size ?_
 intro f g A G H an
 have I := F.extk G
 refine aw (vs f d.length g) ?_
 refine n4 ?_
 refine jT1 [(1, (vi b)), (2, (vi a)), (6, (vs none 0 0)), (7, (vs f d.length g))] (putN d b a = d) ?_ fun J => ?_
 ·intro W K L ao
  have X := I.extk L
  refine sr ?_
  refine mw (vs f d.length g) ?_
  refine aw (vs f d.length g) ?_
  refine n1 ?_
  have Y := (own_kp H L)
  refine rt (vs f d.length g) ?_
  refine ⟨X.keep0, ?_⟩
  rw [W]
  exact ⟨_, _, rfl, Y, E, ⟨trivial, trivial⟩⟩
 refine mw (vi a) ?_
 refine pu (vb (decide (a < 1))) wN ?_
 refine mw (vb (decide (a < 1))) ?_
 rcases bt (decide (a < 1)) with h | h
 ·have ap := dT h
  iterate 2 refine sk h ?_
  refine pk (vb true) wN h ?_
  refine n2 ?_
  refine ct (Eq.refl true) ?_
  have Z : putN d b a = d := by first | exact putN_out (by omega) | exact putN_end (by omega) (by omega) (by omega)
  exact wj (J Z _ (Ch.refl _ _))
 have aq := dF h
 refine mv (vi a) (wS h) ?_
 refine pu (vb (decide (6 < a))) (wS h) ?_
 refine pf (vb (decide (6 < a))) wN h ?_
 refine n2 ?_
 rcases bt (decide (6 < a)) with p | p
 ·have au := dT p
  refine ct p ?_
  have aa : putN d b a = d := by first | exact putN_out (by omega) | exact putN_end (by omega) (by omega) (by omega)
  exact wj (J aa _ (Ch.refl _ _))
 have av := dF p
 refine cf p ?_
 refine y2 ?_
 refine mw (vi a) ?_
 refine ar (a - 1) wN ?_
 refine aw (vi (a - 1)) ?_
 refine wl_nil <| wq_then <| wc_block ?_
 have M : (d : List UInt8) = d ++ putK b a 0 := by simp [putK]
 refine wc_loopP [(1, (vi b)), (6, (vs none 0 0)), (7, (.slice f (d ++ putK b a 0).length g)), (8, (vi (a - 1 - ((0 : Nat) : Int))))] ⟨rfl, rfl, (cA (fun l : List UInt8 => Value.slice f l.length g) M), (cA (Value.int .i64) (show ((a - 1) : Int) = (a - 1 - ((0 : Nat) : Int)) by omega)), trivial⟩ (fun e' o => ∃ (j : Nat) (N : Env) (i : Option Addr) (m : Nat), e' = pt N [(1, (vi b)), (6, (vs none 0 0)), (7, (.slice i (d ++ putK b a j).length m)), (8, (vi (a - 1 - ((j : Nat) : Int))))] ∧ Ch (fun k => e.heap.size ≤ k) e o ∧ Ch (fun k => e.heap.size ≤ k) A o ∧ ((j : Nat) : Int) ≤ a ∧ (World.ownsRow o e.heap.size 5 1 (.slice i (d ++ putK b a j).length m) (d ++ putK b a j).length ((d ++ putK b a j).map bV) ∧ (d ++ putK b a j).length ≤ 1073741824)) (fun e' _ => ((intOf (e' 8)) + 1).toNat) ?_ ?_
 ·exact fun u => ⟨0, u, f, g, rfl, I, (Ch.refl (fun k => e.heap.size ≤ k) A), (by omega), (M ▸ ⟨H, E⟩)⟩
 ·rintro _ K ⟨j, N, i, m, rfl, O, P, ax, ⟨r, ab⟩⟩
  have hpl := putK_len b a j
  refine wc_seq <| sr ?_
  refine mw (vi (a - 1 - ((j : Nat) : Int))) ?_
  refine pu (vb (decide (0 ≤ (a - 1 - ((j : Nat) : Int))))) wN ?_
  refine n2 ?_
  rcases bf (decide (0 ≤ (a - 1 - ((j : Nat) : Int)))) with q | q
  ·have ay := dF q
   refine cf q ?_
   refine wc_exit <| wq_then_exit <| wq_then_exit <| wq_blk_exit <| wq_then <| sr ?_
   refine mw (vs i (d ++ putK b a j).length m) ?_
   refine aw (vs i (d ++ putK b a j).length m) ?_
   refine n3 ?_
   refine rt (vs i (d ++ putK b a j).length m) ?_
   refine ⟨O.keep0, ?_⟩
   have ac : putN d b a = (d ++ putK b a j) := by first | exact putN_out (by omega) | exact putN_end (by omega) (by omega) (by omega)
   rw [ac]
   exact ⟨_, _, rfl, r, ab, ⟨trivial, trivial⟩⟩
  have az := dT q
  refine ct q ?_
  refine wc_skip <| wq_then <| wc_seq <| wc_block <| wc_region ?_
  refine mw (vs i (d ++ putK b a j).length m) ?_
  refine mw (vi b) ?_
  refine mw (vi (a - 1 - ((j : Nat) : Int))) ?_
  refine ar (8 * (a - 1 - ((j : Nat) : Int))) wN ?_
  refine wl_shr b (8 * (a - 1 - ((j : Nat) : Int))) wN rfl rfl rfl rfl rfl (by omega) (by omega) ?_
  refine wl_and (b / (2 : Int) ^ ((8 * (a - 1 - ((j : Nat) : Int)))).toNat) 255 256 8 wN rfl rfl (by decide) (by decide) (by decide) (by kernel_rfl) ?_
  refine wl_conv8 ((b / (2 : Int) ^ ((8 * (a - 1 - ((j : Nat) : Int)))).toNat) % 256) wN rfl rfl (by kernel_rfl) ?_
  refine ltB ([(by8 ((b / (2 : Int) ^ ((8 * (a - 1 - ((j : Nat) : Int)))).toNat) % 256))] : List UInt8) wN slTy_22 ?_
  intro a0 a1 a2 s ad
  have ae := (own_kp r s)
  refine apB (d ++ putK b a j) ([(by8 ((b / (2 : Int) ^ ((8 * (a - 1 - ((j : Nat) : Int)))).toNat) % 256))] : List UInt8) wN slTy_22 ae (Rd.of_own ad) (z4 y G P s) ?_
  intro t x a3 Q af a4 ah
  have ai := (O.extk s).ext Q (fun k hk => nT (Nat.le_refl e.heap.size) (own_lt r k hk).1)
  refine aw (vs t ((d ++ putK b a j) ++ ([(by8 ((b / (2 : Int) ^ ((8 * (a - 1 - ((j : Nat) : Int)))).toNat) % 256))] : List UInt8)).length x) ?_
  refine wl_nil <| wq_blk_normal <| wq_then <| wc_region ?_
  refine mw (vi (a - 1 - ((j : Nat) : Int))) ?_
  refine ar ((a - 1 - ((j : Nat) : Int)) - 1) wN ?_
  refine aw (vi ((a - 1 - ((j : Nat) : Int)) - 1)) ?_
  refine wl_nil ?_
  have R : (((d ++ putK b a j) ++ ([(by8 ((b / (2 : Int) ^ ((8 * (a - 1 - ((j : Nat) : Int)))).toNat) % 256))] : List UInt8)) : List UInt8) = d ++ putK b a (j + 1) := by simp [putK]
  refine wq_loopP (w0 := K) [(1, (vi b)), (6, (vs none 0 0)), (7, (.slice t (d ++ putK b a (j + 1)).length x)), (8, (vi (a - 1 - (((j + 1) : Nat) : Int))))] ?_ ?_ ?_
  · exact ⟨rfl, rfl, (cA (fun l : List UInt8 => Value.slice t l.length x) R), (cA (Value.int .i64) (show (((a - 1 - ((j : Nat) : Int)) - 1) : Int) = (a - 1 - (((j + 1) : Nat) : Int)) by omega)), trivial⟩
  · exact fun u => ⟨(j + 1), u, t, x, rfl, ai, ((((Ch.refl (fun k => e.heap.size ≤ k) A).ext P (fun k hk => hk)).extk s).ext Q (fun k hk => nT (Nat.le_refl e.heap.size) (own_lt r k hk).1)), (by omega), (R ▸ ⟨af, ah⟩)⟩
  · show ((a - 1 - (((j + 1) : Nat) : Int)) + 1).toNat < ((a - 1 - ((j : Nat) : Int)) + 1).toNat; omega

theorem csHeadOf (i : World) (a : Int) (t : Value) (b : List UInt8) (K : R_22 i t b) (d : Int) (e : Int)  : Fn Tryz.prog 90 #[(vi a), t, (vi d), (vi e)] i (fun v u => Keep i u ∧ O_22 u i.heap.size v (headOf a b d e)) := by
 obtain ⟨o, p, rfl, x, ah⟩ := K
 refine fn_ofS (n := 37) [(vi a), (vs o b.length p), (vi d), (vi e)] Tryz.func90 rfl rfl ?_
 refine sr ?_
 refine aw (vs none 0 0) ?_
 refine n4 ?_
 refine jT1 [(0, (vi a)), (1, (vs o b.length p)), (2, (vi d)), (3, (vi e)), (8, (vs none 0 0))] (headOf a b d e = []) ?_ fun q => ?_
 ·intro L y A ai
  refine sr ?_
  refine wl_lit0 wN rfl rfl slTy_22 (fun w => by kernel_rfl) ?_
  intro B C M N
  have O := ((Ch.base i).extk A).extk M
  refine aw (vs (some B) 0 0) ?_
  refine n1 ?_
  refine rt (vs (some B) 0 0) ?_
  refine ⟨O.keep0, ?_⟩
  rw [L]
  exact ⟨_, _, rfl, (own_lo N A.size), (by simp), ⟨trivial, trivial⟩⟩
 refine mw (vi a) ?_
 refine cl wN (csl1In i a 0 1) ?_
 rintro _ y ⟨j, rfl⟩
 have D := (Ch.base i).extk j
 refine pu (vb (!(s_l1In a 0 1))) wN ?_
 refine mw (vb (!(s_l1In a 0 1))) ?_
 rcases bf (s_l1In a 0 1) with f | f
 ·have aj := spec_l1In_f f
  iterate 3 refine sk (cA not f) ?_
  refine pk (vb true) wN (cA not f) ?_
  refine mw (vb true) ?_
  iterate 3 refine sk (Eq.refl true) ?_
  refine pk (vb true) wN (Eq.refl true) ?_
  refine mw (vb true) ?_
  iterate 3 refine sk (Eq.refl true) ?_
  refine pk (vb true) wN (Eq.refl true) ?_
  refine n2 ?_
  refine ct (Eq.refl true) ?_
  have P : headOf a b d e = [] := by first | exact headOf_f (by omega) | exact headOf_t (by omega) (by omega) (by omega) (by omega) (by simp [joinB, putN4, putN6])
  exact wj (q P _ j)
 have ak := spec_l1In_t f
 refine mv (vs o b.length p) (wS (cA not f)) ?_
 refine ln (wS (cA not f)) slTy_22 (x.from0 D) ?_
 refine pu (vb (!(decide ((b.length : Int) = 12)))) (wS (cA not f)) ?_
 refine pf (vb (!(decide ((b.length : Int) = 12)))) wN (cA not f) ?_
 refine mw (vb (!(decide ((b.length : Int) = 12)))) ?_
 rcases bf (decide ((b.length : Int) = 12)) with g | g
 ·have am := dF g
  iterate 3 refine sk (cA not g) ?_
  refine pk (vb true) wN (cA not g) ?_
  refine mw (vb true) ?_
  iterate 3 refine sk (Eq.refl true) ?_
  refine pk (vb true) wN (Eq.refl true) ?_
  refine n2 ?_
  refine ct (Eq.refl true) ?_
  have Q : headOf a b d e = [] := by first | exact headOf_f (by omega) | exact headOf_t (by omega) (by omega) (by omega) (by omega) (by simp [joinB, putN4, putN6])
  exact wj (q Q _ j)
 have an := dT g
 refine mv (vi d) (wS (cA not g)) ?_
 refine cl (wS (cA not g)) (csl1In y d 0 4294967295) ?_
 rintro _ C ⟨l, rfl⟩
 refine pu (vb (!(s_l1In d 0 4294967295))) (wS (cA not g)) ?_
 refine pf (vb (!(s_l1In d 0 4294967295))) wN (cA not g) ?_
 refine mw (vb (!(s_l1In d 0 4294967295))) ?_
 rcases bf (s_l1In d 0 4294967295) with h | h
 ·have ao := spec_l1In_f h
  iterate 3 refine sk (cA not h) ?_
  refine pk (vb true) wN (cA not h) ?_
  refine n2 ?_
  refine ct (Eq.refl true) ?_
  have R : headOf a b d e = [] := by first | exact headOf_f (by omega) | exact headOf_t (by omega) (by omega) (by omega) (by omega) (by simp [joinB, putN4, putN6])
  exact wj (q R _ (j.trans l))
 have ap := spec_l1In_t h
 refine mv (vi e) (wS (cA not h)) ?_
 refine cl (wS (cA not h)) (csl1In C e 0 281474976710655) ?_
 rintro _ aq ⟨r, rfl⟩
 refine pu (vb (!(s_l1In e 0 281474976710655))) (wS (cA not h)) ?_
 refine pf (vb (!(s_l1In e 0 281474976710655))) wN (cA not h) ?_
 refine n2 ?_
 rcases bf (s_l1In e 0 281474976710655) with m | m
 ·have au := spec_l1In_f m
  refine ct (cA not m) ?_
  have S : headOf a b d e = [] := by first | exact headOf_f (by omega) | exact headOf_t (by omega) (by omega) (by omega) (by omega) (by simp [joinB, putN4, putN6])
  exact wj (q S _ ((j.trans l).trans r))
 have av := spec_l1In_t m
 refine cf (cA not m) ?_
 refine y1 ?_
 refine mw (vi a) ?_
 refine wl_conv8 a wN rfl rfl (by kernel_rfl) ?_
 refine ltB ([(by8 a)] : List UInt8) wN slTy_22 ?_
 intro ax ay az s E
 have F := ((D.extk l).extk r).extk s
 refine mw (vs o b.length p) ?_
 refine apB ([(by8 a)] : List UInt8) b wN slTy_22 E (x.from0 F) s.size ?_
 intro a0 a1 T G V a2 W
 have X := F.ext G (fun k hk => nT (z3 j l r) (own_lt E k hk).1)
 refine mw (vi d) ?_
 refine cl wN (csPutN T _ (([(by8 a)] : List UInt8) ++ b) (mR_22 (Rd.of_own V) W) d 4 (by first | omega | (simp; done) | (simp; omega) | (simp only [List.length_append, List.length_cons, List.length_nil] at *; omega))) ?_
 rintro _ Y ⟨H, ⟨a3, a4, rfl, Z, aa, a5⟩⟩
 have a6 := putN_len (([(by8 a)] : List UInt8) ++ b) d 4
 refine mw (vi e) ?_
 refine cl wN (csPutN Y _ (putN (([(by8 a)] : List UInt8) ++ b) d 4) (mR_22 (Rd.of_own Z) aa) e 6 (by first | omega | (simp; done) | (simp; omega) | (simp only [List.length_append, List.length_cons, List.length_nil] at *; omega))) ?_
 rintro _ a7 ⟨ab, ⟨I, J, rfl, ac, ad, a8⟩⟩
 have ae := (X.extk H).extk ab
 have a9 := putN_len (putN (([(by8 a)] : List UInt8) ++ b) d 4) e 6
 refine aw (vs I (putN (putN (([(by8 a)] : List UInt8) ++ b) d 4) e 6).length J) ?_
 refine n3 ?_
 refine rt (vs I (putN (putN (([(by8 a)] : List UInt8) ++ b) d 4) e 6).length J) ?_
 refine ⟨ae.keep0, ?_⟩
 have af : headOf a b d e = (putN (putN (([(by8 a)] : List UInt8) ++ b) d 4) e 6) := by first | exact headOf_f (by omega) | exact headOf_t (by omega) (by omega) (by omega) (by omega) (by simp [joinB, putN4, putN6])
 rw [af]
 exact ⟨_, _, rfl, (own_lo ac (z6 j l r s G H)), ad, ⟨trivial, trivial⟩⟩

def s_Sealed (a : Int) : (Bool) := (s_l1In a 4 8)
theorem csSealed (b : World) (a : Int)  : Fn Tryz.prog 59 #[(vi a)] b (fun v d => Keep b d ∧ O_4 d b.heap.size v (s_Sealed a)) := by
 refine fn_ofS (n := 5) [(vi a)] Tryz.func59 rfl rfl ?_
 refine sr ?_
 refine aw (vb false) ?_
 refine nx ?_
 refine mw (vi a) ?_
 refine cl wN (csl1In b a 4 8) ?_
 rintro _ h ⟨e, rfl⟩
 have f := (Ch.base b).extk e
 refine aw (vb (s_l1In a 4 8)) ?_
 refine n3 ?_
 refine rt (vb (s_l1In a 4 8)) ?_
 refine ⟨f.keep0, ?_⟩
 have g : s_Sealed a = (s_l1In a 4 8) := by rfl
 rw [g]
 exact rfl

def s_l7Body (b : Int) (a : Int) : (Bool) := bif (decide (b = 4)) then (decide (a ≤ 40)) else (bif (decide (b = 5)) then (decide (a = 12)) else (bif (decide (b = 6)) then (decide (a = 12)) else (decide (a = 4))))
theorem csl7Body (g : World) (b : Int) (a : Int)  : Fn Tryz.prog 91 #[(vi b), (vi a)] g (fun v h => Keep g h ∧ O_4 h g.heap.size v (s_l7Body b a)) := by
 refine fn_ofS (n := 19) [(vi b), (vi a)] Tryz.func91 rfl rfl ?_
 refine sr ?_
 refine aw (vb false) ?_
 refine n4 ?_
 refine mw (vi b) ?_
 refine pu (vb (decide (b = 4))) wN ?_
 refine n2 ?_
 rcases bt (decide (b = 4)) with e | e
 ·have p := dT e
  refine ct e ?_
  refine sr ?_
  refine mw (vi a) ?_
  refine pu (vb (decide (a ≤ 40))) wN ?_
  refine aw (vb (decide (a ≤ 40))) ?_
  refine n1 ?_
  refine rt (vb (decide (a ≤ 40))) ?_
  refine ⟨Ch.refl _ _, ?_⟩
  simp only [s_l7Body, e, cond_true, cond_false]
  exact rfl
 have q := dF e
 refine cf e ?_
 refine y2 ?_
 refine jT1 [(1, (vi a)), (4, (vb false))] (s_l7Body b a = (decide (a = 12))) ?_ fun i => ?_
 ·intro j r k s
  have l := (Ch.base g).extk k
  refine sr ?_
  refine mw (vi a) ?_
  refine pu (vb (decide (a = 12))) wN ?_
  refine aw (vb (decide (a = 12))) ?_
  refine n1 ?_
  refine rt (vb (decide (a = 12))) ?_
  refine ⟨l.keep0, ?_⟩
  rw [j]
  exact rfl
 refine mw (vi b) ?_
 refine pu (vb (decide (b = 5))) wN ?_
 refine mw (vb (decide (b = 5))) ?_
 rcases bt (decide (b = 5)) with d | d
 ·have t := dT d
  iterate 2 refine sk d ?_
  refine pk (vb true) wN d ?_
  refine n2 ?_
  refine ct (Eq.refl true) ?_
  have m : s_l7Body b a = (decide (a = 12)) := by simp only [s_l7Body, e, d, cond_true, cond_false]
  exact wj (i m _ (Ch.refl _ _))
 have u := dF d
 refine mv (vi b) (wS d) ?_
 refine pu (vb (decide (b = 6))) (wS d) ?_
 refine pf (vb (decide (b = 6))) wN d ?_
 refine n2 ?_
 rcases bt (decide (b = 6)) with f | f
 ·have w := dT f
  refine ct f ?_
  have o : s_l7Body b a = (decide (a = 12)) := by simp only [s_l7Body, e, d, f, cond_true, cond_false]
  exact wj (i o _ (Ch.refl _ _))
 have x := dF f
 refine cf f ?_
 refine y1 ?_
 refine mw (vi a) ?_
 refine pu (vb (decide (a = 4))) wN ?_
 refine aw (vb (decide (a = 4))) ?_
 refine n3 ?_
 refine rt (vb (decide (a = 4))) ?_
 refine ⟨Ch.refl _ _, ?_⟩
 simp only [s_l7Body, e, d, f, cond_true, cond_false]
 exact rfl

theorem csPad (b : World) (a : Int)  : Fn Tryz.prog 164 #[(vi a)] b (fun v e => Keep b e ∧ O_22 e b.heap.size v (padP a)) := by
 refine fn_ofS (n := 27) [(vi a)] Tryz.func164 rfl rfl ?_
 refine sr ?_
 refine aw (vs none 0 0) ?_
 refine n4 ?_
 refine jT1 [(0, (vi a)), (2, (vs none 0 0))] (padP a = []) ?_ fun B => ?_
 ·intro N o C am
  refine sr ?_
  refine wl_lit0 wN rfl rfl slTy_22 (fun w => by kernel_rfl) ?_
  intro D x O P
  have Q := ((Ch.base b).extk C).extk O
  refine aw (vs (some D) 0 0) ?_
  refine n1 ?_
  refine rt (vs (some D) 0 0) ?_
  refine ⟨Q.keep0, ?_⟩
  rw [N]
  exact ⟨_, _, rfl, (own_lo P C.size), (by simp), ⟨trivial, trivial⟩⟩
 refine mw (vi a) ?_
 refine pu (vb (decide (a < 0))) wN ?_
 refine mw (vb (decide (a < 0))) ?_
 rcases bt (decide (a < 0)) with d | d
 ·have an := dT d
  iterate 2 refine sk d ?_
  refine pk (vb true) wN d ?_
  refine n2 ?_
  refine ct (Eq.refl true) ?_
  have R : padP a = [] := by first | exact padP_f (by omega) | exact padP_s (by omega) (by omega) (by omega) (by omega)
  exact wj (B R _ (Ch.refl _ _))
 have ao := dF d
 refine mv (vi a) (wS d) ?_
 refine pu (vb (decide (1048576 < a))) (wS d) ?_
 refine pf (vb (decide (1048576 < a))) wN d ?_
 refine n2 ?_
 rcases bt (decide (1048576 < a)) with h | h
 ·have ap := dT h
  refine ct h ?_
  have S : padP a = [] := by first | exact padP_f (by omega) | exact padP_s (by omega) (by omega) (by omega) (by omega)
  exact wj (B S _ (Ch.refl _ _))
 have aq := dF h
 refine cf h ?_
 refine y1 ?_
 refine ltB ([128] : List UInt8) wN slTy_22 ?_
 intro p q o y T
 have V := (Ch.base b).extk y
 refine aw (vs p ([128] : List UInt8).length q) ?_
 refine wl_nil <| wq_then <| wc_seq <| wc_block ?_
 have E : (([128] : List UInt8) : List UInt8) = [(128 : UInt8)] ++ List.replicate 0 (0 : UInt8) := by first | rfl | (rw [List.replicate_succ', List.append_assoc])
 refine wc_loopP [(0, (vi a)), (2, (vs none 0 0)), (3, (.slice p ([(128 : UInt8)] ++ List.replicate 0 (0 : UInt8)).length q))] ⟨rfl, rfl, (cA (fun l : List UInt8 => Value.slice p l.length q) E), trivial⟩ (fun e' e => ∃ (j : Nat) (F : Env) (f : Option Addr) (g : Nat), e' = pt F [(0, (vi a)), (2, (vs none 0 0)), (3, (.slice f ([(128 : UInt8)] ++ List.replicate j (0 : UInt8)).length g))] ∧ Ch (fun k => b.heap.size ≤ k) b e ∧ Ch (fun k => b.heap.size ≤ k) o e ∧ ((j : Nat) : Int) ≤ (64 - (a + 9) % 64) % 64 ∧ (World.ownsRow e b.heap.size 5 1 (.slice f ([(128 : UInt8)] ++ List.replicate j (0 : UInt8)).length g) ([(128 : UInt8)] ++ List.replicate j (0 : UInt8)).length (([(128 : UInt8)] ++ List.replicate j (0 : UInt8)).map bV) ∧ ([(128 : UInt8)] ++ List.replicate j (0 : UInt8)).length ≤ 1073741824)) (fun e' _ => 100 - (lenOf (e' 3))) ?_ ?_
 ·exact fun u => ⟨0, u, p, q, rfl, V, (Ch.refl (fun k => b.heap.size ≤ k) o), (by omega), (E ▸ ⟨T, (by simp)⟩)⟩
 ·rintro _ x ⟨j, F, f, g, rfl, G, A, au, ⟨i, W⟩⟩
  have hpl : ([(128 : UInt8)] ++ List.replicate j (0 : UInt8)).length = 1 + j := by rw [List.length_append, List.length_replicate]; rfl
  refine wc_seq <| sr ?_
  refine mw (vi a) ?_
  refine mw (vs f ([(128 : UInt8)] ++ List.replicate j (0 : UInt8)).length g) ?_
  refine ln wN slTy_22 (Rd.of_own i) ?_
  refine ar (a + (([(128 : UInt8)] ++ List.replicate j (0 : UInt8)).length : Int)) wN ?_
  refine ar ((a + (([(128 : UInt8)] ++ List.replicate j (0 : UInt8)).length : Int)) + 8) wN ?_
  refine wl_rem ((a + (([(128 : UInt8)] ++ List.replicate j (0 : UInt8)).length : Int)) + 8) 64 wN rfl rfl (by kernel_rfl) (by first | omega | assumption) ?_
  refine pu (vb (!(decide ((((a + (([(128 : UInt8)] ++ List.replicate j (0 : UInt8)).length : Int)) + 8) % 64) = 0)))) wN ?_
  refine n2 ?_
  rcases bf (decide ((((a + (([(128 : UInt8)] ++ List.replicate j (0 : UInt8)).length : Int)) + 8) % 64) = 0)) with m | m
  ·have av := dF m
   refine ct (cA not m) ?_
   refine wc_skip <| wq_then <| wc_block <| wc_region ?_
   refine mw (vs f ([(128 : UInt8)] ++ List.replicate j (0 : UInt8)).length g) ?_
   refine ltB ([0] : List UInt8) wN slTy_22 ?_
   intro ax ay H r X
   have Y := (own_kp i r)
   refine apB ([(128 : UInt8)] ++ List.replicate j (0 : UInt8)) ([0] : List UInt8) wN slTy_22 Y (Rd.of_own X) (z3 y A r) ?_
   intro s t Z I aa az ab
   have ac := (G.extk r).ext I (fun k hk => nT (Nat.le_refl b.heap.size) (own_lt i k hk).1)
   refine aw (vs s (([(128 : UInt8)] ++ List.replicate j (0 : UInt8)) ++ ([0] : List UInt8)).length t) ?_
   refine wl_nil <| wq_blk_normal ?_
   have J : ((([(128 : UInt8)] ++ List.replicate j (0 : UInt8)) ++ ([0] : List UInt8)) : List UInt8) = [(128 : UInt8)] ++ List.replicate (j + 1) (0 : UInt8) := by first | rfl | (rw [List.replicate_succ', List.append_assoc])
   refine wq_loopP (w0 := x) [(0, (vi a)), (2, (vs none 0 0)), (3, (.slice s ([(128 : UInt8)] ++ List.replicate (j + 1) (0 : UInt8)).length t))] ?_ ?_ ?_
   · exact ⟨rfl, rfl, (cA (fun l : List UInt8 => Value.slice s l.length t) J), trivial⟩
   · exact fun u => ⟨(j + 1), u, s, t, rfl, ac, ((((Ch.refl (fun k => b.heap.size ≤ k) o).ext A (fun k hk => hk)).extk r).ext I (fun k hk => nT (Nat.le_refl b.heap.size) (own_lt i k hk).1)), (by omega), (J ▸ ⟨aa, ab⟩)⟩
   · show 100 - ([(128 : UInt8)] ++ List.replicate (j + 1) (0 : UInt8)).length < 100 - ([(128 : UInt8)] ++ List.replicate j (0 : UInt8)).length; simp only [List.length_append, List.length_cons, List.length_nil, List.length_replicate]; omega
  have a0 := dT m
  refine cf (cA not m) ?_
  refine wc_exit <| wq_then_exit <| wq_then_exit <| wq_blk_exit <| wq_then <| sr ?_
  refine mw (vs f ([(128 : UInt8)] ++ List.replicate j (0 : UInt8)).length g) ?_
  refine cl wN (csPutN x _ ([(128 : UInt8)] ++ List.replicate j (0 : UInt8)) (mR_22 (Rd.of_own i) W) 0 4 (by first | omega | (simp; done) | (simp; omega) | (simp only [List.length_append, List.length_cons, List.length_nil] at *; omega))) ?_
  rintro _ H ⟨K, ⟨a1, a2, rfl, ad, ae, a3⟩⟩
  have a4 := putN_len ([(128 : UInt8)] ++ List.replicate j (0 : UInt8)) 0 4
  refine mw (vi a) ?_
  refine ar (8 * a) wN ?_
  refine cl wN (csPutN H _ (putN ([(128 : UInt8)] ++ List.replicate j (0 : UInt8)) 0 4) (mR_22 (Rd.of_own ad) ae) (8 * a) 4 (by first | omega | (simp; done) | (simp; omega) | (simp only [List.length_append, List.length_cons, List.length_nil] at *; omega))) ?_
  rintro _ Z ⟨af, ⟨L, M, rfl, ah, ai, a5⟩⟩
  have aj := (G.extk K).extk af
  have a6 := putN_len (putN ([(128 : UInt8)] ++ List.replicate j (0 : UInt8)) 0 4) (8 * a) 4
  refine aw (vs L (putN (putN ([(128 : UInt8)] ++ List.replicate j (0 : UInt8)) 0 4) (8 * a) 4).length M) ?_
  refine n3 ?_
  refine rt (vs L (putN (putN ([(128 : UInt8)] ++ List.replicate j (0 : UInt8)) 0 4) (8 * a) 4).length M) ?_
  refine ⟨aj.keep0, ?_⟩
  have ak : padP a = (putN (putN ([(128 : UInt8)] ++ List.replicate j (0 : UInt8)) 0 4) (8 * a) 4) := by first | exact padP_f (by omega) | exact padP_s (by omega) (by omega) (by omega) (by omega)
  rw [ak]
  exact ⟨_, _, rfl, (own_lo ah (z3 y A K)), ai, ⟨trivial, trivial⟩⟩

theorem csStart (a : World)   : Fn Tryz.prog 165 #[] a (fun v b => Keep a b ∧ O_23 b a.heap.size v (k0)) := by
 refine fn_ofS (n := 2) [] Tryz.func165 rfl rfl ?_
 refine sr ?_
 refine aw (vs none 0 0) ?_
 refine nx ?_
 refine ltI ([1779033703, 3144134277, 1013904242, 2773480762, 1359893119, 2600822924, 528734635, 1541459225] : List Int) wN slTy_23 ?_
 intro d e j f g
 have h := (Ch.base a).extk f
 refine aw (vs d ([1779033703, 3144134277, 1013904242, 2773480762, 1359893119, 2600822924, 528734635, 1541459225] : List Int).length e) ?_
 refine n3 ?_
 refine rt (vs d ([1779033703, 3144134277, 1013904242, 2773480762, 1359893119, 2600822924, 528734635, 1541459225] : List Int).length e) ?_
 refine ⟨h.keep0, ?_⟩
 have i : k0 = ([1779033703, 3144134277, 1013904242, 2773480762, 1359893119, 2600822924, 528734635, 1541459225] : List Int) := by rfl
 rw [i]
 exact ⟨_, _, rfl, g, (by simp), ⟨trivial, trivial⟩⟩

def ws8 (x : List Int) : Bool := areW x 8
theorem ws8_t {x : List Int} (h : ws8 x = true) : allW x = true ∧ (x.length : Int) = 8 := areW_t h
theorem csl2Words (b : World) (m : Value) (a : List Int) (s : R_23 b m a)  : Fn Tryz.prog 173 #[m] b (fun v g => Keep b g ∧ O_4 g b.heap.size v (ws8 a)) := by
 obtain ⟨d, e, rfl, l, A⟩ := s
 refine fn_ofS (n := 19) [(vs d a.length e)] Tryz.func173 rfl rfl ?_
 refine sr ?_
 refine aw (vb false) ?_
 refine n4 ?_
 refine aw (vi 0) ?_
 refine wl_nil <| wq_then <| wc_block ?_
 refine wc_loopP [(0, (vs d a.length e)), (3, (vi ((0 : Nat) : Int)))] ⟨rfl, (cA (Value.int .i64) (show (0 : Int) = ((0 : Nat) : Int) by omega)), trivial⟩ (fun e' g => ∃ (i : Nat) (o : Env), e' = pt o [(0, (vs d a.length e)), (3, (vi ((i : Nat) : Int)))] ∧ Ch (fun k => b.heap.size ≤ k) b g ∧ Ch (fun k => b.heap.size ≤ k) b g ∧ i ≤ a.length ∧ allW (a.take i) = true) (fun e' _ => a.length - ((intOf (e' 3))).toNat) ?_ ?_
 ·exact fun u => ⟨0, u, rfl, (Ch.base b), (Ch.refl (fun k => b.heap.size ≤ k) b), (by omega), (by first | rfl | exact allW_next (by assumption) (by omega) (by assumption))⟩
 ·rintro _ p ⟨i, o, rfl, f, t, B, C⟩
  refine wc_seq <| sr ?_
  refine mw (vi ((i : Nat) : Int)) ?_
  refine mw (vs d a.length e) ?_
  refine ln wN slTy_23 (l.from0 f) ?_
  refine pu (vb (decide (((i : Nat) : Int) < (a.length : Int)))) wN ?_
  refine n2 ?_
  rcases bf (decide (((i : Nat) : Int) < (a.length : Int))) with h | h
  ·have D := dF h
   refine cf h ?_
   refine wc_exit <| wq_then_exit <| wq_then_exit <| wq_blk_exit <| wq_then <| sr ?_
   refine mw (vs d a.length e) ?_
   refine ln wN slTy_23 (l.from0 f) ?_
   refine pu (vb (decide ((a.length : Int) = 8))) wN ?_
   refine aw (vb (decide ((a.length : Int) = 8))) ?_
   refine n3 ?_
   refine rt (vb (decide ((a.length : Int) = 8))) ?_
   refine ⟨f.keep0, ?_⟩
   have w : ws8 a = decide ((a.length : Int) = 8) := by first | (have hz := allW_no (x := a) (k := i) (by omega) (by first | assumption | omega); simp [ws8, areW, hz]) | (have hz := allW_all (x := a) (k := i) (by assumption) (by omega); simp [ws8, areW, hz])
   rw [w]
   exact rfl
  have E := dT h
  refine ct h ?_
  refine wc_skip <| wq_then <| wc_seq <| wc_block <| sr ?_
  refine mw (vs d a.length e) ?_
  refine mw (vi ((i : Nat) : Int)) ?_
  refine ix wN ((i : Nat) : Int) slTy_23 (l.from0 f) ?_
  refine ei (x := a) i wN isAgg_3 (l.from0 f) ?_
  refine cl wN (csl1In p (a.getD i 0) 0 4294967295) ?_
  rintro _ F ⟨q, rfl⟩
  have r := f.extk q
  refine pu (vb (!(s_l1In (a.getD i 0) 0 4294967295))) wN ?_
  refine n2 ?_
  rcases bf (s_l1In (a.getD i 0) 0 4294967295) with j | j
  ·have G := spec_l1In_f j
   refine ct (cA not j) ?_
   refine sr ?_
   refine aw (vb false) ?_
   refine wl_nil <| wq_then <| wc_ret <| wq_blk_ret <| wq_then_ret <| wq_then_ret <| wq_blk_ret <| wq_then_ret ?_
   refine rt (vb false) ?_
   refine ⟨r.keep0, ?_⟩
   have y : ws8 a = false := by first | (have hz := allW_no (x := a) (k := i) (by omega) (by first | assumption | omega); simp [ws8, areW, hz]) | (have hz := allW_all (x := a) (k := i) (by assumption) (by omega); simp [ws8, areW, hz])
   rw [y]
   exact rfl
  have H := spec_l1In_t j
  refine cf (cA not j) ?_
  refine wc_skip <| wq_blk_normal <| wq_then <| wc_region ?_
  refine mw (vi ((i : Nat) : Int)) ?_
  refine ar (((i : Nat) : Int) + 1) wN ?_
  refine aw (vi (((i : Nat) : Int) + 1)) ?_
  refine wl_nil ?_
  refine wq_loopP (w0 := p) [(0, (vs d a.length e)), (3, (vi (((i + 1) : Nat) : Int)))] ?_ ?_ ?_
  · exact ⟨rfl, (cA (Value.int .i64) (show ((((i : Nat) : Int) + 1) : Int) = (((i + 1) : Nat) : Int) by omega)), trivial⟩
  · exact fun u => ⟨(i + 1), u, rfl, r, (((Ch.refl (fun k => b.heap.size ≤ k) b).ext t (fun k hk => hk)).extk q), (by omega), (by first | rfl | exact allW_next (by assumption) (by omega) (by assumption))⟩
  · show a.length - ((((i + 1) : Nat) : Int)).toNat < a.length - (((i : Nat) : Int)).toNat; omega

theorem csl2K (a : World)   : Fn Tryz.prog 174 #[] a (fun v b => Keep a b ∧ O_23 b a.heap.size v (kw)) := by
 refine fn_ofS (n := 2) [] Tryz.func174 rfl rfl ?_
 refine sr ?_
 refine aw (vs none 0 0) ?_
 refine nx ?_
 refine ltI ([1116352408, 1899447441, 3049323471, 3921009573, 961987163, 1508970993, 2453635748, 2870763221, 3624381080, 310598401, 607225278, 1426881987, 1925078388, 2162078206, 2614888103, 3248222580, 3835390401, 4022224774, 264347078, 604807628, 770255983, 1249150122, 1555081692, 1996064986, 2554220882, 2821834349, 2952996808, 3210313671, 3336571891, 3584528711, 113926993, 338241895, 666307205, 773529912, 1294757372, 1396182291, 1695183700, 1986661051, 2177026350, 2456956037, 2730485921, 2820302411, 3259730800, 3345764771, 3516065817, 3600352804, 4094571909, 275423344, 430227734, 506948616, 659060556, 883997877, 958139571, 1322822218, 1537002063, 1747873779, 1955562222, 2024104815, 2227730452, 2361852424, 2428436474, 2756734187, 3204031479, 3329325298] : List Int) wN slTy_23 ?_
 intro d e j f g
 have h := (Ch.base a).extk f
 refine aw (vs d ([1116352408, 1899447441, 3049323471, 3921009573, 961987163, 1508970993, 2453635748, 2870763221, 3624381080, 310598401, 607225278, 1426881987, 1925078388, 2162078206, 2614888103, 3248222580, 3835390401, 4022224774, 264347078, 604807628, 770255983, 1249150122, 1555081692, 1996064986, 2554220882, 2821834349, 2952996808, 3210313671, 3336571891, 3584528711, 113926993, 338241895, 666307205, 773529912, 1294757372, 1396182291, 1695183700, 1986661051, 2177026350, 2456956037, 2730485921, 2820302411, 3259730800, 3345764771, 3516065817, 3600352804, 4094571909, 275423344, 430227734, 506948616, 659060556, 883997877, 958139571, 1322822218, 1537002063, 1747873779, 1955562222, 2024104815, 2227730452, 2361852424, 2428436474, 2756734187, 3204031479, 3329325298] : List Int).length e) ?_
 refine n3 ?_
 refine rt (vs d ([1116352408, 1899447441, 3049323471, 3921009573, 961987163, 1508970993, 2453635748, 2870763221, 3624381080, 310598401, 607225278, 1426881987, 1925078388, 2162078206, 2614888103, 3248222580, 3835390401, 4022224774, 264347078, 604807628, 770255983, 1249150122, 1555081692, 1996064986, 2554220882, 2821834349, 2952996808, 3210313671, 3336571891, 3584528711, 113926993, 338241895, 666307205, 773529912, 1294757372, 1396182291, 1695183700, 1986661051, 2177026350, 2456956037, 2730485921, 2820302411, 3259730800, 3345764771, 3516065817, 3600352804, 4094571909, 275423344, 430227734, 506948616, 659060556, 883997877, 958139571, 1322822218, 1537002063, 1747873779, 1955562222, 2024104815, 2227730452, 2361852424, 2428436474, 2756734187, 3204031479, 3329325298] : List Int).length e) ?_
 refine ⟨h.keep0, ?_⟩
 have i : kw = ([1116352408, 1899447441, 3049323471, 3921009573, 961987163, 1508970993, 2453635748, 2870763221, 3624381080, 310598401, 607225278, 1426881987, 1925078388, 2162078206, 2614888103, 3248222580, 3835390401, 4022224774, 264347078, 604807628, 770255983, 1249150122, 1555081692, 1996064986, 2554220882, 2821834349, 2952996808, 3210313671, 3336571891, 3584528711, 113926993, 338241895, 666307205, 773529912, 1294757372, 1396182291, 1695183700, 1986661051, 2177026350, 2456956037, 2730485921, 2820302411, 3259730800, 3345764771, 3516065817, 3600352804, 4094571909, 275423344, 430227734, 506948616, 659060556, 883997877, 958139571, 1322822218, 1537002063, 1747873779, 1955562222, 2024104815, 2227730452, 2361852424, 2428436474, 2756734187, 3204031479, 3329325298] : List Int) := by rfl
 rw [i]
 exact ⟨_, _, rfl, g, (by simp), ⟨trivial, trivial⟩⟩

def O_3_3_4 (w : World) (lo : Nat) (v : Value) (x : (Int) × (Int) × (Bool)) : Prop := v = .tuple #[.int .i64 x.1, .int .i64 x.2.1, .bool x.2.2]
theorem csGetN (e : World) (t : Value) (b : List UInt8) (A : R_22 e t b) (a : Int) (d : Int)  : Fn Tryz.prog 178 #[t, (vi a), (vi d)] e (fun v m => Keep e m ∧ O_3_3_4 m e.heap.size v (getN3 b a d)) := by
 obtain ⟨j, l, rfl, s, K⟩ := A
 refine fn_ofS (n := 48) [(vs j b.length l), (vi a), (vi d)] Tryz.func178 rfl rfl ?_
 refine sr ?_
 refine aw (vi 0) ?_
 refine aw (vi 0) ?_
 refine aw (vb false) ?_
 refine n4 ?_
 refine jT1 [(0, (vs j b.length l)), (1, (vi a)), (2, (vi d)), (6, (vi 0)), (7, (vi 0)), (8, (vb false))] (getN3 b a d = (0, 0, false)) ?_ fun q => ?_
 ·intro B w C L
  have D := (Ch.base e).extk C
  refine sr ?_
  refine aw (vi 0) ?_
  refine aw (vi 0) ?_
  refine aw (vb false) ?_
  refine n1 ?_
  refine ret_3 (.inl rfl) (vi 0) (vi 0) (vb false) rfl rfl rfl rfl ?_
  refine ⟨D.keep0, ?_⟩
  rw [B]
  exact rfl
 refine mw (vi d) ?_
 refine pu (vb (decide (d < 1))) wN ?_
 refine mw (vb (decide (d < 1))) ?_
 rcases bt (decide (d < 1)) with g | g
 ·have M := dT g
  iterate 2 refine sk g ?_
  refine pk (vb true) wN g ?_
  refine mw (vb true) ?_
  iterate 2 refine sk (Eq.refl true) ?_
  refine pk (vb true) wN (Eq.refl true) ?_
  refine mw (vb true) ?_
  iterate 6 refine sk (Eq.refl true) ?_
  refine pk (vb true) wN (Eq.refl true) ?_
  refine n2 ?_
  refine ct (Eq.refl true) ?_
  have E : getN3 b a d = (0, 0, false) := by first | exact getN3_f (by omega) | exact getN3_s (by omega) (by omega) (by omega) (by omega)
  exact wj (q E _ (Ch.refl _ _))
 have N := dF g
 refine mv (vi d) (wS g) ?_
 refine pu (vb (decide (6 < d))) (wS g) ?_
 refine pf (vb (decide (6 < d))) wN g ?_
 refine mw (vb (decide (6 < d))) ?_
 rcases bt (decide (6 < d)) with h | h
 ·have O := dT h
  iterate 2 refine sk h ?_
  refine pk (vb true) wN h ?_
  refine mw (vb true) ?_
  iterate 6 refine sk (Eq.refl true) ?_
  refine pk (vb true) wN (Eq.refl true) ?_
  refine n2 ?_
  refine ct (Eq.refl true) ?_
  have F : getN3 b a d = (0, 0, false) := by first | exact getN3_f (by omega) | exact getN3_s (by omega) (by omega) (by omega) (by omega)
  exact wj (q F _ (Ch.refl _ _))
 have P := dF h
 refine mv (vi a) (wS h) ?_
 refine pu (vb (decide (a < 0))) (wS h) ?_
 refine pf (vb (decide (a < 0))) wN h ?_
 refine mw (vb (decide (a < 0))) ?_
 rcases bt (decide (a < 0)) with f | f
 ·have Q := dT f
  iterate 6 refine sk f ?_
  refine pk (vb true) wN f ?_
  refine n2 ?_
  refine ct (Eq.refl true) ?_
  have G : getN3 b a d = (0, 0, false) := by first | exact getN3_f (by omega) | exact getN3_s (by omega) (by omega) (by omega) (by omega)
  exact wj (q G _ (Ch.refl _ _))
 have R := dF f
 refine mv (vi a) (wS f) ?_
 refine mv (vs j b.length l) (wS f) ?_
 refine ln (wS f) slTy_22 s ?_
 refine mv (vi d) (wS f) ?_
 refine ar ((b.length : Int) - d) (wS f) ?_
 refine pu (vb (decide (((b.length : Int) - d) < a))) (wS f) ?_
 refine pf (vb (decide (((b.length : Int) - d) < a))) wN f ?_
 refine n2 ?_
 rcases bt (decide (((b.length : Int) - d) < a)) with o | o
 ·have S := dT o
  refine ct o ?_
  have H : getN3 b a d = (0, 0, false) := by first | exact getN3_f (by omega) | exact getN3_s (by omega) (by omega) (by omega) (by omega)
  exact wj (q H _ (Ch.refl _ _))
 have T := dF o
 refine cf o ?_
 refine y1 ?_
 refine aw (vi 0) ?_
 refine n4 ?_
 refine aw (vi 0) ?_
 refine wl_nil <| wq_then <| wc_block ?_
 refine wc_loopP [(0, (vs j b.length l)), (1, (vi a)), (2, (vi d)), (6, (vi 0)), (7, (vi 0)), (8, (vb false)), (9, (vi (getV ((b.drop a.toNat).take 0) 0))), (10, (vi ((0 : Nat) : Int)))] ⟨rfl, rfl, rfl, rfl, rfl, rfl, (cA (Value.int .i64) (show (0 : Int) = (getV ((b.drop a.toNat).take 0) 0) by rfl)), (cA (Value.int .i64) (show (0 : Int) = ((0 : Nat) : Int) by omega)), trivial⟩ (fun e' m => ∃ (i : Nat) (y : Env), e' = pt y [(0, (vs j b.length l)), (1, (vi a)), (2, (vi d)), (6, (vi 0)), (7, (vi 0)), (8, (vb false)), (9, (vi (getV ((b.drop a.toNat).take i) 0))), (10, (vi ((i : Nat) : Int)))] ∧ Ch (fun k => e.heap.size ≤ k) e m ∧ Ch (fun k => e.heap.size ≤ k) e m ∧ ((i : Nat) : Int) ≤ d) (fun e' _ => (d - (intOf (e' 10))).toNat) ?_ ?_
 ·exact fun u => ⟨0, u, rfl, (Ch.base e), (Ch.refl (fun k => e.heap.size ≤ k) e), (by omega)⟩
 ·rintro _ w ⟨i, y, rfl, r, I, V⟩
  have hgb := getV_b6 (b.drop a.toNat) i (by omega)
  have W : (b.getD (a + ((i : Nat) : Int)).toNat 0).toNat < 256 := UInt8.toNat_lt _
  refine wc_seq <| sr ?_
  refine mw (vi ((i : Nat) : Int)) ?_
  refine mw (vi d) ?_
  refine pu (vb (decide (((i : Nat) : Int) < d))) wN ?_
  refine n2 ?_
  rcases bf (decide (((i : Nat) : Int) < d)) with p | p
  ·have X := dF p
   refine cf p ?_
   refine wc_exit <| wq_then_exit <| wq_then_exit <| wq_blk_exit <| wq_then <| sr ?_
   refine mw (vi (getV ((b.drop a.toNat).take i) 0)) ?_
   refine mw (vi a) ?_
   refine mw (vi d) ?_
   refine ar (a + d) wN ?_
   refine aw (vi (getV ((b.drop a.toNat).take i) 0)) ?_
   refine aw (vi (a + d)) ?_
   refine aw (vb true) ?_
   refine n3 ?_
   refine ret_3 (.inl rfl) (vi (getV ((b.drop a.toNat).take i) 0)) (vi (a + d)) (vb true) rfl rfl rfl rfl ?_
   refine ⟨r.keep0, ?_⟩
   have J : getN3 b a d = ((getV ((b.drop a.toNat).take i) 0), (a + d), true) := by first | exact getN3_f (by omega) | exact getN3_s (by omega) (by omega) (by omega) (by omega)
   rw [J]
   exact rfl
  have Y := dT p
  refine ct p ?_
  refine wc_skip <| wq_then <| wc_seq <| wc_block <| wc_region ?_
  refine mw (vi (getV ((b.drop a.toNat).take i) 0)) ?_
  refine ar ((getV ((b.drop a.toNat).take i) 0) * 256) wN ?_
  refine mw (vs j b.length l) ?_
  refine mw (vi a) ?_
  refine mw (vi ((i : Nat) : Int)) ?_
  refine ar (a + ((i : Nat) : Int)) wN ?_
  refine ix wN (a + ((i : Nat) : Int)) slTy_22 (s.from0 r) ?_
  refine eb (x := b) (((a + ((i : Nat) : Int))).toNat) wN isAgg_5 (s.from0 r) ?_
  refine ar ((b.getD ((a + ((i : Nat) : Int))).toNat 0).toNat : Int) wN ?_
  refine ar (((getV ((b.drop a.toNat).take i) 0) * 256) + ((b.getD ((a + ((i : Nat) : Int))).toNat 0).toNat : Int)) wN ?_
  refine aw (vi (((getV ((b.drop a.toNat).take i) 0) * 256) + ((b.getD ((a + ((i : Nat) : Int))).toNat 0).toNat : Int))) ?_
  refine wl_nil <| wq_blk_normal <| wq_then <| wc_region ?_
  refine mw (vi ((i : Nat) : Int)) ?_
  refine ar (((i : Nat) : Int) + 1) wN ?_
  refine aw (vi (((i : Nat) : Int) + 1)) ?_
  refine wl_nil ?_
  refine wq_loopP (w0 := w) [(0, (vs j b.length l)), (1, (vi a)), (2, (vi d)), (6, (vi 0)), (7, (vi 0)), (8, (vb false)), (9, (vi (getV ((b.drop a.toNat).take (i + 1)) 0))), (10, (vi (((i + 1) : Nat) : Int)))] ?_ ?_ ?_
  · exact ⟨rfl, rfl, rfl, rfl, rfl, rfl, (cA (Value.int .i64) (show ((((getV ((b.drop a.toNat).take i) 0) * 256) + ((b.getD ((a + ((i : Nat) : Int))).toNat 0).toNat : Int)) : Int) = (getV ((b.drop a.toNat).take (i + 1)) 0) by exact getV_nexts (by omega) (by omega))), (cA (Value.int .i64) (show ((((i : Nat) : Int) + 1) : Int) = (((i + 1) : Nat) : Int) by omega)), trivial⟩
  · exact fun u => ⟨(i + 1), u, rfl, r, ((Ch.refl (fun k => e.heap.size ≤ k) e).ext I (fun k hk => hk)), (by omega)⟩
  · show (d - (((i + 1) : Nat) : Int)).toNat < (d - ((i : Nat) : Int)).toNat; omega

theorem csRot (i : World) (e : Int) (d : Int) (x : 1 ≤ d) (y : d ≤ 31) : Fn Tryz.prog 176 #[(vi e), (vi d)] i (fun v l => Keep i l ∧ O_3 l i.heap.size v (rot e d)) := by
 refine fn_ofS (n := 24) [(vi e), (vi d)] Tryz.func176 rfl rfl ?_
 refine sr ?_
 refine aw (vi 0) ?_
 refine nx ?_
 refine mw (vi e) ?_
 refine wl_and e 4294967295 4294967296 32 wN rfl rfl (by decide) (by decide) (by decide) (by kernel_rfl) ?_
 refine aw (vi (e % 4294967296)) ?_
 refine n4 ?_
 refine jT1 [(1, (vi d)), (4, (vi 0)), (5, (vi (e % 4294967296)))] (rot e d = (e % 4294967296)) ?_ fun m => ?_
 ·intro o f p A
  have q := (Ch.base i).extk p
  refine sr ?_
  refine mw (vi (e % 4294967296)) ?_
  refine aw (vi (e % 4294967296)) ?_
  refine n1 ?_
  refine rt (vi (e % 4294967296)) ?_
  refine ⟨q.keep0, ?_⟩
  rw [o]
  exact rfl
 refine mw (vi d) ?_
 refine pu (vb (decide (d < 1))) wN ?_
 refine mw (vb (decide (d < 1))) ?_
 rcases bt (decide (d < 1)) with g | g
 ·have B := dT g
  iterate 2 refine sk g ?_
  refine pk (vb true) wN g ?_
  refine n2 ?_
  refine ct (Eq.refl true) ?_
  have r : rot e d = (e % 4294967296) := by first | rfl | (exfalso; omega)
  exact wj (m r _ (Ch.refl _ _))
 have C := dF g
 refine mv (vi d) (wS g) ?_
 refine pu (vb (decide (31 < d))) (wS g) ?_
 refine pf (vb (decide (31 < d))) wN g ?_
 refine n2 ?_
 rcases bt (decide (31 < d)) with j | j
 ·have D := dT j
  refine ct j ?_
  have s : rot e d = (e % 4294967296) := by first | rfl | (exfalso; omega)
  exact wj (m s _ (Ch.refl _ _))
 have E := dF j
 refine cf j ?_
 refine wc_skip <| wq_then <| wc_seq ?_
 refine wc_drawT ([(15, [], [], (fun _ v _ => v = (vi (e % 4294967296)))), (16, [], [], (fun _ v _ => v = (vi d))), (17, [], [0, 1], (fun _ v _ => v = (vi ((e % 4294967296) / (2 : Int) ^ (d).toNat)))), (18, [], [], (fun _ v _ => v = (vi (e % 4294967296)))), (19, [], [], (fun _ v _ => v = (vi d))), (20, [], [4], (fun _ v _ => v = (vi (32 - d)))), (21, [], [3, 4, 5], (fun _ v _ => v = (vi ((e % 4294967296) * (2 : Int) ^ ((32 - d)).toNat))))] : GV) (fun _ l => Keep i l) [] mixed rfl (by kernel_rfl) (by kernel_rfl) ?_ (fun _ _ h => h) (fun _ _ _ _ h _ k => h.trans k) trivial ?_ ?_ ?_
 ·exact ⟨hV, hE, ⟨hV, hE, ⟨hV, hE, ⟨hV, hE, ⟨hV, hE, ⟨hV, hE, ⟨hV, hE, trivial⟩⟩⟩⟩⟩⟩⟩
 ·exact trivial
 ·refine ⟨?_, ⟨?_, ⟨?_, ⟨?_, ⟨?_, ⟨?_, ⟨?_, trivial⟩⟩⟩⟩⟩⟩⟩
  ·intro _ f F _
   rintro _ _ _ _ _ _ _
   show WL _ _ _ _ _ _ _
   refine mw (vi (e % 4294967296)) ?_
   exact f1
  ·intro _ f G _
   rintro _ _ _ _ _ _ _
   show WL _ _ _ _ _ _ _
   refine mw (vi d) ?_
   exact f1
  ·intro _ f H _
   rintro _ rfl _ rfl _ _ _ _ _
   show WL _ _ _ _ _ _ _
   refine wl_shr (e % 4294967296) d wN rfl rfl rfl rfl rfl (by omega) (by omega) ?_
   have I := shr_b (a := (e % 4294967296)) (by omega) (d).toNat
   exact f1
  ·intro _ f J _
   rintro _ _ _ _ _ _ _
   show WL _ _ _ _ _ _ _
   refine mw (vi (e % 4294967296)) ?_
   exact f1
  ·intro _ f K _
   rintro _ _ _ _ _ _ _
   show WL _ _ _ _ _ _ _
   refine mw (vi d) ?_
   exact f1
  ·intro _ f L _
   rintro _ _ _ _ _ rfl _ _
   show WL _ _ _ _ _ _ _
   refine ar (32 - d) wN ?_
   exact f1
  ·intro _ f M _
   rintro _ _ _ _ rfl _ rfl _ rfl _
   show WL _ _ _ _ _ _ _
   refine wl_shl (e % 4294967296) (32 - d) wN rfl rfl rfl rfl rfl (by omega) (by omega) (by omega) (by omega) ?_
   have N := shl_b (a := (e % 4294967296)) (n := ((32 - d)).toNat) (by omega) (by omega) (by omega)
   exact f1
 ·intro _ f t
  have u := (Ch.base i).extk t
  rintro _ rfl _ rfl _ rfl
  have O := shr_b (a := (e % 4294967296)) (by omega) (d).toNat
  rintro _ rfl _ rfl _ rfl _ rfl
  have P := shl_b (a := (e % 4294967296)) (n := ((32 - d)).toNat) (by omega) (by omega) (by omega)
  show WL _ _ _ _ _ _ _
  refine wl_or ((e % 4294967296) / (2 : Int) ^ (d).toNat) ((e % 4294967296) * (2 : Int) ^ ((32 - d)).toNat) wN rfl rfl (by kernel_rfl) (by omega) (by omega) (by omega) (by omega) ?_
  have Q := orI_p (a := ((e % 4294967296) / (2 : Int) ^ (d).toNat)) (b := ((e % 4294967296) * (2 : Int) ^ ((32 - d)).toNat)) (by omega) (by omega)
  refine wl_and (orI ((e % 4294967296) / (2 : Int) ^ (d).toNat) ((e % 4294967296) * (2 : Int) ^ ((32 - d)).toNat)) 4294967295 4294967296 32 wN rfl rfl (by decide) (by decide) (by decide) (by kernel_rfl) ?_
  refine aw (vi ((orI ((e % 4294967296) / (2 : Int) ^ (d).toNat) ((e % 4294967296) * (2 : Int) ^ ((32 - d)).toNat)) % 4294967296)) ?_
  refine n3 ?_
  refine rt (vi ((orI ((e % 4294967296) / (2 : Int) ^ (d).toNat) ((e % 4294967296) * (2 : Int) ^ ((32 - d)).toNat)) % 4294967296)) ?_
  refine ⟨u.keep0, ?_⟩
  have w : rot e d = ((orI ((e % 4294967296) / (2 : Int) ^ (d).toNat) ((e % 4294967296) * (2 : Int) ^ ((32 - d)).toNat)) % 4294967296) := by first | rfl | (exfalso; omega)
  rw [w]
  exact rfl

theorem csSchedule (o : World) (ad : Value) (d : List UInt8) (a0 : R_22 o ad d)  : Fn Tryz.prog 175 #[ad] o (fun v s => Keep o s ∧ O_23 s o.heap.size v (schedP d)) := by
 obtain ⟨x, D, rfl, ae, a1⟩ := a0
 refine fn_ofS (n := 84) [(vs x d.length D)] Tryz.func175 rfl rfl ?_
 refine sr ?_
 refine aw (vs none 0 0) ?_
 refine nx ?_
 refine wl_lit0 wN rfl rfl slTy_23 (fun w => by kernel_rfl) ?_
 intro E J S af
 have T := (Ch.base o).extk S
 refine aw (vs (some E) 0 0) ?_
 refine n4 ?_
 refine mw (vs x d.length D) ?_
 refine ln wN slTy_22 (ae.from0 T) ?_
 refine pu (vb (!(decide ((d.length : Int) = 64)))) wN ?_
 refine n2 ?_
 rcases bf (decide ((d.length : Int) = 64)) with F | F
 ·have aZ := dF F
  refine ct (cA not F) ?_
  refine sr ?_
  refine mw (vs (some E) 0 0) ?_
  refine aw (vs (some E) 0 0) ?_
  refine n1 ?_
  refine rt (vs (some E) 0 0) ?_
  refine ⟨T.keep0, ?_⟩
  have a2 : schedP d = [] := by first | exact schedP_f (by omega) | exact schedP_u (by omega) (by omega) (by omega)
  rw [a2]
  exact ⟨_, _, rfl, af, (by simp), ⟨trivial, trivial⟩⟩
 have ba := dT F
 refine cf (cA not F) ?_
 refine y2 ?_
 refine aw (vi 0) ?_
 refine wl_nil <| wq_then <| wc_block ?_
 have ah : ([] : List Int) = sched16 d 0 := by rfl
 have ai : 0 = (sched16 d 0).length := by rw [← ah]; try (first | rfl | simp only [List.length_set] | simp)
 refine wc_loopP [(0, (vs x d.length D)), (2, (vs none 0 0)), (3, (.slice (some E) (sched16 d 0).length 0)), (4, (vi ((0 : Nat) : Int)))] ⟨rfl, rfl, rfl, (cA (Value.int .i64) (show (0 : Int) = ((0 : Nat) : Int) by omega)), trivial⟩ (fun e' s => ∃ (k : Nat) (aj : Env) (i : Option Addr) (j : Nat), e' = pt aj [(0, (vs x d.length D)), (2, (vs none 0 0)), (3, (.slice i (sched16 d k).length j)), (4, (vi ((k : Nat) : Int)))] ∧ Ch (fun k => o.heap.size ≤ k) o s ∧ Ch (fun k => o.heap.size ≤ k) J s ∧ k ≤ 16 ∧ (World.ownsRow s o.heap.size 3 1 (.slice i (sched16 d k).length j) (sched16 d k).length ((sched16 d k).map iV) ∧ (sched16 d k).length ≤ 1073741824)) (fun e' _ => (16 - (intOf (e' 4))).toNat) ?_ ?_
 ·exact fun u => ⟨0, u, (some E), 0, rfl, T, (Ch.refl (fun k => o.heap.size ≤ k) J), (by omega), ⟨(by rw [← ai, ← ah]; exact af), (by rw [← ai]; first | exact (by simp) | (simp only [List.length_append, List.length_take, List.length_replicate]; omega))⟩⟩
 ·rintro _ G ⟨k, aj, i, j, rfl, V, W, bb, ⟨K, a3⟩⟩
  have hsl := sched16_len d k
  refine wc_seq <| sr ?_
  refine mw (vi ((k : Nat) : Int)) ?_
  refine pu (vb (decide (((k : Nat) : Int) < 16))) wN ?_
  refine n2 ?_
  rcases bt (decide (((k : Nat) : Int) < 16)) with H | H
  ·have bc := dT H
   refine ct H ?_
   refine wc_skip <| wq_then <| wc_seq <| wc_block <| sr ?_
   refine mw (vs x d.length D) ?_
   refine mw (vi ((k : Nat) : Int)) ?_
   refine ar (4 * ((k : Nat) : Int)) wN ?_
   refine cl wN (csGetN G _ d (mR_22 (ae.from0 V) a1) (4 * ((k : Nat) : Int)) 4) ?_
   rintro _ X ⟨L, rfl⟩
   refine mw (.tuple #[(vi ((getN3 d (4 * ((k : Nat) : Int)) 4).1)), (vi ((getN3 d (4 * ((k : Nat) : Int)) 4).2.1)), (vb ((getN3 d (4 * ((k : Nat) : Int)) 4).2.2))]) ?_
   refine pu (vi ((getN3 d (4 * ((k : Nat) : Int)) 4).1)) wN ?_
   refine pu (vi ((getN3 d (4 * ((k : Nat) : Int)) 4).2.1)) wN ?_
   refine pu (vb ((getN3 d (4 * ((k : Nat) : Int)) 4).2.2)) wN ?_
   refine aw (vi ((getN3 d (4 * ((k : Nat) : Int)) 4).1)) ?_
   refine aw (vi ((getN3 d (4 * ((k : Nat) : Int)) 4).2.1)) ?_
   refine aw (vb ((getN3 d (4 * ((k : Nat) : Int)) 4).2.2)) ?_
   refine wl_nil <| wq_then <| wc_region ?_
   refine mw (vs i (sched16 d k).length j) ?_
   refine mw (vi ((getN3 d (4 * ((k : Nat) : Int)) 4).1)) ?_
   refine ltI ([(getN3 d (4 * ((k : Nat) : Int)) 4).1] : List Int) wN slTy_23 ?_
   intro bd be ak M a4
   have a5 := (own_kp (own_kp K L) M)
   refine apI (sched16 d k) ([(getN3 d (4 * ((k : Nat) : Int)) 4).1] : List Int) wN slTy_23 a5 (Rd.of_own a4) (z4 S W L M) ?_
   intro N O am an a6 bg a7
   have a8 := ((V.extk L).extk M).ext an (fun k hk => nT (Nat.le_refl o.heap.size) (own_lt K k hk).1)
   refine aw (vs N ((sched16 d k) ++ ([(getN3 d (4 * ((k : Nat) : Int)) 4).1] : List Int)).length O) ?_
   refine wl_nil <| wq_blk_normal <| wq_then <| wc_region ?_
   refine mw (vi ((k : Nat) : Int)) ?_
   refine ar (((k : Nat) : Int) + 1) wN ?_
   refine aw (vi (((k : Nat) : Int) + 1)) ?_
   refine wl_nil ?_
   have ao : (((sched16 d k) ++ ([(getN3 d (4 * ((k : Nat) : Int)) 4).1] : List Int)) : List Int) = sched16 d (k + 1) := by exact sched16_app (by omega) (by omega)
   refine wq_loopP (w0 := G) [(0, (vs x d.length D)), (2, (vs none 0 0)), (3, (.slice N (sched16 d (k + 1)).length O)), (4, (vi (((k + 1) : Nat) : Int)))] ?_ ?_ ?_
   · exact ⟨rfl, rfl, (cA (fun l : List Int => Value.slice N l.length O) ao), (cA (Value.int .i64) (show ((((k : Nat) : Int) + 1) : Int) = (((k + 1) : Nat) : Int) by omega)), trivial⟩
   · exact fun u => ⟨(k + 1), u, N, O, rfl, a8, (((((Ch.refl (fun k => o.heap.size ≤ k) J).ext W (fun k hk => hk)).extk L).extk M).ext an (fun k hk => nT (Nat.le_refl o.heap.size) (own_lt K k hk).1)), (by omega), (ao ▸ ⟨a6, a7⟩)⟩
   · show (16 - (((k + 1) : Nat) : Int)).toNat < (16 - ((k : Nat) : Int)).toNat; omega
  have bh := dF H
  refine cf H ?_
  refine wc_exit <| wq_then_exit ?_
  obtain rfl : k = 16 := by omega
  refine wq_then_exit <| wq_blk_exit <| wq_then <| wc_seq <| sr ?_
  refine aw (vi 16) ?_
  refine wl_nil <| wq_then <| wc_block ?_
  have ap : ((sched16 d 16) : List Int) = schedN d 0 := by rfl
  refine wc_loopP [(2, (vs none 0 0)), (3, (.slice i (schedN d 0).length j)), (8, (vi (16 + ((0 : Nat) : Int))))] ⟨rfl, (cA (fun l : List Int => Value.slice i l.length j) ap), (cA (Value.int .i64) (show (16 : Int) = (16 + ((0 : Nat) : Int)) by omega)), trivial⟩ (fun e' s => ∃ (m : Nat) (aq : Env) (i : Option Addr) (j : Nat), e' = pt aq [(2, (vs none 0 0)), (3, (.slice i (schedN d m).length j)), (8, (vi (16 + ((m : Nat) : Int))))] ∧ Ch (fun k => o.heap.size ≤ k) o s ∧ Ch (fun k => o.heap.size ≤ k) G s ∧ m ≤ 48 ∧ (World.ownsRow s o.heap.size 3 1 (.slice i (schedN d m).length j) (schedN d m).length ((schedN d m).map iV) ∧ (schedN d m).length ≤ 1073741824)) (fun e' _ => (64 - (intOf (e' 8))).toNat) ?_ ?_
  ·exact fun u => ⟨0, u, i, j, rfl, V, (Ch.refl (fun k => o.heap.size ≤ k) G), (by omega), (ap ▸ ⟨K, a3⟩)⟩
  ·rintro _ X ⟨m, aq, i, j, rfl, au, av, bi, ⟨t, a9⟩⟩
   have hsl := schedN_len d m
   obtain ⟨p, Y⟩ : ∃ z, (schedN d m).getD (((16 + ((m : Nat) : Int)) - 7)).toNat 0 = z := ⟨_, rfl⟩
   have bj : 0 ≤ p ∧ p < 4294967296 := Y ▸ wget (schedN_w d m) (((16 + ((m : Nat) : Int)) - 7)).toNat
   obtain ⟨q, Z⟩ : ∃ z, (schedN d m).getD (((16 + ((m : Nat) : Int)) - 16)).toNat 0 = z := ⟨_, rfl⟩
   have bk : 0 ≤ q ∧ q < 4294967296 := Z ▸ wget (schedN_w d m) (((16 + ((m : Nat) : Int)) - 16)).toNat
   obtain ⟨f, aa⟩ : ∃ z, (schedN d m).getD (((16 + ((m : Nat) : Int)) - 15)).toNat 0 = z := ⟨_, rfl⟩
   have bl : 0 ≤ f ∧ f < 4294967296 := aa ▸ wget (schedN_w d m) (((16 + ((m : Nat) : Int)) - 15)).toNat
   obtain ⟨g, ab⟩ : ∃ z, (schedN d m).getD (((16 + ((m : Nat) : Int)) - 2)).toNat 0 = z := ⟨_, rfl⟩
   have bm : 0 ≤ g ∧ g < 4294967296 := ab ▸ wget (schedN_w d m) (((16 + ((m : Nat) : Int)) - 2)).toNat
   refine wc_seq <| sr ?_
   refine mw (vi (16 + ((m : Nat) : Int))) ?_
   refine pu (vb (decide ((16 + ((m : Nat) : Int)) < 64))) wN ?_
   refine n2 ?_
   rcases bf (decide ((16 + ((m : Nat) : Int)) < 64)) with I | I
   ·have bn := dF I
    refine cf I ?_
    refine wc_exit <| wq_then_exit <| wq_then_exit <| wq_blk_exit <| wq_then <| sr ?_
    refine mw (vs i (schedN d m).length j) ?_
    refine aw (vs i (schedN d m).length j) ?_
    refine n3 ?_
    refine rt (vs i (schedN d m).length j) ?_
    refine ⟨au.keep0, ?_⟩
    have aA : schedP d = (schedN d m) := by first | exact schedP_f (by omega) | exact schedP_u (by omega) (by omega) (by omega)
    rw [aA]
    exact ⟨_, _, rfl, t, a9, ⟨trivial, trivial⟩⟩
   have bo := dT I
   refine ct I ?_
   refine wc_skip <| wq_then <| wc_seq <| wc_block <| sr ?_
   refine mw (vs i (schedN d m).length j) ?_
   refine mw (vi (16 + ((m : Nat) : Int))) ?_
   refine ar ((16 + ((m : Nat) : Int)) - 15) wN ?_
   refine ix wN ((16 + ((m : Nat) : Int)) - 15) slTy_23 (Rd.of_own t) ?_
   refine wl_loadE (iV f) wN rfl rfl rfl rfl isAgg_3 (Rd.of_own t) (by rw [← aa]; exact iget (by simp) (by first | omega | (simp <;> omega))) ?_
   refine aw (vi f) ?_
   refine nx ?_
   refine mw (vs i (schedN d m).length j) ?_
   refine mw (vi (16 + ((m : Nat) : Int))) ?_
   refine ar ((16 + ((m : Nat) : Int)) - 2) wN ?_
   refine ix wN ((16 + ((m : Nat) : Int)) - 2) slTy_23 (Rd.of_own t) ?_
   refine wl_loadE (iV g) wN rfl rfl rfl rfl isAgg_3 (Rd.of_own t) (by rw [← ab]; exact iget (by simp) (by first | omega | (simp <;> omega))) ?_
   refine aw (vi g) ?_
   refine nx ?_
   refine mw (vi f) ?_
   refine cl wN (csRot X f 7 (by omega) (by omega)) ?_
   rintro _ ak ⟨y, rfl⟩
   have bp := rot_b f 7
   refine mw (vi f) ?_
   refine cl wN (csRot ak f 18 (by omega) (by omega)) ?_
   rintro _ am ⟨A, rfl⟩
   have aB := (au.extk y).extk A
   have bq := rot_b f 18
   refine wl_xor (rot f 7) (rot f 18) wN rfl rfl (by kernel_rfl) (by omega) (by omega) (by omega) (by omega) ?_
   have br := xorI_b (a := (rot f 7)) (b := (rot f 18)) (by omega) (by omega)
   refine mw (vi f) ?_
   refine wl_shrU f (3 : Int) wN rfl rfl rfl rfl rfl (by omega) (by omega) ?_
   have bu := shr_b (a := f) (by omega) ((3 : Int)).toNat
   refine wl_xor (xorI (rot f 7) (rot f 18)) (f / (2 : Int) ^ ((3 : Int)).toNat) wN rfl rfl (by kernel_rfl) (by omega) (by omega) (by omega) (by omega) ?_
   have bv := xorI_b (a := (xorI (rot f 7) (rot f 18))) (b := (f / (2 : Int) ^ ((3 : Int)).toNat)) (by omega) (by omega)
   refine aw (vi (xorI (xorI (rot f 7) (rot f 18)) (f / (2 : Int) ^ ((3 : Int)).toNat))) ?_
   refine nx ?_
   refine mw (vi g) ?_
   refine cl wN (csRot am g 17 (by omega) (by omega)) ?_
   rintro _ aC ⟨B, rfl⟩
   have bw := rot_b g 17
   refine mw (vi g) ?_
   refine cl wN (csRot aC g 19 (by omega) (by omega)) ?_
   rintro _ ax ⟨C, rfl⟩
   have aD := (aB.extk B).extk C
   have bz := rot_b g 19
   refine wl_xor (rot g 17) (rot g 19) wN rfl rfl (by kernel_rfl) (by omega) (by omega) (by omega) (by omega) ?_
   have b0 := xorI_b (a := (rot g 17)) (b := (rot g 19)) (by omega) (by omega)
   refine mw (vi g) ?_
   refine wl_shrU g (10 : Int) wN rfl rfl rfl rfl rfl (by omega) (by omega) ?_
   have b1 := shr_b (a := g) (by omega) ((10 : Int)).toNat
   refine wl_xor (xorI (rot g 17) (rot g 19)) (g / (2 : Int) ^ ((10 : Int)).toNat) wN rfl rfl (by kernel_rfl) (by omega) (by omega) (by omega) (by omega) ?_
   have b2 := xorI_b (a := (xorI (rot g 17) (rot g 19))) (b := (g / (2 : Int) ^ ((10 : Int)).toNat)) (by omega) (by omega)
   refine aw (vi (xorI (xorI (rot g 17) (rot g 19)) (g / (2 : Int) ^ ((10 : Int)).toNat))) ?_
   refine n2 ?_
   refine wc_drawT ([(64, [], [], (fun _ v _ => v = (vs i (schedN d m).length j))), (65, [], [], (fun _ v _ => v = (vs i (schedN d m).length j))), (66, [], [], (fun _ v _ => v = (vi (16 + ((m : Nat) : Int))))), (67, [], [2], (fun _ v _ => v = (vi ((16 + ((m : Nat) : Int)) - 7)))), (68, [], [1, 2, 3], (fun _ v _ => v = (ve (vs i (schedN d m).length j) ((((16 + ((m : Nat) : Int)) - 7)).toNat * 1)))), (69, [], [1, 2, 3, 4], (fun _ v _ => v = (vi p))), (70, [], [], (fun _ v _ => v = (vs i (schedN d m).length j))), (71, [], [], (fun _ v _ => v = (vi (16 + ((m : Nat) : Int))))), (72, [], [7], (fun _ v _ => v = (vi ((16 + ((m : Nat) : Int)) - 16)))), (73, [], [6, 7, 8], (fun _ v _ => v = (ve (vs i (schedN d m).length j) ((((16 + ((m : Nat) : Int)) - 16)).toNat * 1)))), (74, [], [6, 7, 8, 9], (fun _ v _ => v = (vi q))), (75, [], [1, 2, 3, 4, 5, 6, 7, 8, 9, 10], (fun _ v _ => v = (vi (p + q)))), (76, [], [], (fun _ v _ => v = (vi (xorI (xorI (rot f 7) (rot f 18)) (f / (2 : Int) ^ ((3 : Int)).toNat))))), (77, [], [1, 2, 3, 4, 5, 6, 7, 8, 9, 10, 11, 12], (fun _ v _ => v = (vi ((p + q) + (xorI (xorI (rot f 7) (rot f 18)) (f / (2 : Int) ^ ((3 : Int)).toNat)))))), (78, [], [], (fun _ v _ => v = (vi (xorI (xorI (rot g 17) (rot g 19)) (g / (2 : Int) ^ ((10 : Int)).toNat))))), (79, [], [1, 2, 3, 4, 5, 6, 7, 8, 9, 10, 11, 12, 13, 14], (fun _ v _ => v = (vi (((p + q) + (xorI (xorI (rot f 7) (rot f 18)) (f / (2 : Int) ^ ((3 : Int)).toNat))) + (xorI (xorI (rot g 17) (rot g 19)) (g / (2 : Int) ^ ((10 : Int)).toNat)))))), (80, [], [1, 2, 3, 4, 5, 6, 7, 8, 9, 10, 11, 12, 13, 14, 15], (fun _ v _ => v = (vi ((((p + q) + (xorI (xorI (rot f 7) (rot f 18)) (f / (2 : Int) ^ ((3 : Int)).toNat))) + (xorI (xorI (rot g 17) (rot g 19)) (g / (2 : Int) ^ ((10 : Int)).toNat))) % 4294967296)))), (81, [], [1, 2, 3, 4, 5, 6, 7, 8, 9, 10, 11, 12, 13, 14, 15, 16], (fun _ v w => ∃ (x : Option Addr) (ac : Nat), v = .slice x ([((((p + q) + (xorI (xorI (rot f 7) (rot f 18)) (f / (2 : Int) ^ ((3 : Int)).toNat))) + (xorI (xorI (rot g 17) (rot g 19)) (g / (2 : Int) ^ ((10 : Int)).toNat))) % 4294967296)] : List Int).length ac ∧ w.ownsRow ax.heap.size 3 1 (.slice x ([((((p + q) + (xorI (xorI (rot f 7) (rot f 18)) (f / (2 : Int) ^ ((3 : Int)).toNat))) + (xorI (xorI (rot g 17) (rot g 19)) (g / (2 : Int) ^ ((10 : Int)).toNat))) % 4294967296)] : List Int).length ac) ([((((p + q) + (xorI (xorI (rot f 7) (rot f 18)) (f / (2 : Int) ^ ((3 : Int)).toNat))) + (xorI (xorI (rot g 17) (rot g 19)) (g / (2 : Int) ^ ((10 : Int)).toNat))) % 4294967296)] : List Int).length (([((((p + q) + (xorI (xorI (rot f 7) (rot f 18)) (f / (2 : Int) ^ ((3 : Int)).toNat))) + (xorI (xorI (rot g 17) (rot g 19)) (g / (2 : Int) ^ ((10 : Int)).toNat))) % 4294967296)] : List Int).map iV) ∧ ([((((p + q) + (xorI (xorI (rot f 7) (rot f 18)) (f / (2 : Int) ^ ((3 : Int)).toNat))) + (xorI (xorI (rot g 17) (rot g 19)) (g / (2 : Int) ^ ((10 : Int)).toNat))) % 4294967296)] : List Int).length ≤ 1073741824 ∧ Aps [(x, ac)]))] : GV) (fun _ s => Keep ax s) [] mixed rfl (by kernel_rfl) (by kernel_rfl) ?_ (fun _ _ h => h) (fun _ _ _ _ h _ k => h.trans k) trivial ?_ ?_ ?_
   ·exact ⟨hV, hE, ⟨hV, hE, ⟨hV, hE, ⟨hV, hE, ⟨hV, hE, ⟨hV, hE, ⟨hV, hE, ⟨hV, hE, ⟨hV, hE, ⟨hV, hE, ⟨hV, hE, ⟨hV, hE, ⟨hV, hE, ⟨hV, hE, ⟨hV, hE, ⟨hV, hE, ⟨hV, hE, ⟨(fun e v w J h hk => by obtain ⟨aE, aF, he, aG, aH, hap⟩ := h; exact ⟨aE, aF, he, own_kp aG hk, aH, hap⟩), hE, trivial⟩⟩⟩⟩⟩⟩⟩⟩⟩⟩⟩⟩⟩⟩⟩⟩⟩⟩
   ·exact trivial
   ·refine ⟨?_, ⟨?_, ⟨?_, ⟨?_, ⟨?_, ⟨?_, ⟨?_, ⟨?_, ⟨?_, ⟨?_, ⟨?_, ⟨?_, ⟨?_, ⟨?_, ⟨?_, ⟨?_, ⟨?_, ⟨?_, trivial⟩⟩⟩⟩⟩⟩⟩⟩⟩⟩⟩⟩⟩⟩⟩⟩⟩⟩
    ·intro _ r b3 _
     rintro _ _ _ _ _ _ _ _ _ _ _ _ _ _ _ _ _ _
     show WL _ _ _ _ _ _ _
     refine mw (vs i (schedN d m).length j) ?_
     exact f1
    ·intro _ r b4 _
     rintro _ _ _ _ _ _ _ _ _ _ _ _ _ _ _ _ _ _
     show WL _ _ _ _ _ _ _
     refine mw (vs i (schedN d m).length j) ?_
     exact f1
    ·intro _ r b5 _
     rintro _ _ _ _ _ _ _ _ _ _ _ _ _ _ _ _ _ _
     show WL _ _ _ _ _ _ _
     refine mw (vi (16 + ((m : Nat) : Int))) ?_
     exact f1
    ·intro _ r b6 _
     rintro _ _ _ rfl _ _ _ _ _ _ _ _ _ _ _ _ _ _ _
     show WL _ _ _ _ _ _ _
     refine ar ((16 + ((m : Nat) : Int)) - 7) wN ?_
     exact f1
    ·intro _ r aI _
     rintro _ _ rfl _ rfl _ rfl _ _ _ _ _ _ _ _ _ _ _ _ _ _
     show WL _ _ _ _ _ _ _
     have aJ := (own_kp (own_kp (own_kp (own_kp (own_kp t y) A) B) C) aI)
     refine ix wN ((16 + ((m : Nat) : Int)) - 7) slTy_23 (Rd.of_own aJ) ?_
     exact f1
    ·intro _ r aK _
     rintro _ _ rfl _ rfl _ rfl _ rfl _ _ _ _ _ _ _ _ _ _ _ _ _
     show WL _ _ _ _ _ _ _
     have aL := (own_kp (own_kp (own_kp (own_kp (own_kp t y) A) B) C) aK)
     refine wl_loadE (iV p) wN rfl rfl rfl rfl isAgg_3 (Rd.of_own aL) (by rw [← Y]; exact iget (by simp) (by first | omega | (simp <;> omega))) ?_
     exact f1
    ·intro _ r b7 _
     rintro _ _ _ _ _ _ _ _ _ _ _ _ _ _ _ _ _ _
     show WL _ _ _ _ _ _ _
     refine mw (vs i (schedN d m).length j) ?_
     exact f1
    ·intro _ r b8 _
     rintro _ _ _ _ _ _ _ _ _ _ _ _ _ _ _ _ _ _
     show WL _ _ _ _ _ _ _
     refine mw (vi (16 + ((m : Nat) : Int))) ?_
     exact f1
    ·intro _ r b9 _
     rintro _ _ _ _ _ _ _ _ rfl _ _ _ _ _ _ _ _ _ _
     show WL _ _ _ _ _ _ _
     refine ar ((16 + ((m : Nat) : Int)) - 16) wN ?_
     exact f1
    ·intro _ r aM _
     rintro _ _ _ _ _ _ _ rfl _ rfl _ rfl _ _ _ _ _ _ _ _ _
     show WL _ _ _ _ _ _ _
     have aN := (own_kp (own_kp (own_kp (own_kp (own_kp t y) A) B) C) aM)
     refine ix wN ((16 + ((m : Nat) : Int)) - 16) slTy_23 (Rd.of_own aN) ?_
     exact f1
    ·intro _ r aO _
     rintro _ _ _ _ _ _ _ rfl _ rfl _ rfl _ rfl _ _ _ _ _ _ _ _
     show WL _ _ _ _ _ _ _
     have aP := (own_kp (own_kp (own_kp (own_kp (own_kp t y) A) B) C) aO)
     refine wl_loadE (iV q) wN rfl rfl rfl rfl isAgg_3 (Rd.of_own aP) (by rw [← Z]; exact iget (by simp) (by first | omega | (simp <;> omega))) ?_
     exact f1
    ·intro _ r bA _
     rintro _ _ rfl _ rfl _ rfl _ rfl _ rfl _ rfl _ rfl _ rfl _ rfl _ rfl _ _ _ _ _ _ _
     show WL _ _ _ _ _ _ _
     refine ar (p + q) wN ?_
     exact f1
    ·intro _ r bB _
     rintro _ _ _ _ _ _ _ _ _ _ _ _ _ _ _ _ _ _
     show WL _ _ _ _ _ _ _
     refine mw (vi (xorI (xorI (rot f 7) (rot f 18)) (f / (2 : Int) ^ ((3 : Int)).toNat))) ?_
     exact f1
    ·intro _ r bC _
     rintro _ _ rfl _ rfl _ rfl _ rfl _ rfl _ rfl _ rfl _ rfl _ rfl _ rfl _ rfl _ rfl _ _ _ _ _
     show WL _ _ _ _ _ _ _
     refine ar ((p + q) + (xorI (xorI (rot f 7) (rot f 18)) (f / (2 : Int) ^ ((3 : Int)).toNat))) wN ?_
     exact f1
    ·intro _ r bD _
     rintro _ _ _ _ _ _ _ _ _ _ _ _ _ _ _ _ _ _
     show WL _ _ _ _ _ _ _
     refine mw (vi (xorI (xorI (rot g 17) (rot g 19)) (g / (2 : Int) ^ ((10 : Int)).toNat))) ?_
     exact f1
    ·intro _ r bE _
     rintro _ _ rfl _ rfl _ rfl _ rfl _ rfl _ rfl _ rfl _ rfl _ rfl _ rfl _ rfl _ rfl _ rfl _ rfl _ _ _
     show WL _ _ _ _ _ _ _
     refine ar (((p + q) + (xorI (xorI (rot f 7) (rot f 18)) (f / (2 : Int) ^ ((3 : Int)).toNat))) + (xorI (xorI (rot g 17) (rot g 19)) (g / (2 : Int) ^ ((10 : Int)).toNat))) wN ?_
     exact f1
    ·intro _ r bF _
     rintro _ _ rfl _ rfl _ rfl _ rfl _ rfl _ rfl _ rfl _ rfl _ rfl _ rfl _ rfl _ rfl _ rfl _ rfl _ rfl _ _
     show WL _ _ _ _ _ _ _
     refine wl_and (((p + q) + (xorI (xorI (rot f 7) (rot f 18)) (f / (2 : Int) ^ ((3 : Int)).toNat))) + (xorI (xorI (rot g 17) (rot g 19)) (g / (2 : Int) ^ ((10 : Int)).toNat))) 4294967295 4294967296 32 wN rfl rfl (by decide) (by decide) (by decide) (by kernel_rfl) ?_
     exact f1
    ·intro _ r aQ _
     rintro _ _ rfl _ rfl _ rfl _ rfl _ rfl _ rfl _ rfl _ rfl _ rfl _ rfl _ rfl _ rfl _ rfl _ rfl _ rfl _ rfl _
     show WL _ _ _ _ _ _ _
     refine ltI ([((((p + q) + (xorI (xorI (rot f 7) (rot f 18)) (f / (2 : Int) ^ ((3 : Int)).toNat))) + (xorI (xorI (rot g 17) (rot g 19)) (g / (2 : Int) ^ ((10 : Int)).toNat))) % 4294967296)] : List Int) wN slTy_23 ?_
     intro bG bH aR aS aT
     exact wl_finT aS ⟨_, _, rfl, (own_lo aT aQ.size), (by simp), ⟨trivial, trivial⟩⟩
   ·intro _ r P
    rintro _ rfl _ rfl _ rfl _ rfl _ rfl _ rfl _ rfl _ rfl _ rfl _ rfl _ rfl _ rfl _ rfl _ rfl _ rfl _ rfl _ rfl _ ⟨bI, bJ, rfl, aU, bK, -⟩
    show WL _ _ _ _ _ _ _
    have aV := (own_kp (own_kp (own_kp (own_kp (own_kp t y) A) B) C) P)
    refine apI (schedN d m) ([((((p + q) + (xorI (xorI (rot f 7) (rot f 18)) (f / (2 : Int) ^ ((3 : Int)).toNat))) + (xorI (xorI (rot g 17) (rot g 19)) (g / (2 : Int) ^ ((10 : Int)).toNat))) % 4294967296)] : List Int) wN slTy_23 aV (Rd.of_own aU) (z8 S W av y A B C P) ?_
    intro Q R aR ay aW bL aX
    have aY := (aD.extk P).ext ay (fun k hk => nT (Nat.le_refl o.heap.size) (own_lt t k hk).1)
    refine aw (vs Q ((schedN d m) ++ ([((((p + q) + (xorI (xorI (rot f 7) (rot f 18)) (f / (2 : Int) ^ ((3 : Int)).toNat))) + (xorI (xorI (rot g 17) (rot g 19)) (g / (2 : Int) ^ ((10 : Int)).toNat))) % 4294967296)] : List Int)).length R) ?_
    refine wl_nil <| wq_blk_normal <| wq_then <| wc_region ?_
    refine mw (vi (16 + ((m : Nat) : Int))) ?_
    refine ar ((16 + ((m : Nat) : Int)) + 1) wN ?_
    refine aw (vi ((16 + ((m : Nat) : Int)) + 1)) ?_
    refine wl_nil ?_
    have az : (((schedN d m) ++ ([((((p + q) + (xorI (xorI (rot f 7) (rot f 18)) (f / (2 : Int) ^ ((3 : Int)).toNat))) + (xorI (xorI (rot g 17) (rot g 19)) (g / (2 : Int) ^ ((10 : Int)).toNat))) % 4294967296)] : List Int)) : List Int) = schedN d (m + 1) := by subst Y Z aa ab; exact schedN_app
    refine wq_loopP (w0 := X) [(2, (vs none 0 0)), (3, (.slice Q (schedN d (m + 1)).length R)), (8, (vi (16 + (((m + 1) : Nat) : Int))))] ?_ ?_ ?_
    · exact ⟨rfl, (cA (fun l : List Int => Value.slice Q l.length R) az), (cA (Value.int .i64) (show (((16 + ((m : Nat) : Int)) + 1) : Int) = (16 + (((m + 1) : Nat) : Int)) by omega)), trivial⟩
    · exact fun u => ⟨(m + 1), u, Q, R, rfl, aY, ((((((((Ch.refl (fun k => o.heap.size ≤ k) G).ext av (fun k hk => hk)).extk y).extk A).extk B).extk C).extk P).ext ay (fun k hk => nT (Nat.le_refl o.heap.size) (own_lt t k hk).1)), (by omega), (az ▸ ⟨aW, aX⟩)⟩
    · show (64 - (16 + (((m + 1) : Nat) : Int))).toNat < (64 - (16 + ((m : Nat) : Int))).toNat; omega
end Go.Proofs.YtkmhmejednjkoaaGreat.K
