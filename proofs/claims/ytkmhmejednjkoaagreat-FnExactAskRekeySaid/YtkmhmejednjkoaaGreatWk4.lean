import Derived.Test.YtkmhmejednjkoaaGreatCore
import Derived.Test.YtkmhmejednjkoaaGreatProg
import Derived.Test.YtkmhmejednjkoaaGreatHeld
import Derived.Test.YtkmhmejednjkoaaGreatFun
import Derived.Test.YtkmhmejednjkoaaGreatFunZ
import Derived.Test.YtkmhmejednjkoaaGreatSqz
import Derived.Test.YtkmhmejednjkoaaGreatHash
import Derived.Test.YtkmhmejednjkoaaGreatAead
import Derived.Test.YtkmhmejednjkoaaGreatWk3
namespace Go.Proofs.YtkmhmejednjkoaaGreat.K
open Go.RowKit
set_option linter.unusedVariables false
set_option linter.unusedSimpArgs false
set_option maxRecDepth 100000
set_option maxHeartbeats 4000000
theorem zero_136 : ∀ w, (zeroValue 136).run Tryz.prog w = .ok (va [(vs none 0 0), (vs none 0 0), (vi 0)]) w := fun w => by kernel_rfl
theorem sizeOf_136 : ∀ w, (sizeOf 136).run Tryz.prog w = .ok 3 w := fun w => by kernel_rfl
theorem isAgg_136 : ∀ w, (isAgg 136).run Tryz.prog w = .ok true w := fun w => by kernel_rfl
def O_136 (w : World) (lo : Nat) (v : Value) (x : (PHash)) : Prop := ∃ (a : Option Addr) (b : Nat) (d : Option Addr) (e : Nat), v = .agg #[.slice a x.H.length b, .slice d x.Held.length e, .int .i64 x.N] ∧ w.ownsRow lo 3 1 (.slice a x.H.length b) x.H.length (x.H.map iV) ∧ x.H.length ≤ 1073741824 ∧ w.ownsRow lo 5 1 (.slice d x.Held.length e) x.Held.length (x.Held.map bV) ∧ x.Held.length ≤ 1073741824 ∧ Aps [(a, b), (d, e)]
def i_HashNew  : (PHash) := { H := (k0), Held := [], N := 0 : PHash }
theorem ciHashNew (a : World)   : Fn Tryz.prog 163 #[] a (fun v e => Keep a e ∧ O_136 e a.heap.size v (i_HashNew)) := by
 refine fn_ofS (n := 3) [] Tryz.func163 rfl rfl ?_
 refine sr ?_
 refine al [(vs none 0 0), (vs none 0 0), (vi 0)] wN zero_136 ?_
 intro w j l m f o
 refine nx ?_
 refine cl wN (ciStart j ) ?_
 rintro _ x ⟨g, ⟨b, d, rfl, h, p, y⟩⟩
 refine pu (va [(vs b (k0).length d), (vs none 0 0), (vi 0)]) wN ?_
 have q := (o.kp g)
 refine sv [(vs b (k0).length d), (vs none 0 0), (vi 0)] wN sizeOf_136 q ?_
 intro A i r B
 have s := (((Ch.base a).extk f).extk g).ext i (fun k hk => by subst hk; exact l)
 refine n3 ?_
 have t := (own_ch h i (ne1 h (m)))
 refine ret_1 (.inl rfl) (va [(vs b (k0).length d), (vs none 0 0), (vi 0)]) rfl (rv_c [(vs b (k0).length d), (vs none 0 0), (vi 0)] rfl r isAgg_136 sizeOf_136) ?_
 refine ⟨s.keep0, ?_⟩
 have u : i_HashNew = { H := (k0), Held := [], N := 0 : PHash } := by rfl
 rw [u]
 exact ⟨_, _, _, _, rfl, (own_lo t f.size), p, (by first | exact own_nil _ _ _ _ | exact OLv.nil _ _ _ _), (by simp), ⟨⟨(Ap.nr _), trivial⟩, ⟨trivial, trivial⟩⟩⟩

abbrev L_136 (x : PHash) (a : Option Addr) (b : Nat) (d : Option Addr) (e : Nat) : List Value := [vs a x.H.length b, vs d x.Held.length e, vi x.N]
def R_136 (w : World) (v : Value) (x : (PHash)) : Prop := ∃ (a : Option Addr) (b : Nat) (d : Option Addr) (e : Nat), v = .agg #[.slice a x.H.length b, .slice d x.Held.length e, .int .i64 x.N] ∧ Rd w 1 (.slice a x.H.length b) x.H.length (x.H.map iV) ∧ x.H.length ≤ 1073741824 ∧ Rd w 1 (.slice d x.Held.length e) x.Held.length (x.Held.map bV) ∧ x.Held.length ≤ 1073741824
def i_HashOk (a : PHash) : (Bool) := bif (areW a.H 8) then (bif (i_within a.N 0 1048576) then (decide ((a.N % 64) = (a.Held.length : Int))) else (false)) else (false)
theorem ciHashOk (e : World) (l : Value) (a : PHash) (w : R_136 e l a)  : Fn Tryz.prog 168 #[l] e (fun v m => Keep e m ∧ O_4 m e.heap.size v (i_HashOk a)) := by
 obtain ⟨g, h, i, j, rfl, x, y, A, E⟩ := w
 refine fn_ofS (n := 20) [(va (L_136 a g h i j))] Tryz.func168 rfl rfl ?_
 refine sr ?_
 refine bx (L_136 a g h i j) wN ?_
 intro f B F G C o
 have p := (Ch.base e).extk C
 refine aw (vb false) ?_
 refine nx ?_
 refine pu (vp f 0) wN ?_
 refine ld (vs g a.H.length h) wN isAgg_23 o ?_
 refine cl wN (ciareWords B _ a.H (mR_23 (x.from0 p) y) 8) ?_
 rintro _ D ⟨q, rfl⟩
 have r := p.extk q
 refine mw (vb (areW a.H 8)) ?_
 rcases bf (areW a.H 8) with d | d
 ·iterate 3 refine sk d ?_
  refine pf (vb false) wN d ?_
  refine mw (vb false) ?_
  iterate 7 refine sk (Eq.refl false) ?_
  refine pf (vb false) wN (Eq.refl false) ?_
  refine aw (vb false) ?_
  refine n3 ?_
  refine rt (vb false) ?_
  refine ⟨r.keep0, ?_⟩
  simp only [i_HashOk, d, cond_true, cond_false]
  exact rfl
 have I := areW_t d
 refine pu (vp f 2) (wS d) ?_
 have s := (o.kp q)
 refine ld (vi a.N) (wS d) isAgg_3 s ?_
 refine cl (wS d) (ciwithin D a.N 0 1048576) ?_
 rintro _ J ⟨t, rfl⟩
 have k := r.extk t
 refine pk (vb (i_within a.N 0 1048576)) wN d ?_
 refine mw (vb (i_within a.N 0 1048576)) ?_
 rcases bf (i_within a.N 0 1048576) with b | b
 ·have K := impl_within_f b
  iterate 7 refine sk b ?_
  refine pf (vb false) wN b ?_
  refine aw (vb false) ?_
  refine n3 ?_
  refine rt (vb false) ?_
  refine ⟨k.keep0, ?_⟩
  simp only [i_HashOk, d, b, cond_true, cond_false]
  exact rfl
 have L := impl_within_t b
 refine pu (vp f 2) (wS b) ?_
 have u := (s.kp t)
 refine ld (vi a.N) (wS b) isAgg_3 u ?_
 refine wl_rem a.N 64 (wS b) rfl rfl (by kernel_rfl) (by first | omega | assumption) ?_
 refine pu (vp f 1) (wS b) ?_
 refine ld (vs i a.Held.length j) (wS b) isAgg_22 u ?_
 refine ln (wS b) slTy_22 (A.from0 k) ?_
 refine pu (vb (decide ((a.N % 64) = (a.Held.length : Int)))) (wS b) ?_
 refine pk (vb (decide ((a.N % 64) = (a.Held.length : Int)))) wN b ?_
 refine aw (vb (decide ((a.N % 64) = (a.Held.length : Int)))) ?_
 refine n3 ?_
 refine rt (vb (decide ((a.N % 64) = (a.Held.length : Int)))) ?_
 refine ⟨k.keep0, ?_⟩
 simp only [i_HashOk, d, b, cond_true, cond_false]
 exact rfl
theorem hashOk_t {h : PHash} (hh : i_HashOk h = true) : areW h.H 8 = true ∧ 0 ≤ h.N ∧ h.N ≤ 1048576 ∧ h.N % 64 = (h.Held.length : Int) := by
  cases h1 : areW h.H 8 with
  | false => simp [i_HashOk, h1] at hh
  | true =>
    cases h2 : i_within h.N 0 1048576 with
    | false => simp [i_HashOk, h1, h2] at hh
    | true =>
      have a := impl_within_t h2
      simp [i_HashOk, h1, h2] at hh
      exact ⟨rfl, a.1, a.2, by omega⟩

def O_22_4 (w : World) (lo : Nat) (v : Value) (x : (List UInt8) × (Bool)) : Prop := ∃ (a : Option Addr) (b : Nat), v = .tuple #[.slice a x.1.length b, .bool x.2] ∧ w.ownsRow lo 5 1 (.slice a x.1.length b) x.1.length (x.1.map bV) ∧ x.1.length ≤ 1073741824 ∧ Aps [(a, b)]
theorem ciCut (h : World) (p : Value) (d : List UInt8) (u : R_22 h p d) (a : Int) (b : Int)  : Fn Tryz.prog 184 #[p, (vi a), (vi b)] h (fun v q => Keep h q ∧ O_22_4 q h.heap.size v (cutP d a b)) := by
 obtain ⟨i, j, rfl, l, x⟩ := u
 refine fn_ofS (n := 36) [(vs i d.length j), (vi a), (vi b)] Tryz.func184 rfl rfl ?_
 refine sr ?_
 refine aw (vs none 0 0) ?_
 refine aw (vb false) ?_
 refine n4 ?_
 refine jT1 [(0, (vs i d.length j)), (1, (vi a)), (2, (vi b)), (6, (vs none 0 0)), (7, (vb false))] (cutP d a b = ([], false)) ?_ fun m => ?_
 ·intro y A B O
  have C := (Ch.base h).extk B
  refine sr ?_
  refine aw (vs none 0 0) ?_
  refine aw (vb false) ?_
  refine n1 ?_
  refine ret_2 (.inl rfl) (vs none 0 0) (vb false) rfl rfl rfl ?_
  refine ⟨C.keep0, ?_⟩
  rw [y]
  exact ⟨_, _, rfl, (by first | exact own_nil _ _ _ _ | exact OLv.nil _ _ _ _), (by simp), ⟨trivial, trivial⟩⟩
 refine mw (vi a) ?_
 refine pu (vb (decide (a < 0))) wN ?_
 refine mw (vb (decide (a < 0))) ?_
 rcases bt (decide (a < 0)) with g | g
 ·have P := dT g
  iterate 2 refine sk g ?_
  refine pk (vb true) wN g ?_
  refine mw (vb true) ?_
  iterate 4 refine sk (Eq.refl true) ?_
  refine pk (vb true) wN (Eq.refl true) ?_
  refine mw (vb true) ?_
  iterate 6 refine sk (Eq.refl true) ?_
  refine pk (vb true) wN (Eq.refl true) ?_
  refine n2 ?_
  refine ct (Eq.refl true) ?_
  have D : cutP d a b = ([], false) := by first | exact cutP_f (by omega) | exact cutP_t (by omega) (by omega) (by omega) (by first | rfl | (congr 2; omega) | (congr 1; omega))
  exact wj (m D _ (Ch.refl _ _))
 have Q := dF g
 refine mv (vi b) (wS g) ?_
 refine pu (vb (decide (b < 0))) (wS g) ?_
 refine pf (vb (decide (b < 0))) wN g ?_
 refine mw (vb (decide (b < 0))) ?_
 rcases bt (decide (b < 0)) with f | f
 ·have R := dT f
  iterate 4 refine sk f ?_
  refine pk (vb true) wN f ?_
  refine mw (vb true) ?_
  iterate 6 refine sk (Eq.refl true) ?_
  refine pk (vb true) wN (Eq.refl true) ?_
  refine n2 ?_
  refine ct (Eq.refl true) ?_
  have E : cutP d a b = ([], false) := by first | exact cutP_f (by omega) | exact cutP_t (by omega) (by omega) (by omega) (by first | rfl | (congr 2; omega) | (congr 1; omega))
  exact wj (m E _ (Ch.refl _ _))
 have S := dF f
 refine mv (vi a) (wS f) ?_
 refine mv (vs i d.length j) (wS f) ?_
 refine ln (wS f) slTy_22 l ?_
 refine pu (vb (decide ((d.length : Int) < a))) (wS f) ?_
 refine pf (vb (decide ((d.length : Int) < a))) wN f ?_
 refine mw (vb (decide ((d.length : Int) < a))) ?_
 rcases bt (decide ((d.length : Int) < a)) with e | e
 ·have T := dT e
  iterate 6 refine sk e ?_
  refine pk (vb true) wN e ?_
  refine n2 ?_
  refine ct (Eq.refl true) ?_
  have F : cutP d a b = ([], false) := by first | exact cutP_f (by omega) | exact cutP_t (by omega) (by omega) (by omega) (by first | rfl | (congr 2; omega) | (congr 1; omega))
  exact wj (m F _ (Ch.refl _ _))
 have V := dF e
 refine mv (vi b) (wS e) ?_
 refine mv (vs i d.length j) (wS e) ?_
 refine ln (wS e) slTy_22 l ?_
 refine mv (vi a) (wS e) ?_
 refine ar ((d.length : Int) - a) (wS e) ?_
 refine pu (vb (decide (((d.length : Int) - a) < b))) (wS e) ?_
 refine pf (vb (decide (((d.length : Int) - a) < b))) wN e ?_
 refine n2 ?_
 rcases bt (decide (((d.length : Int) - a) < b)) with k | k
 ·have W := dT k
  refine ct k ?_
  have G : cutP d a b = ([], false) := by first | exact cutP_f (by omega) | exact cutP_t (by omega) (by omega) (by omega) (by first | rfl | (congr 2; omega) | (congr 1; omega))
  exact wj (m G _ (Ch.refl _ _))
 have X := dF k
 refine cf k ?_
 refine y1 ?_
 refine wl_lit0 wN rfl rfl slTy_22 (fun w => by kernel_rfl) ?_
 intro Y A r H
 have o := (Ch.base h).extk r
 refine mw (vs i d.length j) ?_
 refine mw (vi a) ?_
 refine mw (vi a) ?_
 refine mw (vi b) ?_
 refine ar (a + b) wN ?_
 refine slv ((d.drop ((a).toNat)).take ((((a + b)).toNat) - ((a).toNat))) ((a).toNat) (((a + b)).toNat) wN slTy_22 (l.from0 o) (by first | omega | (simp <;> omega)) (by first | omega | (simp <;> omega)) (by first | rfl | (simp; done) | (rw [List.take_of_length_le (by first | (simp; done) | (simp; omega))])) rfl rfl rfl rfl (.inr ⟨_, _, _, rfl, rfl, by omega⟩) (.inr ⟨_, _, _, rfl, rfl, by omega⟩) ?_
 have I : ((a).toNat) ≤ (((a + b)).toNat) := (by first | omega | (simp <;> omega))
 have J : (((a + b)).toNat) ≤ d.length := (by first | omega | (simp <;> omega))
 refine ap0 ((d.drop ((a).toNat)).take ((((a + b)).toNat) - ((a).toNat))) wN slTy_22 H (Rd.subV (x' := ((d.drop ((a).toNat)).take ((((a + b)).toNat) - ((a).toNat)))) (l.from0 o) I J (by first | rfl | (simp; done) | (rw [List.take_of_length_le (by first | (simp; done) | (simp; omega))]))) r.size ?_
 intro s t Z K L aa
 have M := o.extk K
 refine aw (vs s ((d.drop ((a).toNat)).take ((((a + b)).toNat) - ((a).toNat))).length t) ?_
 refine aw (vb true) ?_
 refine n3 ?_
 refine ret_2 (.inl rfl) (vs s ((d.drop ((a).toNat)).take ((((a + b)).toNat) - ((a).toNat))).length t) (vb true) rfl rfl rfl ?_
 refine ⟨M.keep0, ?_⟩
 have N : cutP d a b = (((d.drop ((a).toNat)).take ((((a + b)).toNat) - ((a).toNat))), true) := by first | exact cutP_f (by omega) | exact cutP_t (by omega) (by omega) (by omega) (by first | rfl | (congr 2; omega) | (congr 1; omega))
 rw [N]
 exact ⟨_, _, rfl, L, (nT (by simp only [List.length_take, List.length_drop]; omega) x), ⟨trivial, trivial⟩⟩

theorem ciGetN (f : World) (w : Value) (d : List UInt8) (F : R_22 f w d) (b : Int) (a : Int)  : Fn Tryz.prog 183 #[w, (vi b), (vi a)] f (fun v m => Keep f m ∧ O_3_3_4 m f.heap.size v (getN3 d b a)) := by
 obtain ⟨r, s, rfl, G, H⟩ := F
 refine fn_ofS (n := 45) [(vs r d.length s), (vi b), (vi a)] Tryz.func183 rfl rfl ?_
 refine sr ?_
 refine aw (vi 0) ?_
 refine aw (vi 0) ?_
 refine aw (vb false) ?_
 refine n4 ?_
 refine jT1 [(0, (vs r d.length s)), (1, (vi b)), (2, (vi a)), (6, (vi 0)), (7, (vi 0)), (8, (vb false))] (getN3 d b a = (0, 0, false)) ?_ fun y => ?_
 ·intro I e J R
  have K := (Ch.base f).extk J
  refine sr ?_
  refine aw (vi 0) ?_
  refine aw (vi 0) ?_
  refine aw (vb false) ?_
  refine n1 ?_
  refine ret_3 (.inl rfl) (vi 0) (vi 0) (vb false) rfl rfl rfl rfl ?_
  refine ⟨K.keep0, ?_⟩
  rw [I]
  exact rfl
 refine mw (vi a) ?_
 refine pu (vb (decide (a < 1))) wN ?_
 refine mw (vb (decide (a < 1))) ?_
 rcases bt (decide (a < 1)) with h | h
 ·have S := dT h
  iterate 2 refine sk h ?_
  refine pk (vb true) wN h ?_
  refine n2 ?_
  refine ct (Eq.refl true) ?_
  have L : getN3 d b a = (0, 0, false) := by first | exact getN3_f (by omega) | exact getN3_c (by assumption) | exact getN3_t (by omega) (by omega) (by assumption) (by omega)
  exact wj (y L _ (Ch.refl _ _))
 have T := dF h
 refine mv (vi a) (wS h) ?_
 refine pu (vb (decide (6 < a))) (wS h) ?_
 refine pf (vb (decide (6 < a))) wN h ?_
 refine n2 ?_
 rcases bt (decide (6 < a)) with o | o
 ·have V := dT o
  refine ct o ?_
  have M : getN3 d b a = (0, 0, false) := by first | exact getN3_f (by omega) | exact getN3_c (by assumption) | exact getN3_t (by omega) (by omega) (by assumption) (by omega)
  exact wj (y M _ (Ch.refl _ _))
 have W := dF o
 refine cf o ?_
 refine y1 ?_
 refine mw (vs r d.length s) ?_
 refine mw (vi b) ?_
 refine mw (vi a) ?_
 refine cl wN (ciCut f _ d (mR_22 G H) b a) ?_
 rintro _ e ⟨N, ⟨j, l, rfl, t, _⟩⟩
 have A := (Ch.base f).extk N
 have X := cutP_len d b a
 refine mw (.tuple #[(vs j ((cutP d b a).1).length l), (vb ((cutP d b a).2))]) ?_
 refine pu (vs j ((cutP d b a).1).length l) wN ?_
 refine pu (vb ((cutP d b a).2)) wN ?_
 refine aw (vs j ((cutP d b a).1).length l) ?_
 refine aw (vb ((cutP d b a).2)) ?_
 refine n4 ?_
 refine mw (vb ((cutP d b a).2)) ?_
 refine pu (vb (!((cutP d b a).2))) wN ?_
 refine n2 ?_
 rcases bf ((cutP d b a).2) with q | q
 ·refine ct (cA not q) ?_
  refine sr ?_
  refine aw (vi 0) ?_
  refine aw (vi 0) ?_
  refine aw (vb false) ?_
  refine n1 ?_
  refine ret_3 (.inl rfl) (vi 0) (vi 0) (vb false) rfl rfl rfl rfl ?_
  refine ⟨A.keep0, ?_⟩
  have O : getN3 d b a = (0, 0, false) := by first | exact getN3_f (by omega) | exact getN3_c (by assumption) | exact getN3_t (by omega) (by omega) (by assumption) (by omega)
  rw [O]
  exact rfl
 have Y := cutP_2 q
 refine cf (cA not q) ?_
 refine y1 ?_
 refine aw (vi 0) ?_
 refine n4 ?_
 refine mw (vs j ((cutP d b a).1).length l) ?_
 refine ln wN slTy_22 (Rd.of_own t) ?_
 refine mw (vi 0) ?_
 refine wl_nil <| wq_then <| wc_block ?_
 refine wc_loopP [(1, (vi b)), (2, (vi a)), (6, (vi 0)), (7, (vi 0)), (8, (vb false)), (11, (vi (getV ((cutP d b a).1.take 0) 0))), (29, (vs j ((cutP d b a).1).length l)), (30, (vi (((cutP d b a).1).length : Int))), (31, (vi ((0 : Nat) : Int)))] ⟨rfl, rfl, rfl, rfl, rfl, (cA (Value.int .i64) (show (0 : Int) = (getV ((cutP d b a).1.take 0) 0) by rfl)), rfl, rfl, (cA (Value.int .i64) (show (0 : Int) = ((0 : Nat) : Int) by omega)), trivial⟩ (fun e' m => ∃ (i : Nat) (B : Env), e' = pt B [(1, (vi b)), (2, (vi a)), (6, (vi 0)), (7, (vi 0)), (8, (vb false)), (11, (vi (getV ((cutP d b a).1.take i) 0))), (29, (vs j ((cutP d b a).1).length l)), (30, (vi (((cutP d b a).1).length : Int))), (31, (vi ((i : Nat) : Int)))] ∧ Ch (fun k => f.heap.size ≤ k) f m ∧ Ch (fun k => e.heap.size ≤ k) e m ∧ i ≤ (cutP d b a).1.length) (fun e' _ => (cutP d b a).1.length - ((intOf (e' 31))).toNat) ?_ ?_
 ·exact fun u => ⟨0, u, rfl, A, (Ch.refl (fun k => e.heap.size ≤ k) e), (by omega)⟩
 ·rintro _ P ⟨i, B, rfl, C, D, Z⟩
  have hgb := getV_b6 ((cutP d b a).1) i (by omega)
  have aa : ((cutP d b a).1.getD i 0).toNat < 256 := UInt8.toNat_lt _
  refine sr ?_
  refine pu (vb (decide (((i : Nat) : Int) < (((cutP d b a).1).length : Int)))) wN ?_
  refine wl_nil <| wq_then <| wc_seq ?_
  rcases bf (decide (((i : Nat) : Int) < (((cutP d b a).1).length : Int))) with p | p
  ·have ab := dF p
   refine cf p ?_
   refine wc_exit <| wq_then_exit <| wq_then_exit <| wq_blk_exit <| wq_then <| sr ?_
   refine mw (vi (getV ((cutP d b a).1.take i) 0)) ?_
   refine mw (vi b) ?_
   refine mw (vi a) ?_
   refine ar (b + a) wN ?_
   refine aw (vi (getV ((cutP d b a).1.take i) 0)) ?_
   refine aw (vi (b + a)) ?_
   refine aw (vb true) ?_
   refine n3 ?_
   refine ret_3 (.inl rfl) (vi (getV ((cutP d b a).1.take i) 0)) (vi (b + a)) (vb true) rfl rfl rfl rfl ?_
   refine ⟨C.keep0, ?_⟩
   have Q : getN3 d b a = ((getV ((cutP d b a).1.take i) 0), (b + a), true) := by first | exact getN3_f (by omega) | exact getN3_c (by assumption) | exact getN3_t (by omega) (by omega) (by assumption) (by omega)
   rw [Q]
   exact rfl
  have ac := dT p
  refine ct p ?_
  refine wc_skip <| wq_then <| wc_seq <| wc_block <| sr ?_
  have E := (own_ch t D (fun g hg hlt hk => by have ad := (own_lt t g hg).2; have ae : e.heap.size ≤ e.heap.size := (Nat.le_refl e.heap.size); have af : e.heap.size ≤ g := hk; omega))
  refine ix wN ((i : Nat) : Int) slTy_22 (Rd.of_own E) ?_
  refine eb (x := (cutP d b a).1) i wN isAgg_5 (Rd.of_own E) ?_
  refine aw (v8 ((((cutP d b a).1).getD i 0).toNat : Int)) ?_
  refine wl_nil <| wq_then <| wc_region ?_
  refine mw (vi (getV ((cutP d b a).1.take i) 0)) ?_
  refine ar (256 * (getV ((cutP d b a).1.take i) 0)) wN ?_
  refine mw (v8 ((((cutP d b a).1).getD i 0).toNat : Int)) ?_
  refine ar ((((cutP d b a).1).getD i 0).toNat : Int) wN ?_
  refine ar ((256 * (getV ((cutP d b a).1.take i) 0)) + ((((cutP d b a).1).getD i 0).toNat : Int)) wN ?_
  refine aw (vi ((256 * (getV ((cutP d b a).1.take i) 0)) + ((((cutP d b a).1).getD i 0).toNat : Int))) ?_
  refine wl_nil <| wq_blk_normal <| wq_then <| wc_region ?_
  refine ar (((i : Nat) : Int) + 1) wN ?_
  refine mw (vi (((i : Nat) : Int) + 1)) ?_
  refine wl_nil ?_
  refine wq_loopP (w0 := P) [(1, (vi b)), (2, (vi a)), (6, (vi 0)), (7, (vi 0)), (8, (vb false)), (11, (vi (getV ((cutP d b a).1.take (i + 1)) 0))), (29, (vs j ((cutP d b a).1).length l)), (30, (vi (((cutP d b a).1).length : Int))), (31, (vi (((i + 1) : Nat) : Int)))] ?_ ?_ ?_
  · exact ⟨rfl, rfl, rfl, rfl, rfl, (cA (Value.int .i64) (show (((256 * (getV ((cutP d b a).1.take i) 0)) + ((((cutP d b a).1).getD i 0).toNat : Int)) : Int) = (getV ((cutP d b a).1.take (i + 1)) 0) by exact getV_next (by omega))), rfl, rfl, (cA (Value.int .i64) (show ((((i : Nat) : Int) + 1) : Int) = (((i + 1) : Nat) : Int) by omega)), trivial⟩
  · exact fun u => ⟨(i + 1), u, rfl, C, ((Ch.refl (fun k => e.heap.size ≤ k) e).ext D (fun k hk => hk)), (by omega)⟩
  · show (cutP d b a).1.length - ((((i + 1) : Nat) : Int)).toNat < (cutP d b a).1.length - (((i : Nat) : Int)).toNat; omega

theorem ciRot (i : World) (e : Int) (d : Int) (x : 1 ≤ d) (y : d ≤ 31) : Fn Tryz.prog 180 #[(vi e), (vi d)] i (fun v l => Keep i l ∧ O_3 l i.heap.size v (rot e d)) := by
 refine fn_ofS (n := 23) [(vi e), (vi d)] Tryz.func180 rfl rfl ?_
 refine sr ?_
 refine aw (vi 0) ?_
 refine nx ?_
 refine mw (vi e) ?_
 refine wl_and e 4294967295 4294967296 32 wN rfl rfl (by decide) (by decide) (by decide) (by kernel_rfl) ?_
 refine aw (vi (e % 4294967296)) ?_
 refine n4 ?_
 refine jT1 [(0, (vi (e % 4294967296))), (1, (vi d)), (4, (vi 0))] (rot e d = (e % 4294967296)) ?_ fun m => ?_
 ·intro o f p A
  have q := (Ch.base i).extk p
  refine sr ?_
  refine mw (vi (e % 4294967296)) ?_
  refine aw (vi (e % 4294967296)) ?_
  refine n1 ?_
  refine rt (vi (e % 4294967296)) ?_
  refine ⟨q.keep0, ?_⟩
  rw [o]
  exact rfl
 refine mw (vi d) ?_
 refine pu (vb (decide (d < 0))) wN ?_
 refine mw (vb (decide (d < 0))) ?_
 rcases bt (decide (d < 0)) with g | g
 ·have B := dT g
  iterate 2 refine sk g ?_
  refine pk (vb true) wN g ?_
  refine n2 ?_
  refine ct (Eq.refl true) ?_
  have r : rot e d = (e % 4294967296) := by first | rfl | (exfalso; omega)
  exact wj (m r _ (Ch.refl _ _))
 have C := dF g
 refine mv (vi d) (wS g) ?_
 refine pu (vb (decide (31 < d))) (wS g) ?_
 refine pf (vb (decide (31 < d))) wN g ?_
 refine n2 ?_
 rcases bt (decide (31 < d)) with j | j
 ·have D := dT j
  refine ct j ?_
  have s : rot e d = (e % 4294967296) := by first | rfl | (exfalso; omega)
  exact wj (m s _ (Ch.refl _ _))
 have E := dF j
 refine cf j ?_
 refine wc_skip <| wq_then <| wc_seq ?_
 refine wc_drawT ([(14, [], [], (fun _ v _ => v = (vi (e % 4294967296)))), (15, [], [], (fun _ v _ => v = (vi d))), (16, [], [0, 1], (fun _ v _ => v = (vi ((e % 4294967296) / (2 : Int) ^ (d).toNat)))), (17, [], [], (fun _ v _ => v = (vi (e % 4294967296)))), (18, [], [], (fun _ v _ => v = (vi d))), (19, [], [4], (fun _ v _ => v = (vi (32 - d)))), (20, [], [3, 4, 5], (fun _ v _ => v = (vi ((e % 4294967296) * (2 : Int) ^ ((32 - d)).toNat))))] : GV) (fun _ l => Keep i l) [] mixed rfl (by kernel_rfl) (by kernel_rfl) ?_ (fun _ _ h => h) (fun _ _ _ _ h _ k => h.trans k) trivial ?_ ?_ ?_
 ·exact ⟨hV, hE, ⟨hV, hE, ⟨hV, hE, ⟨hV, hE, ⟨hV, hE, ⟨hV, hE, ⟨hV, hE, trivial⟩⟩⟩⟩⟩⟩⟩
 ·exact trivial
 ·refine ⟨?_, ⟨?_, ⟨?_, ⟨?_, ⟨?_, ⟨?_, ⟨?_, trivial⟩⟩⟩⟩⟩⟩⟩
  ·intro _ f F _
   rintro _ _ _ _ _ _ _
   show WL _ _ _ _ _ _ _
   refine mw (vi (e % 4294967296)) ?_
   exact f1
  ·intro _ f G _
   rintro _ _ _ _ _ _ _
   show WL _ _ _ _ _ _ _
   refine mw (vi d) ?_
   exact f1
  ·intro _ f H _
   rintro _ rfl _ rfl _ _ _ _ _
   show WL _ _ _ _ _ _ _
   refine wl_shr (e % 4294967296) d wN rfl rfl rfl rfl rfl (by omega) (by omega) ?_
   have I := shr_b (a := (e % 4294967296)) (by omega) (d).toNat
   exact f1
  ·intro _ f J _
   rintro _ _ _ _ _ _ _
   show WL _ _ _ _ _ _ _
   refine mw (vi (e % 4294967296)) ?_
   exact f1
  ·intro _ f K _
   rintro _ _ _ _ _ _ _
   show WL _ _ _ _ _ _ _
   refine mw (vi d) ?_
   exact f1
  ·intro _ f L _
   rintro _ _ _ _ _ rfl _ _
   show WL _ _ _ _ _ _ _
   refine ar (32 - d) wN ?_
   exact f1
  ·intro _ f M _
   rintro _ _ _ _ rfl _ rfl _ rfl _
   show WL _ _ _ _ _ _ _
   refine wl_shl (e % 4294967296) (32 - d) wN rfl rfl rfl rfl rfl (by omega) (by omega) (by omega) (by omega) ?_
   have N := shl_b (a := (e % 4294967296)) (n := ((32 - d)).toNat) (by omega) (by omega) (by omega)
   exact f1
 ·intro _ f t
  have u := (Ch.base i).extk t
  rintro _ rfl _ rfl _ rfl
  have O := shr_b (a := (e % 4294967296)) (by omega) (d).toNat
  rintro _ rfl _ rfl _ rfl _ rfl
  have P := shl_b (a := (e % 4294967296)) (n := ((32 - d)).toNat) (by omega) (by omega) (by omega)
  show WL _ _ _ _ _ _ _
  refine wl_or ((e % 4294967296) / (2 : Int) ^ (d).toNat) ((e % 4294967296) * (2 : Int) ^ ((32 - d)).toNat) wN rfl rfl (by kernel_rfl) (by omega) (by omega) (by omega) (by omega) ?_
  have Q := orI_p (a := ((e % 4294967296) / (2 : Int) ^ (d).toNat)) (b := ((e % 4294967296) * (2 : Int) ^ ((32 - d)).toNat)) (by omega) (by omega)
  refine wl_and (orI ((e % 4294967296) / (2 : Int) ^ (d).toNat) ((e % 4294967296) * (2 : Int) ^ ((32 - d)).toNat)) 4294967295 4294967296 32 wN rfl rfl (by decide) (by decide) (by decide) (by kernel_rfl) ?_
  refine aw (vi ((orI ((e % 4294967296) / (2 : Int) ^ (d).toNat) ((e % 4294967296) * (2 : Int) ^ ((32 - d)).toNat)) % 4294967296)) ?_
  refine n3 ?_
  refine rt (vi ((orI ((e % 4294967296) / (2 : Int) ^ (d).toNat) ((e % 4294967296) * (2 : Int) ^ ((32 - d)).toNat)) % 4294967296)) ?_
  refine ⟨u.keep0, ?_⟩
  have w : rot e d = ((orI ((e % 4294967296) / (2 : Int) ^ (d).toNat) ((e % 4294967296) * (2 : Int) ^ ((32 - d)).toNat)) % 4294967296) := by first | rfl | (exfalso; omega)
  rw [w]
  exact rfl

theorem ciSchedule (i : World) (P : Value) (f : List UInt8) (ac : R_22 i P f)  : Fn Tryz.prog 179 #[P] i (fun v r => Keep i r ∧ O_23 r i.heap.size v (schedP f)) := by
 obtain ⟨A, B, rfl, Q, ad⟩ := ac
 refine fn_ofS (n := 79) [(vs A f.length B)] Tryz.func179 rfl rfl ?_
 refine sr ?_
 refine aw (vs none 0 0) ?_
 refine n4 ?_
 refine mw (vs A f.length B) ?_
 refine ln wN slTy_22 Q ?_
 refine pu (vb (!(decide ((f.length : Int) = 64)))) wN ?_
 refine n2 ?_
 rcases bf (decide ((f.length : Int) = 64)) with C | C
 ·have aJ := dF C
  refine ct (cA not C) ?_
  refine sr ?_
  refine aw (vs none 0 0) ?_
  refine n1 ?_
  refine rt (vs none 0 0) ?_
  refine ⟨Ch.refl _ _, ?_⟩
  have ae : schedP f = [] := by first | exact schedP_f (by omega) | exact schedP_t (by omega) (by omega) (by omega)
  rw [ae]
  exact ⟨_, _, rfl, (by first | exact own_nil _ _ _ _ | exact OLv.nil _ _ _ _), (by simp), ⟨trivial, trivial⟩⟩
 have aK := dT C
 refine cf (cA not C) ?_
 refine y1 ?_
 refine wl_makeI (64) wN rfl rfl rfl slTy_23 64 rfl (by omega) (by first | (simp only [List.length_append, List.length_cons, List.length_nil, List.length_replicate, List.length_take, List.length_drop]; omega) | omega) (by first | (simp only [List.length_append, List.length_cons, List.length_nil, List.length_replicate, List.length_take, List.length_drop]; omega) | omega) ?_
 intro g h H af D
 have ah := (Ch.base i).extk af
 refine aw (vs g (List.replicate 64 (0 : Int)).length h) ?_
 refine n4 ?_
 refine aw (vi 0) ?_
 refine wl_nil <| wq_then <| wc_block ?_
 have ai : ((List.replicate 64 (0 : Int)) : List Int) = sched16 f 0 ++ List.replicate (64 - 0) (0 : Int) := by rfl
 refine wc_loopP [(0, (vs A f.length B)), (2, (vs none 0 0)), (3, (vs g (List.replicate 64 (0 : Int)).length h)), (4, (vi ((0 : Nat) : Int)))] ⟨rfl, rfl, rfl, (cA (Value.int .i64) (show (0 : Int) = ((0 : Nat) : Int) by omega)), trivial⟩ (fun e' r => ∃ (k : Nat) (R : Env), e' = pt R [(0, (vs A f.length B)), (2, (vs none 0 0)), (3, (vs g (List.replicate 64 (0 : Int)).length h)), (4, (vi ((k : Nat) : Int)))] ∧ Ch (fun k => i.heap.size ≤ k) i r ∧ Ch (fun k => i.heap.size ≤ k) H r ∧ k ≤ 16 ∧ World.ownsRow r i.heap.size 3 1 (.slice g (List.replicate 64 (0 : Int)).length h) (List.replicate 64 (0 : Int)).length ((sched16 f k ++ List.replicate (64 - k) (0 : Int)).map iV)) (fun e' _ => (16 - (intOf (e' 4))).toNat) ?_ ?_
 ·exact fun u => ⟨0, u, rfl, ah, (Ch.refl (fun k => i.heap.size ≤ k) H), (by omega), (by rw [← ai]; exact D)⟩
 ·rintro _ E ⟨k, R, rfl, I, aj, aL, S⟩
  have hsl := sched16_len f k
  refine wc_seq <| sr ?_
  refine mw (vi ((k : Nat) : Int)) ?_
  refine pu (vb (decide (((k : Nat) : Int) < 16))) wN ?_
  refine n2 ?_
  rcases bt (decide (((k : Nat) : Int) < 16)) with F | F
  ·have aM := dT F
   refine ct F ?_
   refine wc_skip <| wq_then <| wc_seq <| wc_block <| wc_region ?_
   refine mw (vs g (List.replicate 64 (0 : Int)).length h) ?_
   refine mw (vi ((k : Nat) : Int)) ?_
   refine mw (vs A f.length B) ?_
   refine mw (vi ((k : Nat) : Int)) ?_
   refine ar (4 * ((k : Nat) : Int)) wN ?_
   refine cl wN (ciGetN E _ f (mR_22 (Q.from0 I) ad) (4 * ((k : Nat) : Int)) 4) ?_
   rintro _ T ⟨J, rfl⟩
   refine mw (.tuple #[(vi ((getN3 f (4 * ((k : Nat) : Int)) 4).1)), (vi ((getN3 f (4 * ((k : Nat) : Int)) 4).2.1)), (vb ((getN3 f (4 * ((k : Nat) : Int)) 4).2.2))]) ?_
   refine pu (vi ((getN3 f (4 * ((k : Nat) : Int)) 4).1)) wN ?_
   refine pu (vi ((getN3 f (4 * ((k : Nat) : Int)) 4).2.1)) wN ?_
   refine pu (vb ((getN3 f (4 * ((k : Nat) : Int)) 4).2.2)) wN ?_
   have V := (own_kp S J)
   refine ix wN ((k : Nat) : Int) slTy_23 (Rd.of_own V) ?_
   refine wl_storeI (sched16 f k ++ List.replicate (64 - k) (0 : Int)) (k) ((getN3 f (4 * ((k : Nat) : Int)) 4).1) wN rfl rfl rfl (by simp) rfl sizeOf_3 V (by first | omega | (simp only [List.length_append, List.length_replicate, List.length_take, List.length_set, List.length_map]; omega)) ?_
   intro p W ak
   have am := (I.extk J).ext W (fun k hk => nT (Nat.le_refl i.heap.size) (own_lt D k hk).1)
   refine wl_nil <| wq_blk_normal <| wq_then <| wc_region ?_
   refine mw (vi ((k : Nat) : Int)) ?_
   refine ar (((k : Nat) : Int) + 1) wN ?_
   refine aw (vi (((k : Nat) : Int) + 1)) ?_
   refine wl_nil ?_
   have an : (((sched16 f k ++ List.replicate (64 - k) (0 : Int)).set k ((getN3 f (4 * ((k : Nat) : Int)) 4).1)) : List Int) = sched16 f (k + 1) ++ List.replicate (64 - (k + 1)) (0 : Int) := by exact sched16_next (by omega) (by omega)
   refine wq_loopP (w0 := E) [(0, (vs A f.length B)), (2, (vs none 0 0)), (3, (vs g (List.replicate 64 (0 : Int)).length h)), (4, (vi (((k + 1) : Nat) : Int)))] ?_ ?_ ?_
   · exact ⟨rfl, rfl, rfl, (cA (Value.int .i64) (show ((((k : Nat) : Int) + 1) : Int) = (((k + 1) : Nat) : Int) by omega)), trivial⟩
   · exact fun u => ⟨(k + 1), u, rfl, am, ((((Ch.refl (fun k => i.heap.size ≤ k) H).ext aj (fun k hk => hk)).extk J).ext W (fun k hk => nT (Nat.le_refl i.heap.size) (own_lt D k hk).1)), (by omega), (by rw [← an]; exact ak)⟩
   · show (16 - (((k + 1) : Nat) : Int)).toNat < (16 - ((k : Nat) : Int)).toNat; omega
  have aN := dF F
  refine cf F ?_
  refine wc_exit <| wq_then_exit ?_
  obtain rfl : k = 16 := by omega
  refine wq_then_exit <| wq_blk_exit <| wq_then <| wc_seq <| sr ?_
  refine aw (vi 16) ?_
  refine wl_nil <| wq_then <| wc_block ?_
  have ao : ((sched16 f 16 ++ List.replicate (64 - 16) (0 : Int)) : List Int) = schedN f 0 ++ List.replicate (48 - 0) (0 : Int) := by rfl
  refine wc_loopP [(2, (vs none 0 0)), (3, (vs g (List.replicate 64 (0 : Int)).length h)), (5, (vi (16 + ((0 : Nat) : Int))))] ⟨rfl, rfl, (cA (Value.int .i64) (show (16 : Int) = (16 + ((0 : Nat) : Int)) by omega)), trivial⟩ (fun e' r => ∃ (m : Nat) (X : Env), e' = pt X [(2, (vs none 0 0)), (3, (vs g (List.replicate 64 (0 : Int)).length h)), (5, (vi (16 + ((m : Nat) : Int))))] ∧ Ch (fun k => i.heap.size ≤ k) i r ∧ Ch (fun k => i.heap.size ≤ k) E r ∧ m ≤ 48 ∧ World.ownsRow r i.heap.size 3 1 (.slice g (List.replicate 64 (0 : Int)).length h) (List.replicate 64 (0 : Int)).length ((schedN f m ++ List.replicate (48 - m) (0 : Int)).map iV)) (fun e' _ => (64 - (intOf (e' 5))).toNat) ?_ ?_
  ·exact fun u => ⟨0, u, rfl, I, (Ch.refl (fun k => i.heap.size ≤ k) E), (by omega), (by rw [← ao]; exact S)⟩
  ·rintro _ T ⟨m, X, rfl, Y, ap, aO, q⟩
   have hsl := schedN_len f m
   obtain ⟨l, K⟩ : ∃ z, (schedN f m ++ List.replicate (48 - m) (0 : Int)).getD (((16 + ((m : Nat) : Int)) - 7)).toNat 0 = z := ⟨_, rfl⟩
   have aP : 0 ≤ l ∧ l < 4294967296 := K ▸ wget (schedL_w f m) (((16 + ((m : Nat) : Int)) - 7)).toNat
   obtain ⟨o, L⟩ : ∃ z, (schedN f m ++ List.replicate (48 - m) (0 : Int)).getD (((16 + ((m : Nat) : Int)) - 16)).toNat 0 = z := ⟨_, rfl⟩
   have aQ : 0 ≤ o ∧ o < 4294967296 := L ▸ wget (schedL_w f m) (((16 + ((m : Nat) : Int)) - 16)).toNat
   obtain ⟨d, M⟩ : ∃ z, (schedN f m ++ List.replicate (48 - m) (0 : Int)).getD (((16 + ((m : Nat) : Int)) - 15)).toNat 0 = z := ⟨_, rfl⟩
   have aR : 0 ≤ d ∧ d < 4294967296 := M ▸ wget (schedL_w f m) (((16 + ((m : Nat) : Int)) - 15)).toNat
   obtain ⟨e, N⟩ : ∃ z, (schedN f m ++ List.replicate (48 - m) (0 : Int)).getD (((16 + ((m : Nat) : Int)) - 2)).toNat 0 = z := ⟨_, rfl⟩
   have aS : 0 ≤ e ∧ e < 4294967296 := N ▸ wget (schedL_w f m) (((16 + ((m : Nat) : Int)) - 2)).toNat
   refine wc_seq <| sr ?_
   refine mw (vi (16 + ((m : Nat) : Int))) ?_
   refine pu (vb (decide ((16 + ((m : Nat) : Int)) < 64))) wN ?_
   refine n2 ?_
   rcases bf (decide ((16 + ((m : Nat) : Int)) < 64)) with G | G
   ·have aT := dF G
    refine cf G ?_
    refine wc_exit <| wq_then_exit <| wq_then_exit <| wq_blk_exit <| wq_then <| sr ?_
    refine mw (vs g (List.replicate 64 (0 : Int)).length h) ?_
    refine aw (vs g (List.replicate 64 (0 : Int)).length h) ?_
    refine n3 ?_
    refine rt (vs g (List.replicate 64 (0 : Int)).length h) ?_
    refine ⟨Y.keep0, ?_⟩
    have aq : schedP f = (schedN f m ++ List.replicate (48 - m) (0 : Int)) := by first | exact schedP_f (by omega) | exact schedP_t (by omega) (by omega) (by omega)
    rw [aq]
    have Z : (List.replicate 64 (0 : Int)).length = ((schedN f m ++ List.replicate (48 - m) (0 : Int))).length := by first | (simp only [List.length_append, List.length_take, List.length_replicate, List.length_set, List.length_map]; done) | (simp only [List.length_append, List.length_take, List.length_replicate, List.length_set, List.length_map]; omega)
    rw [Z] at q ⊢
    exact ⟨_, _, rfl, q, (by rw [← Z]; rw [List.length_replicate]; first | assumption | omega), ⟨trivial, trivial⟩⟩
   have aU := dT G
   refine ct G ?_
   refine wc_skip <| wq_then <| wc_seq <| wc_block <| wc_seq ?_
   refine wc_draw ([(33, [], [], (fun _ v _ => v = (vs g (List.replicate 64 (0 : Int)).length h))), (34, [], [], (fun _ v _ => v = (vi (16 + ((m : Nat) : Int))))), (35, [], [1], (fun _ v _ => v = (vi ((16 + ((m : Nat) : Int)) - 15)))), (36, [], [0, 1, 2], (fun _ v _ => v = (ve (vs g (List.replicate 64 (0 : Int)).length h) ((((16 + ((m : Nat) : Int)) - 15)).toNat * 1)))), (37, [], [0, 1, 2, 3], (fun _ v _ => v = (vi d))), (38, [], [], (fun _ v _ => v = (vs g (List.replicate 64 (0 : Int)).length h))), (39, [], [], (fun _ v _ => v = (vi (16 + ((m : Nat) : Int))))), (40, [], [6], (fun _ v _ => v = (vi ((16 + ((m : Nat) : Int)) - 2)))), (41, [], [5, 6, 7], (fun _ v _ => v = (ve (vs g (List.replicate 64 (0 : Int)).length h) ((((16 + ((m : Nat) : Int)) - 2)).toNat * 1)))), (42, [], [5, 6, 7, 8], (fun _ v _ => v = (vi e))), (6, [], [0, 1, 2, 3, 4], (fun _ v _ => v = (vi d)))] : GV) mixed rfl (by kernel_rfl) (by kernel_rfl) ?_ ?_ ?_
   ·exact ⟨hV, hE, ⟨hV, hE, ⟨hV, hE, ⟨hV, hE, ⟨hV, hE, ⟨hV, hE, ⟨hV, hE, ⟨hV, hE, ⟨hV, hE, ⟨hV, hE, ⟨hV, hE, trivial⟩⟩⟩⟩⟩⟩⟩⟩⟩⟩⟩
   ·refine ⟨?_, ⟨?_, ⟨?_, ⟨?_, ⟨?_, ⟨?_, ⟨?_, ⟨?_, ⟨?_, ⟨?_, ⟨?_, trivial⟩⟩⟩⟩⟩⟩⟩⟩⟩⟩⟩
    ·intro p aV
     rintro _ _ _ _ _ _ _ _ _ _ _
     show WL _ _ _ _ _ _ _
     refine mw (vs g (List.replicate 64 (0 : Int)).length h) ?_
     exact f2
    ·intro p aW
     rintro _ _ _ _ _ _ _ _ _ _ _
     show WL _ _ _ _ _ _ _
     refine mw (vi (16 + ((m : Nat) : Int))) ?_
     exact f2
    ·intro p aX
     rintro _ _ rfl _ _ _ _ _ _ _ _ _
     show WL _ _ _ _ _ _ _
     refine ar ((16 + ((m : Nat) : Int)) - 15) wN ?_
     exact f2
    ·intro p au
     rintro _ rfl _ rfl _ rfl _ _ _ _ _ _ _ _
     show WL _ _ _ _ _ _ _
     have av := (own_kp q au)
     refine ix wN ((16 + ((m : Nat) : Int)) - 15) slTy_23 (Rd.of_own av) ?_
     exact f2
    ·intro p ax
     rintro _ rfl _ rfl _ rfl _ rfl _ _ _ _ _ _ _
     show WL _ _ _ _ _ _ _
     have ay := (own_kp q ax)
     refine wl_loadE (iV d) wN rfl rfl rfl rfl isAgg_3 (Rd.of_own ay) (by rw [← M]; exact iget (by simp) (by first | omega | (simp <;> omega))) ?_
     exact f2
    ·intro p aY
     rintro _ _ _ _ _ _ _ _ _ _ _
     show WL _ _ _ _ _ _ _
     refine mw (vs g (List.replicate 64 (0 : Int)).length h) ?_
     exact f2
    ·intro p aZ
     rintro _ _ _ _ _ _ _ _ _ _ _
     show WL _ _ _ _ _ _ _
     refine mw (vi (16 + ((m : Nat) : Int))) ?_
     exact f2
    ·intro p ba
     rintro _ _ _ _ _ _ _ rfl _ _ _ _
     show WL _ _ _ _ _ _ _
     refine ar ((16 + ((m : Nat) : Int)) - 2) wN ?_
     exact f2
    ·intro p az
     rintro _ _ _ _ _ _ rfl _ rfl _ rfl _ _ _
     show WL _ _ _ _ _ _ _
     have a0 := (own_kp q az)
     refine ix wN ((16 + ((m : Nat) : Int)) - 2) slTy_23 (Rd.of_own a0) ?_
     exact f2
    ·intro p a1
     rintro _ _ _ _ _ _ rfl _ rfl _ rfl _ rfl _ _
     show WL _ _ _ _ _ _ _
     have a2 := (own_kp q a1)
     refine wl_loadE (iV e) wN rfl rfl rfl rfl isAgg_3 (Rd.of_own a2) (by rw [← N]; exact iget (by simp) (by first | omega | (simp <;> omega))) ?_
     exact f2
    ·intro p bb
     rintro _ rfl _ rfl _ rfl _ rfl _ rfl _ _ _ _ _ _
     show WL _ _ _ _ _ _ _
     refine aw (vi d) ?_
     exact f2
   ·intro p s
    rintro _ rfl _ rfl _ rfl _ rfl _ rfl _ rfl _ rfl _ rfl _ rfl _ rfl _ rfl
    show WL _ _ _ _ _ _ _
    refine aw (vi e) ?_
    refine nx ?_
    refine mw (vi d) ?_
    refine cl wN (ciRot p d 7 (by omega) (by omega)) ?_
    rintro _ a3 ⟨t, rfl⟩
    have a4 := (Y.extk s).extk t
    have bc := rot_b d 7
    refine mw (vi d) ?_
    refine cl wN (ciRot a3 d 18 (by omega) (by omega)) ?_
    rintro _ a5 ⟨w, rfl⟩
    have bd := rot_b d 18
    refine wl_xor (rot d 7) (rot d 18) wN rfl rfl (by kernel_rfl) (by omega) (by omega) (by omega) (by omega) ?_
    have be := xorI_b (a := (rot d 7)) (b := (rot d 18)) (by omega) (by omega)
    refine mw (vi d) ?_
    refine wl_shrU d (3 : Int) wN rfl rfl rfl rfl rfl (by omega) (by omega) ?_
    have bg := shr_b (a := d) (by omega) ((3 : Int)).toNat
    refine wl_xor (xorI (rot d 7) (rot d 18)) (d / (2 : Int) ^ ((3 : Int)).toNat) wN rfl rfl (by kernel_rfl) (by omega) (by omega) (by omega) (by omega) ?_
    have bh := xorI_b (a := (xorI (rot d 7) (rot d 18))) (b := (d / (2 : Int) ^ ((3 : Int)).toNat)) (by omega) (by omega)
    refine aw (vi (xorI (xorI (rot d 7) (rot d 18)) (d / (2 : Int) ^ ((3 : Int)).toNat))) ?_
    refine nx ?_
    refine mw (vi e) ?_
    refine cl wN (ciRot a5 e 17 (by omega) (by omega)) ?_
    rintro _ a6 ⟨x, rfl⟩
    have bi := rot_b e 17
    refine mw (vi e) ?_
    refine cl wN (ciRot a6 e 19 (by omega) (by omega)) ?_
    rintro _ bj ⟨y, rfl⟩
    have a7 := ((a4.extk w).extk x).extk y
    have bk := rot_b e 19
    refine wl_xor (rot e 17) (rot e 19) wN rfl rfl (by kernel_rfl) (by omega) (by omega) (by omega) (by omega) ?_
    have bl := xorI_b (a := (rot e 17)) (b := (rot e 19)) (by omega) (by omega)
    refine mw (vi e) ?_
    refine wl_shrU e (10 : Int) wN rfl rfl rfl rfl rfl (by omega) (by omega) ?_
    have bm := shr_b (a := e) (by omega) ((10 : Int)).toNat
    refine wl_xor (xorI (rot e 17) (rot e 19)) (e / (2 : Int) ^ ((10 : Int)).toNat) wN rfl rfl (by kernel_rfl) (by omega) (by omega) (by omega) (by omega) ?_
    have bn := xorI_b (a := (xorI (rot e 17) (rot e 19))) (b := (e / (2 : Int) ^ ((10 : Int)).toNat)) (by omega) (by omega)
    refine aw (vi (xorI (xorI (rot e 17) (rot e 19)) (e / (2 : Int) ^ ((10 : Int)).toNat))) ?_
    refine n2 ?_
    refine wc_draw ([(59, [], [], (fun _ v _ => v = (vs g (List.replicate 64 (0 : Int)).length h))), (60, [], [], (fun _ v _ => v = (vi (16 + ((m : Nat) : Int))))), (61, [], [], (fun _ v _ => v = (vs g (List.replicate 64 (0 : Int)).length h))), (62, [], [], (fun _ v _ => v = (vi (16 + ((m : Nat) : Int))))), (63, [], [3], (fun _ v _ => v = (vi ((16 + ((m : Nat) : Int)) - 7)))), (64, [], [2, 3, 4], (fun _ v _ => v = (ve (vs g (List.replicate 64 (0 : Int)).length h) ((((16 + ((m : Nat) : Int)) - 7)).toNat * 1)))), (65, [], [2, 3, 4, 5], (fun _ v _ => v = (vi l))), (66, [], [], (fun _ v _ => v = (vs g (List.replicate 64 (0 : Int)).length h))), (67, [], [], (fun _ v _ => v = (vi (16 + ((m : Nat) : Int))))), (68, [], [8], (fun _ v _ => v = (vi ((16 + ((m : Nat) : Int)) - 16)))), (69, [], [7, 8, 9], (fun _ v _ => v = (ve (vs g (List.replicate 64 (0 : Int)).length h) ((((16 + ((m : Nat) : Int)) - 16)).toNat * 1)))), (70, [], [7, 8, 9, 10], (fun _ v _ => v = (vi o))), (71, [], [2, 3, 4, 5, 6, 7, 8, 9, 10, 11], (fun _ v _ => v = (vi (l + o)))), (72, [], [], (fun _ v _ => v = (vi (xorI (xorI (rot d 7) (rot d 18)) (d / (2 : Int) ^ ((3 : Int)).toNat))))), (73, [], [2, 3, 4, 5, 6, 7, 8, 9, 10, 11, 12, 13], (fun _ v _ => v = (vi ((l + o) + (xorI (xorI (rot d 7) (rot d 18)) (d / (2 : Int) ^ ((3 : Int)).toNat)))))), (74, [], [], (fun _ v _ => v = (vi (xorI (xorI (rot e 17) (rot e 19)) (e / (2 : Int) ^ ((10 : Int)).toNat))))), (75, [], [2, 3, 4, 5, 6, 7, 8, 9, 10, 11, 12, 13, 14, 15], (fun _ v _ => v = (vi (((l + o) + (xorI (xorI (rot d 7) (rot d 18)) (d / (2 : Int) ^ ((3 : Int)).toNat))) + (xorI (xorI (rot e 17) (rot e 19)) (e / (2 : Int) ^ ((10 : Int)).toNat)))))), (76, [], [2, 3, 4, 5, 6, 7, 8, 9, 10, 11, 12, 13, 14, 15, 16], (fun _ v _ => v = (vi ((((l + o) + (xorI (xorI (rot d 7) (rot d 18)) (d / (2 : Int) ^ ((3 : Int)).toNat))) + (xorI (xorI (rot e 17) (rot e 19)) (e / (2 : Int) ^ ((10 : Int)).toNat))) % 4294967296))))] : GV) mixed rfl (by kernel_rfl) (by kernel_rfl) ?_ ?_ ?_
    ·exact ⟨hV, hE, ⟨hV, hE, ⟨hV, hE, ⟨hV, hE, ⟨hV, hE, ⟨hV, hE, ⟨hV, hE, ⟨hV, hE, ⟨hV, hE, ⟨hV, hE, ⟨hV, hE, ⟨hV, hE, ⟨hV, hE, ⟨hV, hE, ⟨hV, hE, ⟨hV, hE, ⟨hV, hE, ⟨hV, hE, trivial⟩⟩⟩⟩⟩⟩⟩⟩⟩⟩⟩⟩⟩⟩⟩⟩⟩⟩
    ·refine ⟨?_, ⟨?_, ⟨?_, ⟨?_, ⟨?_, ⟨?_, ⟨?_, ⟨?_, ⟨?_, ⟨?_, ⟨?_, ⟨?_, ⟨?_, ⟨?_, ⟨?_, ⟨?_, ⟨?_, ⟨?_, trivial⟩⟩⟩⟩⟩⟩⟩⟩⟩⟩⟩⟩⟩⟩⟩⟩⟩⟩
     ·intro j bo
      rintro _ _ _ _ _ _ _ _ _ _ _ _ _ _ _ _ _ _
      show WL _ _ _ _ _ _ _
      refine mw (vs g (List.replicate 64 (0 : Int)).length h) ?_
      exact f2
     ·intro j bp
      rintro _ _ _ _ _ _ _ _ _ _ _ _ _ _ _ _ _ _
      show WL _ _ _ _ _ _ _
      refine mw (vi (16 + ((m : Nat) : Int))) ?_
      exact f2
     ·intro j bq
      rintro _ _ _ _ _ _ _ _ _ _ _ _ _ _ _ _ _ _
      show WL _ _ _ _ _ _ _
      refine mw (vs g (List.replicate 64 (0 : Int)).length h) ?_
      exact f2
     ·intro j br
      rintro _ _ _ _ _ _ _ _ _ _ _ _ _ _ _ _ _ _
      show WL _ _ _ _ _ _ _
      refine mw (vi (16 + ((m : Nat) : Int))) ?_
      exact f2
     ·intro j bu
      rintro _ _ _ _ rfl _ _ _ _ _ _ _ _ _ _ _ _ _ _
      show WL _ _ _ _ _ _ _
      refine ar ((16 + ((m : Nat) : Int)) - 7) wN ?_
      exact f2
     ·intro j a8
      rintro _ _ _ rfl _ rfl _ rfl _ _ _ _ _ _ _ _ _ _ _ _ _
      show WL _ _ _ _ _ _ _
      have a9 := (own_kp (own_kp (own_kp (own_kp (own_kp (own_kp q s) t) w) x) y) a8)
      refine ix wN ((16 + ((m : Nat) : Int)) - 7) slTy_23 (Rd.of_own a9) ?_
      exact f2
     ·intro j aA
      rintro _ _ _ rfl _ rfl _ rfl _ rfl _ _ _ _ _ _ _ _ _ _ _ _
      show WL _ _ _ _ _ _ _
      have aB := (own_kp (own_kp (own_kp (own_kp (own_kp (own_kp q s) t) w) x) y) aA)
      refine wl_loadE (iV l) wN rfl rfl rfl rfl isAgg_3 (Rd.of_own aB) (by rw [← K]; exact iget (by simp) (by first | omega | (simp <;> omega))) ?_
      exact f2
     ·intro j bv
      rintro _ _ _ _ _ _ _ _ _ _ _ _ _ _ _ _ _ _
      show WL _ _ _ _ _ _ _
      refine mw (vs g (List.replicate 64 (0 : Int)).length h) ?_
      exact f2
     ·intro j bw
      rintro _ _ _ _ _ _ _ _ _ _ _ _ _ _ _ _ _ _
      show WL _ _ _ _ _ _ _
      refine mw (vi (16 + ((m : Nat) : Int))) ?_
      exact f2
     ·intro j bz
      rintro _ _ _ _ _ _ _ _ _ rfl _ _ _ _ _ _ _ _ _
      show WL _ _ _ _ _ _ _
      refine ar ((16 + ((m : Nat) : Int)) - 16) wN ?_
      exact f2
     ·intro j aC
      rintro _ _ _ _ _ _ _ _ rfl _ rfl _ rfl _ _ _ _ _ _ _ _
      show WL _ _ _ _ _ _ _
      have aD := (own_kp (own_kp (own_kp (own_kp (own_kp (own_kp q s) t) w) x) y) aC)
      refine ix wN ((16 + ((m : Nat) : Int)) - 16) slTy_23 (Rd.of_own aD) ?_
      exact f2
     ·intro j aE
      rintro _ _ _ _ _ _ _ _ rfl _ rfl _ rfl _ rfl _ _ _ _ _ _ _
      show WL _ _ _ _ _ _ _
      have aF := (own_kp (own_kp (own_kp (own_kp (own_kp (own_kp q s) t) w) x) y) aE)
      refine wl_loadE (iV o) wN rfl rfl rfl rfl isAgg_3 (Rd.of_own aF) (by rw [← L]; exact iget (by simp) (by first | omega | (simp <;> omega))) ?_
      exact f2
     ·intro j b0
      rintro _ _ _ rfl _ rfl _ rfl _ rfl _ rfl _ rfl _ rfl _ rfl _ rfl _ rfl _ _ _ _ _ _
      show WL _ _ _ _ _ _ _
      refine ar (l + o) wN ?_
      exact f2
     ·intro j b1
      rintro _ _ _ _ _ _ _ _ _ _ _ _ _ _ _ _ _ _
      show WL _ _ _ _ _ _ _
      refine mw (vi (xorI (xorI (rot d 7) (rot d 18)) (d / (2 : Int) ^ ((3 : Int)).toNat))) ?_
      exact f2
     ·intro j b2
      rintro _ _ _ rfl _ rfl _ rfl _ rfl _ rfl _ rfl _ rfl _ rfl _ rfl _ rfl _ rfl _ rfl _ _ _ _
      show WL _ _ _ _ _ _ _
      refine ar ((l + o) + (xorI (xorI (rot d 7) (rot d 18)) (d / (2 : Int) ^ ((3 : Int)).toNat))) wN ?_
      exact f2
     ·intro j b3
      rintro _ _ _ _ _ _ _ _ _ _ _ _ _ _ _ _ _ _
      show WL _ _ _ _ _ _ _
      refine mw (vi (xorI (xorI (rot e 17) (rot e 19)) (e / (2 : Int) ^ ((10 : Int)).toNat))) ?_
      exact f2
     ·intro j b4
      rintro _ _ _ rfl _ rfl _ rfl _ rfl _ rfl _ rfl _ rfl _ rfl _ rfl _ rfl _ rfl _ rfl _ rfl _ rfl _ _
      show WL _ _ _ _ _ _ _
      refine ar (((l + o) + (xorI (xorI (rot d 7) (rot d 18)) (d / (2 : Int) ^ ((3 : Int)).toNat))) + (xorI (xorI (rot e 17) (rot e 19)) (e / (2 : Int) ^ ((10 : Int)).toNat))) wN ?_
      exact f2
     ·intro j b5
      rintro _ _ _ rfl _ rfl _ rfl _ rfl _ rfl _ rfl _ rfl _ rfl _ rfl _ rfl _ rfl _ rfl _ rfl _ rfl _ rfl _
      show WL _ _ _ _ _ _ _
      refine wl_and (((l + o) + (xorI (xorI (rot d 7) (rot d 18)) (d / (2 : Int) ^ ((3 : Int)).toNat))) + (xorI (xorI (rot e 17) (rot e 19)) (e / (2 : Int) ^ ((10 : Int)).toNat))) 4294967295 4294967296 32 wN rfl rfl (by decide) (by decide) (by decide) (by kernel_rfl) ?_
      exact f2
    ·intro j O
     rintro _ rfl _ rfl _ rfl _ rfl _ rfl _ rfl _ rfl _ rfl _ rfl _ rfl _ rfl _ rfl _ rfl _ rfl _ rfl _ rfl _ rfl _ rfl
     show WL _ _ _ _ _ _ _
     have aa := (own_kp (own_kp (own_kp (own_kp (own_kp (own_kp q s) t) w) x) y) O)
     refine ix wN (16 + ((m : Nat) : Int)) slTy_23 (Rd.of_own aa) ?_
     refine wl_storeI (schedN f m ++ List.replicate (48 - m) (0 : Int)) (((16 + ((m : Nat) : Int))).toNat) (((((l + o) + (xorI (xorI (rot d 7) (rot d 18)) (d / (2 : Int) ^ ((3 : Int)).toNat))) + (xorI (xorI (rot e 17) (rot e 19)) (e / (2 : Int) ^ ((10 : Int)).toNat))) % 4294967296)) wN rfl rfl rfl (by simp) rfl sizeOf_3 aa (by first | omega | (simp only [List.length_append, List.length_replicate, List.length_take, List.length_set, List.length_map]; omega)) ?_
     intro b6 ab aG
     have aH := (a7.extk O).ext ab (fun k hk => nT (Nat.le_refl i.heap.size) (own_lt D k hk).1)
     refine wl_nil <| wq_blk_normal <| wq_then <| wc_region ?_
     refine mw (vi (16 + ((m : Nat) : Int))) ?_
     refine ar ((16 + ((m : Nat) : Int)) + 1) wN ?_
     refine aw (vi ((16 + ((m : Nat) : Int)) + 1)) ?_
     refine wl_nil ?_
     have aI : (((schedN f m ++ List.replicate (48 - m) (0 : Int)).set (((16 + ((m : Nat) : Int))).toNat) ((((l + o) + (xorI (xorI (rot d 7) (rot d 18)) (d / (2 : Int) ^ ((3 : Int)).toNat))) + (xorI (xorI (rot e 17) (rot e 19)) (e / (2 : Int) ^ ((10 : Int)).toNat))) % 4294967296)) : List Int) = schedN f (m + 1) ++ List.replicate (48 - (m + 1)) (0 : Int) := by subst K L M N; exact schedN_next (by omega)
     refine wq_loopP (w0 := T) [(2, (vs none 0 0)), (3, (vs g (List.replicate 64 (0 : Int)).length h)), (5, (vi (16 + (((m + 1) : Nat) : Int))))] ?_ ?_ ?_
     · exact ⟨rfl, rfl, (cA (Value.int .i64) (show (((16 + ((m : Nat) : Int)) + 1) : Int) = (16 + (((m + 1) : Nat) : Int)) by omega)), trivial⟩
     · exact fun u => ⟨(m + 1), u, rfl, aH, (((((((((Ch.refl (fun k => i.heap.size ≤ k) E).ext ap (fun k hk => hk)).extk s).extk t).extk w).extk x).extk y).extk O).ext ab (fun k hk => nT (Nat.le_refl i.heap.size) (own_lt D k hk).1)), (by omega), (by rw [← aI]; exact aG)⟩
     · show (64 - (16 + (((m + 1) : Nat) : Int))).toNat < (64 - (16 + ((m : Nat) : Int))).toNat; omega

theorem zero_150 : ∀ w, (zeroValue 150).run Tryz.prog w = .ok (va [(vi 0), (vi 0), (vi 0), (vi 0), (vi 0), (vi 0), (vi 0), (vi 0), (vi 0), (vi 0), (vi 0), (vi 0), (vi 0), (vi 0), (vi 0), (vi 0), (vi 0), (vi 0), (vi 0), (vi 0), (vi 0), (vi 0), (vi 0), (vi 0), (vi 0), (vi 0), (vi 0), (vi 0), (vi 0), (vi 0), (vi 0), (vi 0), (vi 0), (vi 0), (vi 0), (vi 0), (vi 0), (vi 0), (vi 0), (vi 0), (vi 0), (vi 0), (vi 0), (vi 0), (vi 0), (vi 0), (vi 0), (vi 0), (vi 0), (vi 0), (vi 0), (vi 0), (vi 0), (vi 0), (vi 0), (vi 0), (vi 0), (vi 0), (vi 0), (vi 0), (vi 0), (vi 0), (vi 0), (vi 0)]) w := fun w => by kernel_rfl
theorem sizeOf_150 : ∀ w, (sizeOf 150).run Tryz.prog w = .ok 64 w := fun w => by kernel_rfl
theorem ciRoundWord (e : World) (a : Int)  : Fn Tryz.prog 181 #[(vi a)] e (fun v f => Keep e f ∧ O_3 f e.heap.size v (rw64 a)) := by
 refine fn_ofS (n := 14) [(vi a)] Tryz.func181 rfl rfl ?_
 refine sr ?_
 refine aw (vi 0) ?_
 refine n4 ?_
 refine jT1 [(0, (vi a)), (2, (vi 0))] (rw64 a = 0) ?_ fun g => ?_
 ·intro h i j A
  have l := (Ch.base e).extk j
  refine sr ?_
  refine aw (vi 0) ?_
  refine n1 ?_
  refine rt (vi 0) ?_
  refine ⟨l.keep0, ?_⟩
  rw [h]
  exact rfl
 refine mw (vi a) ?_
 refine pu (vb (decide (a < 0))) wN ?_
 refine mw (vb (decide (a < 0))) ?_
 rcases bt (decide (a < 0)) with b | b
 ·have B := dT b
  iterate 2 refine sk b ?_
  refine pk (vb true) wN b ?_
  refine n2 ?_
  refine ct (Eq.refl true) ?_
  have m : rw64 a = 0 := by simp only [rw64, b, cond_true, cond_false]; try rfl
  exact wj (g m _ (Ch.refl _ _))
 have C := dF b
 refine mv (vi a) (wS b) ?_
 refine pu (vb (decide (63 < a))) (wS b) ?_
 refine pf (vb (decide (63 < a))) wN b ?_
 refine n2 ?_
 rcases bt (decide (63 < a)) with d | d
 ·have D := dT d
  refine ct d ?_
  have o : rw64 a = 0 := by simp only [rw64, b, d, cond_true, cond_false]; try rfl
  exact wj (g o _ (Ch.refl _ _))
 have E := dF d
 refine cf d ?_
 refine y1 ?_
 refine pu (va [(vi 1116352408), (vi 1899447441), (vi 3049323471), (vi 3921009573), (vi 961987163), (vi 1508970993), (vi 2453635748), (vi 2870763221), (vi 3624381080), (vi 310598401), (vi 607225278), (vi 1426881987), (vi 1925078388), (vi 2162078206), (vi 2614888103), (vi 3248222580), (vi 3835390401), (vi 4022224774), (vi 264347078), (vi 604807628), (vi 770255983), (vi 1249150122), (vi 1555081692), (vi 1996064986), (vi 2554220882), (vi 2821834349), (vi 2952996808), (vi 3210313671), (vi 3336571891), (vi 3584528711), (vi 113926993), (vi 338241895), (vi 666307205), (vi 773529912), (vi 1294757372), (vi 1396182291), (vi 1695183700), (vi 1986661051), (vi 2177026350), (vi 2456956037), (vi 2730485921), (vi 2820302411), (vi 3259730800), (vi 3345764771), (vi 3516065817), (vi 3600352804), (vi 4094571909), (vi 275423344), (vi 430227734), (vi 506948616), (vi 659060556), (vi 883997877), (vi 958139571), (vi 1322822218), (vi 1537002063), (vi 1747873779), (vi 1955562222), (vi 2024104815), (vi 2227730452), (vi 2361852424), (vi 2428436474), (vi 2756734187), (vi 3204031479), (vi 3329325298)]) wN ?_
 refine al [(vi 0), (vi 0), (vi 0), (vi 0), (vi 0), (vi 0), (vi 0), (vi 0), (vi 0), (vi 0), (vi 0), (vi 0), (vi 0), (vi 0), (vi 0), (vi 0), (vi 0), (vi 0), (vi 0), (vi 0), (vi 0), (vi 0), (vi 0), (vi 0), (vi 0), (vi 0), (vi 0), (vi 0), (vi 0), (vi 0), (vi 0), (vi 0), (vi 0), (vi 0), (vi 0), (vi 0), (vi 0), (vi 0), (vi 0), (vi 0), (vi 0), (vi 0), (vi 0), (vi 0), (vi 0), (vi 0), (vi 0), (vi 0), (vi 0), (vi 0), (vi 0), (vi 0), (vi 0), (vi 0), (vi 0), (vi 0), (vi 0), (vi 0), (vi 0), (vi 0), (vi 0), (vi 0), (vi 0), (vi 0)] wN zero_150 ?_
 intro p i q F r s
 refine sv [(vi 1116352408), (vi 1899447441), (vi 3049323471), (vi 3921009573), (vi 961987163), (vi 1508970993), (vi 2453635748), (vi 2870763221), (vi 3624381080), (vi 310598401), (vi 607225278), (vi 1426881987), (vi 1925078388), (vi 2162078206), (vi 2614888103), (vi 3248222580), (vi 3835390401), (vi 4022224774), (vi 264347078), (vi 604807628), (vi 770255983), (vi 1249150122), (vi 1555081692), (vi 1996064986), (vi 2554220882), (vi 2821834349), (vi 2952996808), (vi 3210313671), (vi 3336571891), (vi 3584528711), (vi 113926993), (vi 338241895), (vi 666307205), (vi 773529912), (vi 1294757372), (vi 1396182291), (vi 1695183700), (vi 1986661051), (vi 2177026350), (vi 2456956037), (vi 2730485921), (vi 2820302411), (vi 3259730800), (vi 3345764771), (vi 3516065817), (vi 3600352804), (vi 4094571909), (vi 275423344), (vi 430227734), (vi 506948616), (vi 659060556), (vi 883997877), (vi 958139571), (vi 1322822218), (vi 1537002063), (vi 1747873779), (vi 1955562222), (vi 2024104815), (vi 2227730452), (vi 2361852424), (vi 2428436474), (vi 2756734187), (vi 3204031479), (vi 3329325298)] wN sizeOf_150 s ?_
 intro t u w G
 have x := ((Ch.base e).extk r).ext u (fun k hk => by subst hk; exact q)
 refine nx ?_
 refine mw (vi a) ?_
 refine wl_indexA a wN rfl rfl rfl Tryz.underlying150 sizeOf_3 rfl rfl (by omega) (by omega) ?_
 refine ld (iV (([1116352408, 1899447441, 3049323471, 3921009573, 961987163, 1508970993, 2453635748, 2870763221, 3624381080, 310598401, 607225278, 1426881987, 1925078388, 2162078206, 2614888103, 3248222580, 3835390401, 4022224774, 264347078, 604807628, 770255983, 1249150122, 1555081692, 1996064986, 2554220882, 2821834349, 2952996808, 3210313671, 3336571891, 3584528711, 113926993, 338241895, 666307205, 773529912, 1294757372, 1396182291, 1695183700, 1986661051, 2177026350, 2456956037, 2730485921, 2820302411, 3259730800, 3345764771, 3516065817, 3600352804, 4094571909, 275423344, 430227734, 506948616, 659060556, 883997877, 958139571, 1322822218, 1537002063, 1747873779, 1955562222, 2024104815, 2227730452, 2361852424, 2428436474, 2756734187, 3204031479, 3329325298] : List Int).getD (a).toNat 0)) wN isAgg_3 (show Blk t p 150 (([1116352408, 1899447441, 3049323471, 3921009573, 961987163, 1508970993, 2453635748, 2870763221, 3624381080, 310598401, 607225278, 1426881987, 1925078388, 2162078206, 2614888103, 3248222580, 3835390401, 4022224774, 264347078, 604807628, 770255983, 1249150122, 1555081692, 1996064986, 2554220882, 2821834349, 2952996808, 3210313671, 3336571891, 3584528711, 113926993, 338241895, 666307205, 773529912, 1294757372, 1396182291, 1695183700, 1986661051, 2177026350, 2456956037, 2730485921, 2820302411, 3259730800, 3345764771, 3516065817, 3600352804, 4094571909, 275423344, 430227734, 506948616, 659060556, 883997877, 958139571, 1322822218, 1537002063, 1747873779, 1955562222, 2024104815, 2227730452, 2361852424, 2428436474, 2756734187, 3204031479, 3329325298] : List Int).map iV) from w) ?_ rfl rfl rfl rfl (iget rfl (by show (a).toNat < 64; omega))
 refine aw (vi (([1116352408, 1899447441, 3049323471, 3921009573, 961987163, 1508970993, 2453635748, 2870763221, 3624381080, 310598401, 607225278, 1426881987, 1925078388, 2162078206, 2614888103, 3248222580, 3835390401, 4022224774, 264347078, 604807628, 770255983, 1249150122, 1555081692, 1996064986, 2554220882, 2821834349, 2952996808, 3210313671, 3336571891, 3584528711, 113926993, 338241895, 666307205, 773529912, 1294757372, 1396182291, 1695183700, 1986661051, 2177026350, 2456956037, 2730485921, 2820302411, 3259730800, 3345764771, 3516065817, 3600352804, 4094571909, 275423344, 430227734, 506948616, 659060556, 883997877, 958139571, 1322822218, 1537002063, 1747873779, 1955562222, 2024104815, 2227730452, 2361852424, 2428436474, 2756734187, 3204031479, 3329325298] : List Int).getD (a).toNat 0)) ?_
 refine n3 ?_
 refine rt (vi (([1116352408, 1899447441, 3049323471, 3921009573, 961987163, 1508970993, 2453635748, 2870763221, 3624381080, 310598401, 607225278, 1426881987, 1925078388, 2162078206, 2614888103, 3248222580, 3835390401, 4022224774, 264347078, 604807628, 770255983, 1249150122, 1555081692, 1996064986, 2554220882, 2821834349, 2952996808, 3210313671, 3336571891, 3584528711, 113926993, 338241895, 666307205, 773529912, 1294757372, 1396182291, 1695183700, 1986661051, 2177026350, 2456956037, 2730485921, 2820302411, 3259730800, 3345764771, 3516065817, 3600352804, 4094571909, 275423344, 430227734, 506948616, 659060556, 883997877, 958139571, 1322822218, 1537002063, 1747873779, 1955562222, 2024104815, 2227730452, 2361852424, 2428436474, 2756734187, 3204031479, 3329325298] : List Int).getD (a).toNat 0)) ?_
 refine ⟨x.keep0, ?_⟩
 have y : rw64 a = (([1116352408, 1899447441, 3049323471, 3921009573, 961987163, 1508970993, 2453635748, 2870763221, 3624381080, 310598401, 607225278, 1426881987, 1925078388, 2162078206, 2614888103, 3248222580, 3835390401, 4022224774, 264347078, 604807628, 770255983, 1249150122, 1555081692, 1996064986, 2554220882, 2821834349, 2952996808, 3210313671, 3336571891, 3584528711, 113926993, 338241895, 666307205, 773529912, 1294757372, 1396182291, 1695183700, 1986661051, 2177026350, 2456956037, 2730485921, 2820302411, 3259730800, 3345764771, 3516065817, 3600352804, 4094571909, 275423344, 430227734, 506948616, 659060556, 883997877, 958139571, 1322822218, 1537002063, 1747873779, 1955562222, 2024104815, 2227730452, 2361852424, 2428436474, 2756734187, 3204031479, 3329325298] : List Int).getD (a).toNat 0) := by simp only [rw64, b, d, cond_true, cond_false]; try rfl
 rw [y]
 exact rfl

def i_Add32 (a : Int) (b : Int) : (Int) := ((a + b) % 4294967296)
theorem ciAdd32 (d : World) (a : Int) (b : Int) (g : 0 ≤ a) (h : a ≤ 1099511627776) (i : 0 ≤ b) (j : b ≤ 1099511627776) : Fn Tryz.prog 182 #[(vi a), (vi b)] d (fun v e => Keep d e ∧ O_3 e d.heap.size v (i_Add32 a b)) := by
 refine fn_ofS (n := 9) [(vi a), (vi b)] Tryz.func182 rfl rfl ?_
 refine sr ?_
 refine aw (vi 0) ?_
 refine nx ?_
 refine mw (vi a) ?_
 refine mw (vi b) ?_
 refine ar (a + b) wN ?_
 refine wl_and (a + b) 4294967295 4294967296 32 wN rfl rfl (by decide) (by decide) (by decide) (by kernel_rfl) ?_
 refine aw (vi ((a + b) % 4294967296)) ?_
 refine n3 ?_
 refine rt (vi ((a + b) % 4294967296)) ?_
 refine ⟨Ch.refl _ _, ?_⟩
 have f : i_Add32 a b = ((a + b) % 4294967296) := by rfl
 rw [f]
 exact rfl

theorem ciCompress (G : World) (av : Value) (i : List Int) (aK : R_23 G av i) (ax : Value) (p : List UInt8) (aL : R_22 G ax p)  : Fn Tryz.prog 177 #[av, ax] G (fun v K => Keep G K ∧ O_23 K G.heap.size v (compress i p)) := by
 obtain ⟨B, C, rfl, F, af⟩ := aK
 obtain ⟨X, Y, rfl, ay, aM⟩ := aL
 refine fn_ofS (n := 151) [(vs B i.length C), (vs X p.length Y)] Tryz.func177 rfl rfl ?_
 refine sr ?_
 refine aw (vs none 0 0) ?_
 refine nx ?_
 refine wl_lit0 wN rfl rfl slTy_23 (fun w => by kernel_rfl) ?_
 intro bT bU az aN
 have a0 := (Ch.base G).extk az
 refine mw (vs B i.length C) ?_
 refine ap0I i wN slTy_23 aN (F.from0 a0) az.size ?_
 intro I J a1 aO Q bW
 have ah := a0.extk aO
 refine aw (vs I i.length J) ?_
 refine n4 ?_
 refine jT1 [(0, (vs B i.length C)), (1, (vs X p.length Y)), (4, (vs none 0 0)), (5, (vs I i.length J))] (compress i p = i) ?_ fun a2 => ?_
 ·intro aP a3 a4 bX
  have aQ := ah.extk a4
  refine sr ?_
  refine mw (vs I i.length J) ?_
  refine aw (vs I i.length J) ?_
  refine n1 ?_
  have aR := (own_kp Q a4)
  refine rt (vs I i.length J) ?_
  refine ⟨aQ.keep0, ?_⟩
  rw [aP]
  exact ⟨_, _, rfl, aR, af, ⟨trivial, trivial⟩⟩
 refine mw (vs B i.length C) ?_
 refine cl wN (ciareWords a1 _ i (mR_23 (F.from0 ah) af) 8) ?_
 rintro _ a3 ⟨R, rfl⟩
 have ai := ah.extk R
 refine pu (vb (!(areW i 8))) wN ?_
 refine mw (vb (!(areW i 8))) ?_
 rcases bf (areW i 8) with L | L
 ·iterate 3 refine sk (cA not L) ?_
  refine pk (vb true) wN (cA not L) ?_
  refine n2 ?_
  refine ct (Eq.refl true) ?_
  have aS : compress i p = i := by first | exact compress_f (by first | assumption | exact ‹ws8 i = false›) | exact compress_g (by omega) | exact compress_t (by first | assumption | exact ‹ws8 i = true›) (by omega) (by omega)
  exact wj (a2 aS _ R)
 have bY := areW_t L
 refine mv (vs X p.length Y) (wS (cA not L)) ?_
 refine ln (wS (cA not L)) slTy_22 (ay.from0 ai) ?_
 refine pu (vb (!(decide ((p.length : Int) = 64)))) (wS (cA not L)) ?_
 refine pf (vb (!(decide ((p.length : Int) = 64)))) wN (cA not L) ?_
 refine n2 ?_
 rcases bf (decide ((p.length : Int) = 64)) with S | S
 ·have bZ := dF S
  refine ct (cA not S) ?_
  have aT : compress i p = i := by first | exact compress_f (by first | assumption | exact ‹ws8 i = false›) | exact compress_g (by omega) | exact compress_t (by first | assumption | exact ‹ws8 i = true›) (by omega) (by omega)
  exact wj (a2 aT _ R)
 have ca := dT S
 refine cf (cA not S) ?_
 refine y1 ?_
 refine mw (vs X p.length Y) ?_
 refine cl wN (ciSchedule a3 _ p (mR_22 (ay.from0 ai) aM)) ?_
 rintro _ a5 ⟨Z, ⟨O, P, rfl, aa, _⟩⟩
 have H := ai.extk Z
 have cb := schedP_len p
 refine aw (vs O (schedP p).length P) ?_
 refine wl_nil <| wq_then <| wc_seq ?_
 refine wc_draw ([(36, [], [], (fun _ v _ => v = (vs B i.length C))), (37, [], [0], (fun _ v _ => v = (ve (vs B i.length C) ((0 : Int).toNat * 1)))), (38, [], [0, 1], (fun _ v _ => v = (vi (i.getD 0 0)))), (39, [], [], (fun _ v _ => v = (vs B i.length C))), (40, [], [3], (fun _ v _ => v = (ve (vs B i.length C) ((1 : Int).toNat * 1)))), (41, [], [3, 4], (fun _ v _ => v = (vi (i.getD 1 0)))), (42, [], [], (fun _ v _ => v = (vs B i.length C))), (43, [], [6], (fun _ v _ => v = (ve (vs B i.length C) ((2 : Int).toNat * 1)))), (44, [], [6, 7], (fun _ v _ => v = (vi (i.getD 2 0)))), (45, [], [], (fun _ v _ => v = (vs B i.length C))), (46, [], [9], (fun _ v _ => v = (ve (vs B i.length C) ((3 : Int).toNat * 1)))), (47, [], [9, 10], (fun _ v _ => v = (vi (i.getD 3 0)))), (48, [], [], (fun _ v _ => v = (vs B i.length C))), (49, [], [12], (fun _ v _ => v = (ve (vs B i.length C) ((4 : Int).toNat * 1)))), (50, [], [12, 13], (fun _ v _ => v = (vi (i.getD 4 0)))), (51, [], [], (fun _ v _ => v = (vs B i.length C))), (52, [], [15], (fun _ v _ => v = (ve (vs B i.length C) ((5 : Int).toNat * 1)))), (53, [], [15, 16], (fun _ v _ => v = (vi (i.getD 5 0)))), (54, [], [], (fun _ v _ => v = (vs B i.length C))), (55, [], [18], (fun _ v _ => v = (ve (vs B i.length C) ((6 : Int).toNat * 1)))), (56, [], [18, 19], (fun _ v _ => v = (vi (i.getD 6 0)))), (57, [], [], (fun _ v _ => v = (vs B i.length C))), (58, [], [21], (fun _ v _ => v = (ve (vs B i.length C) ((7 : Int).toNat * 1)))), (59, [], [21, 22], (fun _ v _ => v = (vi (i.getD 7 0)))), (7, [], [0, 1, 2], (fun _ v _ => v = (vi (i.getD 0 0)))), (8, [], [0, 1, 2, 3, 4, 5, 24], (fun _ v _ => v = (vi (i.getD 1 0)))), (9, [], [0, 1, 2, 3, 4, 5, 6, 7, 8, 24, 25], (fun _ v _ => v = (vi (i.getD 2 0)))), (10, [], [0, 1, 2, 3, 4, 5, 6, 7, 8, 9, 10, 11, 24, 25, 26], (fun _ v _ => v = (vi (i.getD 3 0)))), (11, [], [0, 1, 2, 3, 4, 5, 6, 7, 8, 9, 10, 11, 12, 13, 14, 24, 25, 26, 27], (fun _ v _ => v = (vi (i.getD 4 0)))), (12, [], [0, 1, 2, 3, 4, 5, 6, 7, 8, 9, 10, 11, 12, 13, 14, 15, 16, 17, 24, 25, 26, 27, 28], (fun _ v _ => v = (vi (i.getD 5 0)))), (13, [], [0, 1, 2, 3, 4, 5, 6, 7, 8, 9, 10, 11, 12, 13, 14, 15, 16, 17, 18, 19, 20, 24, 25, 26, 27, 28, 29], (fun _ v _ => v = (vi (i.getD 6 0))))] : GV) mixed rfl (by kernel_rfl) (by kernel_rfl) ?_ ?_ ?_
 ·exact ⟨hV, hE, ⟨hV, hE, ⟨hV, hE, ⟨hV, hE, ⟨hV, hE, ⟨hV, hE, ⟨hV, hE, ⟨hV, hE, ⟨hV, hE, ⟨hV, hE, ⟨hV, hE, ⟨hV, hE, ⟨hV, hE, ⟨hV, hE, ⟨hV, hE, ⟨hV, hE, ⟨hV, hE, ⟨hV, hE, ⟨hV, hE, ⟨hV, hE, ⟨hV, hE, ⟨hV, hE, ⟨hV, hE, ⟨hV, hE, ⟨hV, hE, ⟨hV, hE, ⟨hV, hE, ⟨hV, hE, ⟨hV, hE, ⟨hV, hE, ⟨hV, hE, trivial⟩⟩⟩⟩⟩⟩⟩⟩⟩⟩⟩⟩⟩⟩⟩⟩⟩⟩⟩⟩⟩⟩⟩⟩⟩⟩⟩⟩⟩⟩⟩
 ·refine ⟨?_, ⟨?_, ⟨?_, ⟨?_, ⟨?_, ⟨?_, ⟨?_, ⟨?_, ⟨?_, ⟨?_, ⟨?_, ⟨?_, ⟨?_, ⟨?_, ⟨?_, ⟨?_, ⟨?_, ⟨?_, ⟨?_, ⟨?_, ⟨?_, ⟨?_, ⟨?_, ⟨?_, ⟨?_, ⟨?_, ⟨?_, ⟨?_, ⟨?_, ⟨?_, ⟨?_, trivial⟩⟩⟩⟩⟩⟩⟩⟩⟩⟩⟩⟩⟩⟩⟩⟩⟩⟩⟩⟩⟩⟩⟩⟩⟩⟩⟩⟩⟩⟩⟩
  ·intro A cc
   rintro _ _ _ _ _ _ _ _ _ _ _ _ _ _ _ _ _ _ _ _ _ _ _ _ _ _ _ _ _ _ _
   show WL _ _ _ _ _ _ _
   refine mw (vs B i.length C) ?_
   exact f2
  ·intro A aU
   have aV := H.extk aU
   rintro _ rfl _ _ _ _ _ _ _ _ _ _ _ _ _ _ _ _ _ _ _ _ _ _ _ _ _ _ _ _ _ _
   show WL _ _ _ _ _ _ _
   refine ix wN 0 slTy_23 (F.from0 aV) ?_
   exact f2
  ·intro A aW
   have aX := H.extk aW
   rintro _ rfl _ rfl _ _ _ _ _ _ _ _ _ _ _ _ _ _ _ _ _ _ _ _ _ _ _ _ _ _ _ _ _
   show WL _ _ _ _ _ _ _
   refine ei (x := i) 0 wN isAgg_3 (F.from0 aX) ?_
   exact f2
  ·intro A cd
   rintro _ _ _ _ _ _ _ _ _ _ _ _ _ _ _ _ _ _ _ _ _ _ _ _ _ _ _ _ _ _ _
   show WL _ _ _ _ _ _ _
   refine mw (vs B i.length C) ?_
   exact f2
  ·intro A aY
   have aZ := H.extk aY
   rintro _ _ _ _ rfl _ _ _ _ _ _ _ _ _ _ _ _ _ _ _ _ _ _ _ _ _ _ _ _ _ _ _
   show WL _ _ _ _ _ _ _
   refine ix wN 1 slTy_23 (F.from0 aZ) ?_
   exact f2
  ·intro A ba
   have bb := H.extk ba
   rintro _ _ _ _ rfl _ rfl _ _ _ _ _ _ _ _ _ _ _ _ _ _ _ _ _ _ _ _ _ _ _ _ _ _
   show WL _ _ _ _ _ _ _
   refine ei (x := i) 1 wN isAgg_3 (F.from0 bb) ?_
   exact f2
  ·intro A ce
   rintro _ _ _ _ _ _ _ _ _ _ _ _ _ _ _ _ _ _ _ _ _ _ _ _ _ _ _ _ _ _ _
   show WL _ _ _ _ _ _ _
   refine mw (vs B i.length C) ?_
   exact f2
  ·intro A bc
   have bd := H.extk bc
   rintro _ _ _ _ _ _ _ rfl _ _ _ _ _ _ _ _ _ _ _ _ _ _ _ _ _ _ _ _ _ _ _ _
   show WL _ _ _ _ _ _ _
   refine ix wN 2 slTy_23 (F.from0 bd) ?_
   exact f2
  ·intro A be
   have bg := H.extk be
   rintro _ _ _ _ _ _ _ rfl _ rfl _ _ _ _ _ _ _ _ _ _ _ _ _ _ _ _ _ _ _ _ _ _ _
   show WL _ _ _ _ _ _ _
   refine ei (x := i) 2 wN isAgg_3 (F.from0 bg) ?_
   exact f2
  ·intro A cg
   rintro _ _ _ _ _ _ _ _ _ _ _ _ _ _ _ _ _ _ _ _ _ _ _ _ _ _ _ _ _ _ _
   show WL _ _ _ _ _ _ _
   refine mw (vs B i.length C) ?_
   exact f2
  ·intro A bh
   have bi := H.extk bh
   rintro _ _ _ _ _ _ _ _ _ _ rfl _ _ _ _ _ _ _ _ _ _ _ _ _ _ _ _ _ _ _ _ _
   show WL _ _ _ _ _ _ _
   refine ix wN 3 slTy_23 (F.from0 bi) ?_
   exact f2
  ·intro A bj
   have bk := H.extk bj
   rintro _ _ _ _ _ _ _ _ _ _ rfl _ rfl _ _ _ _ _ _ _ _ _ _ _ _ _ _ _ _ _ _ _ _
   show WL _ _ _ _ _ _ _
   refine ei (x := i) 3 wN isAgg_3 (F.from0 bk) ?_
   exact f2
  ·intro A ci
   rintro _ _ _ _ _ _ _ _ _ _ _ _ _ _ _ _ _ _ _ _ _ _ _ _ _ _ _ _ _ _ _
   show WL _ _ _ _ _ _ _
   refine mw (vs B i.length C) ?_
   exact f2
  ·intro A bl
   have bm := H.extk bl
   rintro _ _ _ _ _ _ _ _ _ _ _ _ _ rfl _ _ _ _ _ _ _ _ _ _ _ _ _ _ _ _ _ _
   show WL _ _ _ _ _ _ _
   refine ix wN 4 slTy_23 (F.from0 bm) ?_
   exact f2
  ·intro A bn
   have bo := H.extk bn
   rintro _ _ _ _ _ _ _ _ _ _ _ _ _ rfl _ rfl _ _ _ _ _ _ _ _ _ _ _ _ _ _ _ _ _
   show WL _ _ _ _ _ _ _
   refine ei (x := i) 4 wN isAgg_3 (F.from0 bo) ?_
   exact f2
  ·intro A cj
   rintro _ _ _ _ _ _ _ _ _ _ _ _ _ _ _ _ _ _ _ _ _ _ _ _ _ _ _ _ _ _ _
   show WL _ _ _ _ _ _ _
   refine mw (vs B i.length C) ?_
   exact f2
  ·intro A bp
   have bq := H.extk bp
   rintro _ _ _ _ _ _ _ _ _ _ _ _ _ _ _ _ rfl _ _ _ _ _ _ _ _ _ _ _ _ _ _ _
   show WL _ _ _ _ _ _ _
   refine ix wN 5 slTy_23 (F.from0 bq) ?_
   exact f2
  ·intro A br
   have bu := H.extk br
   rintro _ _ _ _ _ _ _ _ _ _ _ _ _ _ _ _ rfl _ rfl _ _ _ _ _ _ _ _ _ _ _ _ _ _
   show WL _ _ _ _ _ _ _
   refine ei (x := i) 5 wN isAgg_3 (F.from0 bu) ?_
   exact f2
  ·intro A ck
   rintro _ _ _ _ _ _ _ _ _ _ _ _ _ _ _ _ _ _ _ _ _ _ _ _ _ _ _ _ _ _ _
   show WL _ _ _ _ _ _ _
   refine mw (vs B i.length C) ?_
   exact f2
  ·intro A bv
   have bw := H.extk bv
   rintro _ _ _ _ _ _ _ _ _ _ _ _ _ _ _ _ _ _ _ rfl _ _ _ _ _ _ _ _ _ _ _ _
   show WL _ _ _ _ _ _ _
   refine ix wN 6 slTy_23 (F.from0 bw) ?_
   exact f2
  ·intro A bz
   have b0 := H.extk bz
   rintro _ _ _ _ _ _ _ _ _ _ _ _ _ _ _ _ _ _ _ rfl _ rfl _ _ _ _ _ _ _ _ _ _ _
   show WL _ _ _ _ _ _ _
   refine ei (x := i) 6 wN isAgg_3 (F.from0 b0) ?_
   exact f2
  ·intro A cm
   rintro _ _ _ _ _ _ _ _ _ _ _ _ _ _ _ _ _ _ _ _ _ _ _ _ _ _ _ _ _ _ _
   show WL _ _ _ _ _ _ _
   refine mw (vs B i.length C) ?_
   exact f2
  ·intro A b1
   have b2 := H.extk b1
   rintro _ _ _ _ _ _ _ _ _ _ _ _ _ _ _ _ _ _ _ _ _ _ rfl _ _ _ _ _ _ _ _ _
   show WL _ _ _ _ _ _ _
   refine ix wN 7 slTy_23 (F.from0 b2) ?_
   exact f2
  ·intro A b3
   have b4 := H.extk b3
   rintro _ _ _ _ _ _ _ _ _ _ _ _ _ _ _ _ _ _ _ _ _ _ rfl _ rfl _ _ _ _ _ _ _ _
   show WL _ _ _ _ _ _ _
   refine ei (x := i) 7 wN isAgg_3 (F.from0 b4) ?_
   exact f2
  ·intro A cn
   rintro _ rfl _ rfl _ rfl _ _ _ _ _ _ _ _ _ _ _ _ _ _ _ _ _ _ _ _ _ _ _ _ _ _ _ _
   show WL _ _ _ _ _ _ _
   refine aw (vi (i.getD 0 0)) ?_
   exact f2
  ·intro A co
   rintro _ rfl _ rfl _ rfl _ rfl _ rfl _ rfl _ _ _ _ _ _ _ _ _ _ _ _ _ _ _ _ _ _ _ rfl _ _ _ _ _ _
   show WL _ _ _ _ _ _ _
   refine aw (vi (i.getD 1 0)) ?_
   exact f2
  ·intro A cp
   rintro _ rfl _ rfl _ rfl _ rfl _ rfl _ rfl _ rfl _ rfl _ rfl _ _ _ _ _ _ _ _ _ _ _ _ _ _ _ _ rfl _ rfl _ _ _ _ _
   show WL _ _ _ _ _ _ _
   refine aw (vi (i.getD 2 0)) ?_
   exact f2
  ·intro A cq
   rintro _ rfl _ rfl _ rfl _ rfl _ rfl _ rfl _ rfl _ rfl _ rfl _ rfl _ rfl _ rfl _ _ _ _ _ _ _ _ _ _ _ _ _ rfl _ rfl _ rfl _ _ _ _
   show WL _ _ _ _ _ _ _
   refine aw (vi (i.getD 3 0)) ?_
   exact f2
  ·intro A cr
   rintro _ rfl _ rfl _ rfl _ rfl _ rfl _ rfl _ rfl _ rfl _ rfl _ rfl _ rfl _ rfl _ rfl _ rfl _ rfl _ _ _ _ _ _ _ _ _ _ rfl _ rfl _ rfl _ rfl _ _ _
   show WL _ _ _ _ _ _ _
   refine aw (vi (i.getD 4 0)) ?_
   exact f2
  ·intro A cs
   rintro _ rfl _ rfl _ rfl _ rfl _ rfl _ rfl _ rfl _ rfl _ rfl _ rfl _ rfl _ rfl _ rfl _ rfl _ rfl _ rfl _ rfl _ rfl _ _ _ _ _ _ _ rfl _ rfl _ rfl _ rfl _ rfl _ _
   show WL _ _ _ _ _ _ _
   refine aw (vi (i.getD 5 0)) ?_
   exact f2
  ·intro A cu
   rintro _ rfl _ rfl _ rfl _ rfl _ rfl _ rfl _ rfl _ rfl _ rfl _ rfl _ rfl _ rfl _ rfl _ rfl _ rfl _ rfl _ rfl _ rfl _ rfl _ rfl _ rfl _ _ _ _ rfl _ rfl _ rfl _ rfl _ rfl _ rfl _
   show WL _ _ _ _ _ _ _
   refine aw (vi (i.getD 6 0)) ?_
   exact f2
 ·intro A M
  have b5 := H.extk M
  rintro _ rfl _ rfl _ rfl _ rfl _ rfl _ rfl _ rfl _ rfl _ rfl _ rfl _ rfl _ rfl _ rfl _ rfl _ rfl _ rfl _ rfl _ rfl _ rfl _ rfl _ rfl _ rfl _ rfl _ rfl _ rfl _ rfl _ rfl _ rfl _ rfl _ rfl _ rfl
  show WL _ _ _ _ _ _ _
  refine aw (vi (i.getD 7 0)) ?_
  refine n4 ?_
  refine aw (vi 0) ?_
  refine wl_nil <| wq_then <| wc_block ?_
  refine wc_loopP [(0, (vs B i.length C)), (4, (vs none 0 0)), (5, (vs I i.length J)), (6, (vs O (schedP p).length P)), (7, (vi ((cmpN (schedP p) (s8of i) 0).a))), (8, (vi ((cmpN (schedP p) (s8of i) 0).b))), (9, (vi ((cmpN (schedP p) (s8of i) 0).c))), (10, (vi ((cmpN (schedP p) (s8of i) 0).d))), (11, (vi ((cmpN (schedP p) (s8of i) 0).e))), (12, (vi ((cmpN (schedP p) (s8of i) 0).f))), (13, (vi ((cmpN (schedP p) (s8of i) 0).g))), (14, (vi ((cmpN (schedP p) (s8of i) 0).z))), (15, (vi ((0 : Nat) : Int)))] ⟨rfl, rfl, rfl, rfl, (cA (Value.int .i64) (show ((i.getD 0 0) : Int) = (cmpN (schedP p) (s8of i) 0).a by rfl)), (cA (Value.int .i64) (show ((i.getD 1 0) : Int) = (cmpN (schedP p) (s8of i) 0).b by rfl)), (cA (Value.int .i64) (show ((i.getD 2 0) : Int) = (cmpN (schedP p) (s8of i) 0).c by rfl)), (cA (Value.int .i64) (show ((i.getD 3 0) : Int) = (cmpN (schedP p) (s8of i) 0).d by rfl)), (cA (Value.int .i64) (show ((i.getD 4 0) : Int) = (cmpN (schedP p) (s8of i) 0).e by rfl)), (cA (Value.int .i64) (show ((i.getD 5 0) : Int) = (cmpN (schedP p) (s8of i) 0).f by rfl)), (cA (Value.int .i64) (show ((i.getD 6 0) : Int) = (cmpN (schedP p) (s8of i) 0).g by rfl)), (cA (Value.int .i64) (show ((i.getD 7 0) : Int) = (cmpN (schedP p) (s8of i) 0).z by rfl)), (cA (Value.int .i64) (show (0 : Int) = ((0 : Nat) : Int) by omega)), trivial⟩ (fun e' K => ∃ (k : Nat) (o : Int) (q : Int) (r : Int) (D : Int) (j : Int) (s : Int) (t : Int) (y : Int) (a6 : Env), e' = pt a6 [(0, (vs B i.length C)), (4, (vs none 0 0)), (5, (vs I i.length J)), (6, (vs O (schedP p).length P)), (7, (vi o)), (8, (vi q)), (9, (vi r)), (10, (vi D)), (11, (vi j)), (12, (vi s)), (13, (vi t)), (14, (vi y)), (15, (vi ((k : Nat) : Int)))] ∧ Ch (fun k => G.heap.size ≤ k) G K ∧ Ch (fun k => A.heap.size ≤ k) A K ∧ k ≤ 64 ∧ o = (cmpN (schedP p) (s8of i) k).a ∧ q = (cmpN (schedP p) (s8of i) k).b ∧ r = (cmpN (schedP p) (s8of i) k).c ∧ D = (cmpN (schedP p) (s8of i) k).d ∧ j = (cmpN (schedP p) (s8of i) k).e ∧ s = (cmpN (schedP p) (s8of i) k).f ∧ t = (cmpN (schedP p) (s8of i) k).g ∧ y = (cmpN (schedP p) (s8of i) k).z) (fun e' _ => (64 - (intOf (e' 15))).toNat) ?_ ?_
  ·exact fun u => ⟨0, (cmpN (schedP p) (s8of i) 0).a, (cmpN (schedP p) (s8of i) 0).b, (cmpN (schedP p) (s8of i) 0).c, (cmpN (schedP p) (s8of i) 0).d, (cmpN (schedP p) (s8of i) 0).e, (cmpN (schedP p) (s8of i) 0).f, (cmpN (schedP p) (s8of i) 0).g, (cmpN (schedP p) (s8of i) 0).z, u, rfl, b5, (Ch.refl (fun k => A.heap.size ≤ k) A), (by omega), (by first | rfl | assumption), (by first | rfl | assumption), (by first | rfl | assumption), (by first | rfl | assumption), (by first | rfl | assumption), (by first | rfl | assumption), (by first | rfl | assumption), (by first | rfl | assumption)⟩
  ·rintro _ aj ⟨k, o, q, r, D, j, s, t, y, a6, rfl, a7, T, cv, hi_a, hi_b, hi_c, hi_d, hi_e, hi_f, hi_g, hi_z⟩
   obtain ⟨zw, hzw⟩ : ∃ z, (schedP p).getD k 0 = z := ⟨_, rfl⟩
   have hwd : 0 ≤ zw ∧ zw < 4294967296 := hzw ▸ wget (schedP_w p) k
   obtain ⟨zk, hzk⟩ : ∃ z, kw.getD k 0 = z := ⟨_, rfl⟩
   have hkw : 0 ≤ zk ∧ zk < 4294967296 := hzk ▸ wget kw_w k
   have hkl : kw.length = 64 := rfl
   have hok := cmpN_ok (w := schedP p) (s8of_ok (areW_t (by first | assumption | exact ‹ws8 i = true›)).1) k
   unfold S8.ok at hok
   rw [← hi_a, ← hi_b, ← hi_c, ← hi_d, ← hi_e, ← hi_f, ← hi_g, ← hi_z] at hok
   refine wc_seq <| sr ?_
   refine mw (vi ((k : Nat) : Int)) ?_
   refine pu (vb (decide (((k : Nat) : Int) < 64))) wN ?_
   refine n2 ?_
   rcases bf (decide (((k : Nat) : Int) < 64)) with V | V
   ·have cw := dF V
    refine cf V ?_
    refine wc_exit <| wq_then_exit ?_
    obtain rfl : k = 64 := by omega
    refine wq_then_exit <| wq_blk_exit <| wq_then <| wc_seq <| sr ?_
    refine mw (vi o) ?_
    refine mw (vi q) ?_
    refine mw (vi r) ?_
    refine mw (vi D) ?_
    refine mw (vi j) ?_
    refine mw (vi s) ?_
    refine mw (vi t) ?_
    refine mw (vi y) ?_
    refine ltI ([o, q, r, D, j, s, t, y] : List Int) wN slTy_23 ?_
    intro ab ac E a8 ak
    have b6 := a7.extk a8
    refine ln wN slTy_23 (Rd.of_own ak) ?_
    refine mw (vi 0) ?_
    refine wl_nil <| wq_then <| wc_block ?_
    have b7 := (own_kp (own_ch (own_kp (own_kp (own_kp Q R) Z) M) T (fun g hg hlt hk => by have am := (own_lt Q g hg).2; have an : a1.heap.size ≤ A.heap.size := (z3 R Z M); have ao : A.heap.size ≤ g := hk; omega)) a8)
    have b8 : (i : List Int) = (addL i (S8.list (cmpN (schedP p) (s8of i) 64))).take 0 ++ i.drop 0 := by first | rfl | simp
    have b9 : (([o, q, r, D, j, s, t, y] : List Int) : List Int) = ([o, q, r, D, j, s, t, y] : List Int) := by first | rfl | simp
    refine wc_loopP [(0, (vs B i.length C)), (4, (vs none 0 0)), (5, (vs I i.length J)), (133, (vs ab ([o, q, r, D, j, s, t, y] : List Int).length ac)), (134, (vi (([o, q, r, D, j, s, t, y] : List Int).length : Int))), (135, (vi ((0 : Nat) : Int)))] ⟨rfl, rfl, rfl, rfl, rfl, (cA (Value.int .i64) (show (0 : Int) = ((0 : Nat) : Int) by omega)), trivial⟩ (fun e' K => ∃ (m : Nat) (a9 : Env), e' = pt a9 [(0, (vs B i.length C)), (4, (vs none 0 0)), (5, (vs I i.length J)), (133, (vs ab ([o, q, r, D, j, s, t, y] : List Int).length ac)), (134, (vi (([o, q, r, D, j, s, t, y] : List Int).length : Int))), (135, (vi ((m : Nat) : Int)))] ∧ Ch (fun k => G.heap.size ≤ k) G K ∧ Ch (fun k => G.heap.size ≤ k) E K ∧ m ≤ 8 ∧ World.ownsRow K G.heap.size 3 1 (.slice I i.length J) i.length (((addL i (S8.list (cmpN (schedP p) (s8of i) 64))).take m ++ i.drop m).map iV) ∧ World.ownsRow K aj.heap.size 3 1 (.slice ab ([o, q, r, D, j, s, t, y] : List Int).length ac) ([o, q, r, D, j, s, t, y] : List Int).length ((([o, q, r, D, j, s, t, y] : List Int)).map iV)) (fun e' _ => (8 - (intOf (e' 135))).toNat) ?_ ?_
    ·exact fun u => ⟨0, u, rfl, b6, (Ch.refl (fun k => G.heap.size ≤ k) E), (by omega), (by rw [← b8]; exact b7), (by rw [← b9]; exact ak)⟩
    ·rintro _ N ⟨m, a9, rfl, ad, bA, cx, ap, aq⟩
     have hlL : ([o, q, r, D, j, s, t, y] : List Int).length = 8 := rfl
     have hll : (addL i (S8.list (cmpN (schedP p) (s8of i) 64))).length = 8 := addL_len (by omega) rfl
     have cy : (i.length : Int) = 8 := (areW_t (by first | assumption | exact ‹ws8 i = true›)).2
     have cz := wget (areW_t (by first | assumption | exact ‹ws8 i = true›)).1 m
     have hle : ([o, q, r, D, j, s, t, y] : List Int) = (S8.list (cmpN (schedP p) (s8of i) 64)) := by rw [hi_a, hi_b, hi_c, hi_d, hi_e, hi_f, hi_g, hi_z]; rfl
     have c0 : 0 ≤ ([o, q, r, D, j, s, t, y] : List Int).getD m 0 ∧ ([o, q, r, D, j, s, t, y] : List Int).getD m 0 < 4294967296 := hle ▸ wget (s8l_w (cmpN_ok (w := schedP p) (s8of_ok (areW_t (by first | assumption | exact ‹ws8 i = true›)).1) 64)) m
     refine sr ?_
     refine pu (vb (decide (((m : Nat) : Int) < (([o, q, r, D, j, s, t, y] : List Int).length : Int)))) wN ?_
     refine wl_nil <| wq_then <| wc_seq ?_
     rcases bf (decide (((m : Nat) : Int) < (([o, q, r, D, j, s, t, y] : List Int).length : Int))) with W | W
     ·have c1 := dF W
      refine cf W ?_
      refine wc_exit <| wq_then_exit <| wq_then_exit <| wq_blk_exit <| wq_then <| sr ?_
      refine mw (vs I i.length J) ?_
      refine aw (vs I i.length J) ?_
      refine n3 ?_
      refine rt (vs I i.length J) ?_
      refine ⟨ad.keep0, ?_⟩
      have bB : compress i p = ((addL i (S8.list (cmpN (schedP p) (s8of i) 64))).take m ++ i.drop m) := by first | exact compress_f (by first | assumption | exact ‹ws8 i = false›) | exact compress_g (by omega) | exact compress_t (by first | assumption | exact ‹ws8 i = true›) (by omega) (by omega)
      rw [bB]
      have aA : i.length = (((addL i (S8.list (cmpN (schedP p) (s8of i) 64))).take m ++ i.drop m)).length := by simp only [List.length_append, List.length_take, List.length_drop]; omega
      rw [aA] at ap ⊢
      exact ⟨_, _, rfl, ap, (by rw [← aA]; exact af), ⟨trivial, trivial⟩⟩
     have c2 := dT W
     refine ct W ?_
     refine wc_skip <| wq_then <| wc_seq <| wc_block <| sr ?_
     refine mw (vi ((m : Nat) : Int)) ?_
     refine ix wN ((m : Nat) : Int) slTy_23 (Rd.of_own aq) ?_
     refine ei (x := (([o, q, r, D, j, s, t, y] : List Int))) m wN isAgg_3 (Rd.of_own aq) ?_
     refine aw (vi ((m : Nat) : Int)) ?_
     refine aw (vi ((([o, q, r, D, j, s, t, y] : List Int)).getD m 0)) ?_
     refine wl_nil <| wq_then <| wc_region ?_
     refine mw (vs I i.length J) ?_
     refine mw (vi ((m : Nat) : Int)) ?_
     refine mw (vs B i.length C) ?_
     refine mw (vi ((m : Nat) : Int)) ?_
     refine ix wN ((m : Nat) : Int) slTy_23 (F.from0 ad) ?_
     refine ei (x := i) m wN isAgg_3 (F.from0 ad) ?_
     refine mw (vi ((([o, q, r, D, j, s, t, y] : List Int)).getD m 0)) ?_
     refine cl wN (ciAdd32 N (i.getD m 0) ((([o, q, r, D, j, s, t, y] : List Int)).getD m 0) (by omega) (by omega) (by omega) (by omega)) ?_
     rintro _ aB ⟨ae, rfl⟩
     have aC := (own_kp ap ae)
     refine ix wN ((m : Nat) : Int) slTy_23 (Rd.of_own aC) ?_
     refine wl_storeI ((addL i (S8.list (cmpN (schedP p) (s8of i) 64))).take m ++ i.drop m) (m) ((i_Add32 (i.getD m 0) ((([o, q, r, D, j, s, t, y] : List Int)).getD m 0))) wN rfl rfl rfl (by simp) rfl sizeOf_3 aC (by first | omega | (simp only [List.length_append, List.length_take, List.length_drop]; omega)) ?_
     intro aD au bC
     have bD := (ad.extk ae).ext au (fun k hk => nT (Nat.le_refl G.heap.size) (own_lt Q k hk).1)
     refine wl_nil <| wq_blk_normal <| wq_then <| wc_region ?_
     refine ar (((m : Nat) : Int) + 1) wN ?_
     refine mw (vi (((m : Nat) : Int) + 1)) ?_
     refine wl_nil ?_
     have bE : ((((addL i (S8.list (cmpN (schedP p) (s8of i) 64))).take m ++ i.drop m).set m (i_Add32 (i.getD m 0) ((([o, q, r, D, j, s, t, y] : List Int)).getD m 0))) : List Int) = (addL i (S8.list (cmpN (schedP p) (s8of i) 64))).take (m + 1) ++ i.drop (m + 1) := by first | rfl | (rw [hle]; exact addL_next (l := (S8.list (cmpN (schedP p) (s8of i) 64))) (by omega) (by show i.length = 8; omega))
     have bF := (own_ch (own_kp aq ae) au (fun g hg hlt hk => by have am := (own_lt ak g hg).1; have an := (own_lt Q g hk).2; have ao := (z4 R Z M T); omega))
     have bG : ((([o, q, r, D, j, s, t, y] : List Int)) : List Int) = ([o, q, r, D, j, s, t, y] : List Int) := by first | rfl | (rw [hle]; exact addL_next (l := (S8.list (cmpN (schedP p) (s8of i) 64))) (by omega) (by show i.length = 8; omega))
     refine wq_loopP (w0 := N) [(0, (vs B i.length C)), (4, (vs none 0 0)), (5, (vs I i.length J)), (133, (vs ab ([o, q, r, D, j, s, t, y] : List Int).length ac)), (134, (vi (([o, q, r, D, j, s, t, y] : List Int).length : Int))), (135, (vi (((m + 1) : Nat) : Int)))] ?_ ?_ ?_
     · exact ⟨rfl, rfl, rfl, rfl, rfl, (cA (Value.int .i64) (show ((((m : Nat) : Int) + 1) : Int) = (((m + 1) : Nat) : Int) by omega)), trivial⟩
     · exact fun u => ⟨(m + 1), u, rfl, bD, ((((Ch.refl (fun k => G.heap.size ≤ k) E).ext bA (fun k hk => hk)).extk ae).ext au (fun k hk => nT (Nat.le_refl G.heap.size) (own_lt Q k hk).1)), (by omega), (by rw [← bE]; exact bC), (by rw [← bG]; exact bF)⟩
     · show (8 - (((m + 1) : Nat) : Int)).toNat < (8 - ((m : Nat) : Int)).toNat; omega
   have c3 := dT V
   refine ct V ?_
   refine wc_skip <| wq_then <| wc_seq <| wc_block <| sr ?_
   refine mw (vi j) ?_
   refine mw (vi s) ?_
   refine wl_andG j s wN rfl rfl (by kernel_rfl) (by omega) (by omega) (by omega) (by omega) ?_
   have c4 := andI_b (a := j) (b := s) (by omega)
   refine mw (vi j) ?_
   refine wl_xor 4294967295 j wN rfl rfl (by kernel_rfl) (by omega) (by omega) (by omega) (by omega) ?_
   have c5 := xorI_b (a := 4294967295) (b := j) (by omega) (by omega)
   refine mw (vi t) ?_
   refine wl_andG (xorI 4294967295 j) t wN rfl rfl (by kernel_rfl) (by omega) (by omega) (by omega) (by omega) ?_
   have c6 := andI_b (a := (xorI 4294967295 j)) (b := t) (by omega)
   refine wl_xor (andI j s) (andI (xorI 4294967295 j) t) wN rfl rfl (by kernel_rfl) (by omega) (by omega) (by omega) (by omega) ?_
   have c7 := xorI_b (a := (andI j s)) (b := (andI (xorI 4294967295 j) t)) (by omega) (by omega)
   refine aw (vi (xorI (andI j s) (andI (xorI 4294967295 j) t))) ?_
   refine nx ?_
   refine mw (vi o) ?_
   refine mw (vi q) ?_
   refine wl_andG o q wN rfl rfl (by kernel_rfl) (by omega) (by omega) (by omega) (by omega) ?_
   have c8 := andI_b (a := o) (b := q) (by omega)
   refine mw (vi o) ?_
   refine mw (vi r) ?_
   refine wl_andG o r wN rfl rfl (by kernel_rfl) (by omega) (by omega) (by omega) (by omega) ?_
   have c9 := andI_b (a := o) (b := r) (by omega)
   refine wl_xor (andI o q) (andI o r) wN rfl rfl (by kernel_rfl) (by omega) (by omega) (by omega) (by omega) ?_
   have cC := xorI_b (a := (andI o q)) (b := (andI o r)) (by omega) (by omega)
   refine mw (vi q) ?_
   refine mw (vi r) ?_
   refine wl_andG q r wN rfl rfl (by kernel_rfl) (by omega) (by omega) (by omega) (by omega) ?_
   have cD := andI_b (a := q) (b := r) (by omega)
   refine wl_xor (xorI (andI o q) (andI o r)) (andI q r) wN rfl rfl (by kernel_rfl) (by omega) (by omega) (by omega) (by omega) ?_
   have cE := xorI_b (a := (xorI (andI o q) (andI o r))) (b := (andI q r)) (by omega) (by omega)
   refine aw (vi (xorI (xorI (andI o q) (andI o r)) (andI q r))) ?_
   refine wl_nil <| wq_then <| wc_seq ?_
   refine wc_drawT ([(83, [], [], (fun _ v _ => v = (vi y))), (84, [], [], (fun _ v _ => v = (vi j))), (85, [], [1], (fun _ v w => v = .int .i64 (rot j 6))), (86, [], [], (fun _ v _ => v = (vi j))), (87, [], [1, 2, 3], (fun _ v w => v = .int .i64 (rot j 11))), (88, [], [1, 2, 3, 4], (fun _ v _ => v = (vi (xorI (rot j 6) (rot j 11))))), (89, [], [], (fun _ v _ => v = (vi j))), (90, [], [1, 2, 3, 4, 6], (fun _ v w => v = .int .i64 (rot j 25))), (91, [], [1, 2, 3, 4, 5, 6, 7], (fun _ v _ => v = (vi (xorI (xorI (rot j 6) (rot j 11)) (rot j 25))))), (92, [], [0, 1, 2, 3, 4, 5, 6, 7, 8], (fun _ v _ => v = (vi (y + (xorI (xorI (rot j 6) (rot j 11)) (rot j 25)))))), (93, [], [], (fun _ v _ => v = (vi (xorI (andI j s) (andI (xorI 4294967295 j) t))))), (94, [], [0, 1, 2, 3, 4, 5, 6, 7, 8, 9, 10], (fun _ v _ => v = (vi ((y + (xorI (xorI (rot j 6) (rot j 11)) (rot j 25))) + (xorI (andI j s) (andI (xorI 4294967295 j) t)))))), (95, [], [], (fun _ v _ => v = (vi ((k : Nat) : Int)))), (96, [], [1, 2, 3, 4, 6, 7, 12], (fun _ v w => v = .int .i64 (rw64 ((k : Nat) : Int)))), (97, [], [0, 1, 2, 3, 4, 5, 6, 7, 8, 9, 10, 11, 12, 13], (fun _ v _ => v = (vi (((y + (xorI (xorI (rot j 6) (rot j 11)) (rot j 25))) + (xorI (andI j s) (andI (xorI 4294967295 j) t))) + (rw64 ((k : Nat) : Int)))))), (98, [], [], (fun _ v _ => v = (vs O (schedP p).length P))), (99, [], [], (fun _ v _ => v = (vi ((k : Nat) : Int)))), (100, [], [15, 16], (fun _ v _ => v = (ve (vs O (schedP p).length P) ((((k : Nat) : Int)).toNat * 1)))), (101, [], [15, 16, 17], (fun _ v _ => v = (vi zw)))] : GV) (fun _ K => Keep aj K) [] mixed rfl (by kernel_rfl) (by kernel_rfl) ?_ (fun _ _ h => h) (fun _ _ _ _ h _ k => h.trans k) trivial ?_ ?_ ?_
   ·exact ⟨hV, hE, ⟨hV, hE, ⟨hV, hE, ⟨hV, hE, ⟨hV, hE, ⟨hV, hE, ⟨hV, hE, ⟨hV, hE, ⟨hV, hE, ⟨hV, hE, ⟨hV, hE, ⟨hV, hE, ⟨hV, hE, ⟨hV, hE, ⟨hV, hE, ⟨hV, hE, ⟨hV, hE, ⟨hV, hE, ⟨hV, hE, trivial⟩⟩⟩⟩⟩⟩⟩⟩⟩⟩⟩⟩⟩⟩⟩⟩⟩⟩⟩
   ·exact trivial
   ·refine ⟨?_, ⟨?_, ⟨?_, ⟨?_, ⟨?_, ⟨?_, ⟨?_, ⟨?_, ⟨?_, ⟨?_, ⟨?_, ⟨?_, ⟨?_, ⟨?_, ⟨?_, ⟨?_, ⟨?_, ⟨?_, ⟨?_, trivial⟩⟩⟩⟩⟩⟩⟩⟩⟩⟩⟩⟩⟩⟩⟩⟩⟩⟩⟩
    ·intro _ E cF _
     rintro _ _ _ _ _ _ _ _ _ _ _ _ _ _ _ _ _ _ _
     show WL _ _ _ _ _ _ _
     refine mw (vi y) ?_
     exact f1
    ·intro _ E cG _
     rintro _ _ _ _ _ _ _ _ _ _ _ _ _ _ _ _ _ _ _
     show WL _ _ _ _ _ _ _
     refine mw (vi j) ?_
     exact f1
    ·intro _ E cH _
     rintro _ _ rfl _ _ _ _ _ _ _ _ _ _ _ _ _ _ _ _ _
     show WL _ _ _ _ _ _ _
     refine cl wN (ciRot E j 6 (by omega) (by omega)) ?_
     rintro _ N ⟨bH, rfl⟩
     have cI := rot_b j 6
     exact wl_finT bH rfl
    ·intro _ E cJ _
     rintro _ _ _ _ _ _ _ _ _ _ _ _ _ _ _ _ _ _ _
     show WL _ _ _ _ _ _ _
     refine mw (vi j) ?_
     exact f1
    ·intro _ E cK _
     rintro _ _ rfl _ rfl
     have cL := rot_b j 6
     rintro _ rfl _ _ _ _ _ _ _ _ _ _ _ _ _ _ _
     show WL _ _ _ _ _ _ _
     refine cl wN (ciRot E j 11 (by omega) (by omega)) ?_
     rintro _ N ⟨bI, rfl⟩
     have cM := rot_b j 11
     exact wl_finT bI rfl
    ·intro _ E cN _
     rintro _ _ rfl _ rfl
     have cO := rot_b j 6
     rintro _ rfl _ rfl
     have cP := rot_b j 11
     rintro _ _ _ _ _ _ _ _ _ _ _ _ _ _
     show WL _ _ _ _ _ _ _
     refine wl_xor (rot j 6) (rot j 11) wN rfl rfl (by kernel_rfl) (by omega) (by omega) (by omega) (by omega) ?_
     have cQ := xorI_b (a := (rot j 6)) (b := (rot j 11)) (by omega) (by omega)
     exact f1
    ·intro _ E cR _
     rintro _ _ _ _ _ _ _ _ _ _ _ _ _ _ _ _ _ _ _
     show WL _ _ _ _ _ _ _
     refine mw (vi j) ?_
     exact f1
    ·intro _ E cS _
     rintro _ _ rfl _ rfl
     have cT := rot_b j 6
     rintro _ rfl _ rfl
     have cU := rot_b j 11
     rintro _ _ rfl _ _ _ _ _ _ _ _ _ _ _ _
     show WL _ _ _ _ _ _ _
     refine cl wN (ciRot E j 25 (by omega) (by omega)) ?_
     rintro _ N ⟨bJ, rfl⟩
     have cV := rot_b j 25
     exact wl_finT bJ rfl
    ·intro _ E cW _
     rintro _ _ rfl _ rfl
     have cX := rot_b j 6
     rintro _ rfl _ rfl
     have cY := rot_b j 11
     rintro _ rfl
     have cZ := xorI_b (a := (rot j 6)) (b := (rot j 11)) (by omega) (by omega)
     rintro _ rfl _ rfl
     have da := rot_b j 25
     rintro _ _ _ _ _ _ _ _ _ _ _
     show WL _ _ _ _ _ _ _
     refine wl_xor (xorI (rot j 6) (rot j 11)) (rot j 25) wN rfl rfl (by kernel_rfl) (by omega) (by omega) (by omega) (by omega) ?_
     have db := xorI_b (a := (xorI (rot j 6) (rot j 11))) (b := (rot j 25)) (by omega) (by omega)
     exact f1
    ·intro _ E dc _
     rintro _ rfl _ rfl _ rfl
     have dd := rot_b j 6
     rintro _ rfl _ rfl
     have de := rot_b j 11
     rintro _ rfl
     have df := xorI_b (a := (rot j 6)) (b := (rot j 11)) (by omega) (by omega)
     rintro _ rfl _ rfl
     have dg := rot_b j 25
     rintro _ rfl
     have dh := xorI_b (a := (xorI (rot j 6) (rot j 11))) (b := (rot j 25)) (by omega) (by omega)
     rintro _ _ _ _ _ _ _ _ _ _
     show WL _ _ _ _ _ _ _
     refine ar (y + (xorI (xorI (rot j 6) (rot j 11)) (rot j 25))) wN ?_
     exact f1
    ·intro _ E di _
     rintro _ _ _ _ _ _ _ _ _ _ _ _ _ _ _ _ _ _ _
     show WL _ _ _ _ _ _ _
     refine mw (vi (xorI (andI j s) (andI (xorI 4294967295 j) t))) ?_
     exact f1
    ·intro _ E dj _
     rintro _ rfl _ rfl _ rfl
     have dk := rot_b j 6
     rintro _ rfl _ rfl
     have dl := rot_b j 11
     rintro _ rfl
     have dm := xorI_b (a := (rot j 6)) (b := (rot j 11)) (by omega) (by omega)
     rintro _ rfl _ rfl
     have dn := rot_b j 25
     rintro _ rfl
     have dp := xorI_b (a := (xorI (rot j 6) (rot j 11))) (b := (rot j 25)) (by omega) (by omega)
     rintro _ rfl _ rfl _ _ _ _ _ _ _ _
     show WL _ _ _ _ _ _ _
     refine ar ((y + (xorI (xorI (rot j 6) (rot j 11)) (rot j 25))) + (xorI (andI j s) (andI (xorI 4294967295 j) t))) wN ?_
     exact f1
    ·intro _ E dq _
     rintro _ _ _ _ _ _ _ _ _ _ _ _ _ _ _ _ _ _ _
     show WL _ _ _ _ _ _ _
     refine mw (vi ((k : Nat) : Int)) ?_
     exact f1
    ·intro _ E dr _
     rintro _ _ rfl _ rfl
     have ds := rot_b j 6
     rintro _ rfl _ rfl
     have dt := rot_b j 11
     rintro _ _ rfl _ rfl
     have du := rot_b j 25
     rintro _ _ _ _ _ rfl _ _ _ _ _ _
     show WL _ _ _ _ _ _ _
     refine cl wN (ciRoundWord E ((k : Nat) : Int)) ?_
     rintro _ N ⟨bK, rfl⟩
     have dv := rw64_b ((k : Nat) : Int)
     exact wl_finT bK rfl
    ·intro _ E dw _
     rintro _ rfl _ rfl _ rfl
     have dx := rot_b j 6
     rintro _ rfl _ rfl
     have dy := rot_b j 11
     rintro _ rfl
     have dz := xorI_b (a := (rot j 6)) (b := (rot j 11)) (by omega) (by omega)
     rintro _ rfl _ rfl
     have d0 := rot_b j 25
     rintro _ rfl
     have d1 := xorI_b (a := (xorI (rot j 6) (rot j 11))) (b := (rot j 25)) (by omega) (by omega)
     rintro _ rfl _ rfl _ rfl _ rfl _ rfl
     have d2 := rw64_b ((k : Nat) : Int)
     rintro _ _ _ _ _
     show WL _ _ _ _ _ _ _
     refine ar (((y + (xorI (xorI (rot j 6) (rot j 11)) (rot j 25))) + (xorI (andI j s) (andI (xorI 4294967295 j) t))) + (rw64 ((k : Nat) : Int))) wN ?_
     exact f1
    ·intro _ E d3 _
     rintro _ _ _ _ _ _ _ _ _ _ _ _ _ _ _ _ _ _ _
     show WL _ _ _ _ _ _ _
     refine mw (vs O (schedP p).length P) ?_
     exact f1
    ·intro _ E d4 _
     rintro _ _ _ _ _ _ _ _ _ _ _ _ _ _ _ _ _ _ _
     show WL _ _ _ _ _ _ _
     refine mw (vi ((k : Nat) : Int)) ?_
     exact f1
    ·intro _ E bL _
     rintro _ _ _ _ _ _ _ _ _ _ _ _ _ _ _ _ rfl _ rfl _ _
     show WL _ _ _ _ _ _ _
     have bM := (own_kp (own_ch (own_kp aa M) T (fun g hg hlt hk => by have am := (own_lt aa g hg).2; have an : a5.heap.size ≤ A.heap.size := M.size; have ao : A.heap.size ≤ g := hk; omega)) bL)
     refine ix wN ((k : Nat) : Int) slTy_23 (Rd.of_own bM) ?_
     exact f1
    ·intro _ E bN _
     rintro _ _ _ _ _ _ _ _ _ _ _ _ _ _ _ _ rfl _ rfl _ rfl _
     show WL _ _ _ _ _ _ _
     have bO := (own_kp (own_ch (own_kp aa M) T (fun g hg hlt hk => by have am := (own_lt aa g hg).2; have an : a5.heap.size ≤ A.heap.size := M.size; have ao : A.heap.size ≤ g := hk; omega)) bN)
     refine wl_loadE (iV zw) wN rfl rfl rfl rfl isAgg_3 (Rd.of_own bO) (by rw [← hzw]; exact iget (by simp) (by first | omega | (simp <;> omega))) ?_
     exact f1
   ·intro _ E aE
    rintro _ rfl _ rfl _ rfl
    have d5 := rot_b j 6
    rintro _ rfl _ rfl
    have d6 := rot_b j 11
    rintro _ rfl
    have d7 := xorI_b (a := (rot j 6)) (b := (rot j 11)) (by omega) (by omega)
    rintro _ rfl _ rfl
    have d8 := rot_b j 25
    rintro _ rfl
    have d9 := xorI_b (a := (xorI (rot j 6) (rot j 11))) (b := (rot j 25)) (by omega) (by omega)
    rintro _ rfl _ rfl _ rfl _ rfl _ rfl
    have dA := rw64_b ((k : Nat) : Int)
    rintro _ rfl _ rfl _ rfl _ rfl _ rfl
    show WL _ _ _ _ _ _ _
    refine ar ((((y + (xorI (xorI (rot j 6) (rot j 11)) (rot j 25))) + (xorI (andI j s) (andI (xorI 4294967295 j) t))) + (rw64 ((k : Nat) : Int))) + zw) wN ?_
    refine aw (vi ((((y + (xorI (xorI (rot j 6) (rot j 11)) (rot j 25))) + (xorI (andI j s) (andI (xorI 4294967295 j) t))) + (rw64 ((k : Nat) : Int))) + zw)) ?_
    refine nx ?_
    refine mw (vi o) ?_
    refine cl wN (ciRot E o 2 (by omega) (by omega)) ?_
    rintro _ N ⟨aF, rfl⟩
    have bP := (a7.extk aE).extk aF
    have dB := rot_b o 2
    refine mw (vi o) ?_
    refine cl wN (ciRot N o 13 (by omega) (by omega)) ?_
    rintro _ aB ⟨aG, rfl⟩
    have dC := rot_b o 13
    refine wl_xor (rot o 2) (rot o 13) wN rfl rfl (by kernel_rfl) (by omega) (by omega) (by omega) (by omega) ?_
    have dD := xorI_b (a := (rot o 2)) (b := (rot o 13)) (by omega) (by omega)
    refine mw (vi o) ?_
    refine cl wN (ciRot aB o 22 (by omega) (by omega)) ?_
    rintro _ aD ⟨aH, rfl⟩
    have bQ := (bP.extk aG).extk aH
    have dE := rot_b o 22
    refine wl_xor (xorI (rot o 2) (rot o 13)) (rot o 22) wN rfl rfl (by kernel_rfl) (by omega) (by omega) (by omega) (by omega) ?_
    have dG := xorI_b (a := (xorI (rot o 2) (rot o 13))) (b := (rot o 22)) (by omega) (by omega)
    refine mw (vi (xorI (xorI (andI o q) (andI o r)) (andI q r))) ?_
    refine ar ((xorI (xorI (rot o 2) (rot o 13)) (rot o 22)) + (xorI (xorI (andI o q) (andI o r)) (andI q r))) wN ?_
    refine aw (vi ((xorI (xorI (rot o 2) (rot o 13)) (rot o 22)) + (xorI (xorI (andI o q) (andI o r)) (andI q r)))) ?_
    refine nx ?_
    refine mw (vi t) ?_
    refine mw (vi s) ?_
    refine mw (vi j) ?_
    refine mw (vi D) ?_
    refine mw (vi ((((y + (xorI (xorI (rot j 6) (rot j 11)) (rot j 25))) + (xorI (andI j s) (andI (xorI 4294967295 j) t))) + (rw64 ((k : Nat) : Int))) + zw)) ?_
    refine cl wN (ciAdd32 aD D ((((y + (xorI (xorI (rot j 6) (rot j 11)) (rot j 25))) + (xorI (andI j s) (andI (xorI 4294967295 j) t))) + (rw64 ((k : Nat) : Int))) + zw) (by omega) (by omega) (by omega) (by omega)) ?_
    rintro _ bR ⟨aI, rfl⟩
    refine aw (vi t) ?_
    refine aw (vi s) ?_
    refine aw (vi j) ?_
    refine aw (vi (i_Add32 D ((((y + (xorI (xorI (rot j 6) (rot j 11)) (rot j 25))) + (xorI (andI j s) (andI (xorI 4294967295 j) t))) + (rw64 ((k : Nat) : Int))) + zw))) ?_
    refine wl_nil <| wq_then <| wc_region ?_
    refine mw (vi r) ?_
    refine mw (vi q) ?_
    refine mw (vi o) ?_
    refine mw (vi ((((y + (xorI (xorI (rot j 6) (rot j 11)) (rot j 25))) + (xorI (andI j s) (andI (xorI 4294967295 j) t))) + (rw64 ((k : Nat) : Int))) + zw)) ?_
    refine mw (vi ((xorI (xorI (rot o 2) (rot o 13)) (rot o 22)) + (xorI (xorI (andI o q) (andI o r)) (andI q r)))) ?_
    refine cl wN (ciAdd32 bR ((((y + (xorI (xorI (rot j 6) (rot j 11)) (rot j 25))) + (xorI (andI j s) (andI (xorI 4294967295 j) t))) + (rw64 ((k : Nat) : Int))) + zw) ((xorI (xorI (rot o 2) (rot o 13)) (rot o 22)) + (xorI (xorI (andI o q) (andI o r)) (andI q r))) (by omega) (by omega) (by omega) (by omega)) ?_
    rintro _ dH ⟨aJ, rfl⟩
    have bS := (bQ.extk aI).extk aJ
    refine aw (vi r) ?_
    refine aw (vi q) ?_
    refine aw (vi o) ?_
    refine aw (vi (i_Add32 ((((y + (xorI (xorI (rot j 6) (rot j 11)) (rot j 25))) + (xorI (andI j s) (andI (xorI 4294967295 j) t))) + (rw64 ((k : Nat) : Int))) + zw) ((xorI (xorI (rot o 2) (rot o 13)) (rot o 22)) + (xorI (xorI (andI o q) (andI o r)) (andI q r))))) ?_
    refine wl_nil <| wq_blk_normal <| wq_then <| wc_region ?_
    refine mw (vi ((k : Nat) : Int)) ?_
    refine ar (((k : Nat) : Int) + 1) wN ?_
    refine aw (vi (((k : Nat) : Int) + 1)) ?_
    refine wl_nil ?_
    refine wq_loopP (w0 := aj) [(0, (vs B i.length C)), (4, (vs none 0 0)), (5, (vs I i.length J)), (6, (vs O (schedP p).length P)), (7, (vi ((cmpN (schedP p) (s8of i) (k + 1)).a))), (8, (vi ((cmpN (schedP p) (s8of i) (k + 1)).b))), (9, (vi ((cmpN (schedP p) (s8of i) (k + 1)).c))), (10, (vi ((cmpN (schedP p) (s8of i) (k + 1)).d))), (11, (vi ((cmpN (schedP p) (s8of i) (k + 1)).e))), (12, (vi ((cmpN (schedP p) (s8of i) (k + 1)).f))), (13, (vi ((cmpN (schedP p) (s8of i) (k + 1)).g))), (14, (vi ((cmpN (schedP p) (s8of i) (k + 1)).z))), (15, (vi (((k + 1) : Nat) : Int)))] ?_ ?_ ?_
    · exact ⟨rfl, rfl, rfl, rfl, (cA (Value.int .i64) (show ((i_Add32 ((((y + (xorI (xorI (rot j 6) (rot j 11)) (rot j 25))) + (xorI (andI j s) (andI (xorI 4294967295 j) t))) + (rw64 ((k : Nat) : Int))) + zw) ((xorI (xorI (rot o 2) (rot o 13)) (rot o 22)) + (xorI (xorI (andI o q) (andI o r)) (andI q r)))) : Int) = (cmpN (schedP p) (s8of i) (k + 1)).a by subst hzw hzk hi_a hi_b hi_c hi_d hi_e hi_f hi_g hi_z; exact cmp_ia (by omega) rfl)), (cA (Value.int .i64) (show (o : Int) = (cmpN (schedP p) (s8of i) (k + 1)).b by rw [hi_a]; rfl)), (cA (Value.int .i64) (show (q : Int) = (cmpN (schedP p) (s8of i) (k + 1)).c by rw [hi_b]; rfl)), (cA (Value.int .i64) (show (r : Int) = (cmpN (schedP p) (s8of i) (k + 1)).d by rw [hi_c]; rfl)), (cA (Value.int .i64) (show ((i_Add32 D ((((y + (xorI (xorI (rot j 6) (rot j 11)) (rot j 25))) + (xorI (andI j s) (andI (xorI 4294967295 j) t))) + (rw64 ((k : Nat) : Int))) + zw)) : Int) = (cmpN (schedP p) (s8of i) (k + 1)).e by subst hzw hzk hi_a hi_b hi_c hi_d hi_e hi_f hi_g hi_z; exact cmp_ie (by omega) rfl)), (cA (Value.int .i64) (show (j : Int) = (cmpN (schedP p) (s8of i) (k + 1)).f by rw [hi_e]; rfl)), (cA (Value.int .i64) (show (s : Int) = (cmpN (schedP p) (s8of i) (k + 1)).g by rw [hi_f]; rfl)), (cA (Value.int .i64) (show (t : Int) = (cmpN (schedP p) (s8of i) (k + 1)).z by rw [hi_g]; rfl)), (cA (Value.int .i64) (show ((((k : Nat) : Int) + 1) : Int) = (((k + 1) : Nat) : Int) by omega)), trivial⟩
    · exact fun u => ⟨(k + 1), (cmpN (schedP p) (s8of i) (k + 1)).a, (cmpN (schedP p) (s8of i) (k + 1)).b, (cmpN (schedP p) (s8of i) (k + 1)).c, (cmpN (schedP p) (s8of i) (k + 1)).d, (cmpN (schedP p) (s8of i) (k + 1)).e, (cmpN (schedP p) (s8of i) (k + 1)).f, (cmpN (schedP p) (s8of i) (k + 1)).g, (cmpN (schedP p) (s8of i) (k + 1)).z, u, rfl, bS, ((((((((Ch.refl (fun k => A.heap.size ≤ k) A).ext T (fun k hk => hk)).extk aE).extk aF).extk aG).extk aH).extk aI).extk aJ), (by omega), (by first | rfl | assumption), (by first | rfl | assumption), (by first | rfl | assumption), (by first | rfl | assumption), (by first | rfl | assumption), (by first | rfl | assumption), (by first | rfl | assumption), (by first | rfl | assumption)⟩
    · show (64 - (((k + 1) : Nat) : Int)).toNat < (64 - ((k : Nat) : Int)).toNat; omega

def R_23_22 (w : World) (v : Value) (x : (List Int) × (List UInt8)) : Prop := ∃ (a : Option Addr) (b : Nat) (d : Option Addr) (e : Nat), v = .tuple #[.slice a x.1.length b, .slice d x.2.length e] ∧ Rd w 1 (.slice a x.1.length b) x.1.length (x.1.map iV) ∧ x.1.length ≤ 1073741824 ∧ Rd w 1 (.slice d x.2.length e) x.2.length (x.2.map bV) ∧ x.2.length ≤ 1073741824
theorem cicompressAll (e : World) (y : Value) (b : List Int) (L : R_23 e y b) (A : Value) (a : List UInt8) (M : R_22 e A a)  : Fn Tryz.prog 169 #[y, A] e (fun v g => Keep e g ∧ R_23_22 g v (compAll b a)) := by
 obtain ⟨o, p, rfl, N, O⟩ := L
 obtain ⟨q, r, rfl, P, Q⟩ := M
 refine fn_ofS (n := 17) [(vs o b.length p), (vs q a.length r)] Tryz.func169 rfl rfl ?_
 refine sr ?_
 refine aw (vs none 0 0) ?_
 refine aw (vs none 0 0) ?_
 refine wl_nil <| wq_then <| wc_seq <| wc_block ?_
 have B : (b : List Int) = foldK b a 0 := by rfl
 have C : (a : List UInt8) = a.drop (64 * 0) := by rfl
 refine wc_loopP [(0, (.slice o (foldK b a 0).length p)), (1, (.slice q (a.drop (64 * 0)).length r)), (4, (vs none 0 0)), (5, (vs none 0 0))] ⟨(cA (fun l : List Int => Value.slice o l.length p) B), (cA (fun l : List UInt8 => Value.slice q l.length r) C), rfl, rfl, trivial⟩ (fun e' g => ∃ (k : Nat) (D : Env) (h : Option Addr) (i : Nat) (f : Option Addr) (d : Nat), e' = pt D [(0, (.slice h (foldK b a k).length i)), (1, (.slice f (a.drop (64 * k)).length d)), (4, (vs none 0 0)), (5, (vs none 0 0))] ∧ Ch (fun k => e.heap.size ≤ k) e g ∧ Ch (fun k => e.heap.size ≤ k) e g ∧ 64 * k ≤ a.length ∧ (Rd g 1 (.slice h (foldK b a k).length i) (foldK b a k).length ((foldK b a k).map iV) ∧ (foldK b a k).length ≤ 1073741824) ∧ (Rd g 1 (.slice f (a.drop (64 * k)).length d) (a.drop (64 * k)).length ((a.drop (64 * k)).map bV) ∧ (a.drop (64 * k)).length ≤ 1073741824)) (fun e' _ => (lenOf (e' 1))) ?_ ?_
 ·exact fun u => ⟨0, u, o, p, q, r, rfl, (Ch.base e), (Ch.refl (fun k => e.heap.size ≤ k) e), (by omega), (B ▸ ⟨N, O⟩), (C ▸ ⟨P, Q⟩)⟩
 ·rintro _ E ⟨k, D, h, i, f, d, rfl, F, R, ab, ⟨G, H⟩, ⟨j, w⟩⟩
  have hdl : (a.drop (64 * k)).length = a.length - 64 * k := List.length_drop
  refine wc_seq <| sr ?_
  refine mw (vs f (a.drop (64 * k)).length d) ?_
  refine ln wN slTy_22 j ?_
  refine pu (vb (decide (64 ≤ ((a.drop (64 * k)).length : Int)))) wN ?_
  refine n2 ?_
  rcases bf (decide (64 ≤ ((a.drop (64 * k)).length : Int))) with m | m
  ·have ac := dF m
   refine cf m ?_
   refine wc_exit <| wq_then_exit <| wq_then_exit <| wq_blk_exit <| wq_then <| sr ?_
   refine mw (vs h (foldK b a k).length i) ?_
   refine mw (vs f (a.drop (64 * k)).length d) ?_
   refine aw (vs h (foldK b a k).length i) ?_
   refine aw (vs f (a.drop (64 * k)).length d) ?_
   refine n3 ?_
   refine ret_2 (.inl rfl) (vs h (foldK b a k).length i) (vs f (a.drop (64 * k)).length d) rfl rfl rfl ?_
   refine ⟨F.keep0, ?_⟩
   have S : compAll b a = ((foldK b a k), (a.drop (64 * k))) := by exact compAll_t (by omega) (by omega)
   rw [S]
   exact ⟨_, _, _, _, rfl, G, H, j, w⟩
  have ad := dT m
  refine ct m ?_
  refine wc_skip <| wq_then <| wc_block <| sr ?_
  refine mw (vs h (foldK b a k).length i) ?_
  refine mw (vs f (a.drop (64 * k)).length d) ?_
  refine slv ((a.drop (64 * k)).take 64) 0 64 wN slTy_22 j (by first | omega | (simp <;> omega)) (by first | omega | (simp <;> omega)) (by first | rfl | (simp; done) | (rw [List.take_of_length_le (by first | (simp; done) | (simp; omega))])) rfl rfl rfl rfl (.inl ⟨rfl, rfl⟩) (.inr ⟨_, _, _, rfl, rfl, by omega⟩) ?_
  have T : 0 ≤ 64 := (by first | omega | (simp <;> omega))
  have V : 64 ≤ (a.drop (64 * k)).length := (by first | omega | (simp <;> omega))
  refine cl wN (ciCompress E _ (foldK b a k) (mR_23 G H) _ ((a.drop (64 * k)).take 64) (mR_22 (Rd.subV (x' := ((a.drop (64 * k)).take 64)) j T V (by first | rfl | (simp; done) | (rw [List.take_of_length_le (by first | (simp; done) | (simp; omega))]))) (nT (by simp only [List.length_take, List.length_drop]; omega) w))) ?_
  rintro _ ae ⟨x, ⟨s, t, rfl, W, X, af⟩⟩
  have Y := F.extk x
  refine aw (vs s (compress (foldK b a k) ((a.drop (64 * k)).take 64)).length t) ?_
  refine wl_nil <| wq_then <| wc_region ?_
  refine mw (vs f (a.drop (64 * k)).length d) ?_
  have I := (j.kp x)
  refine slv ((a.drop (64 * k)).drop 64) 64 ((a.drop (64 * k)).length) wN slTy_22 I (by first | omega | (simp <;> omega)) (by first | omega | (simp <;> omega)) (by first | rfl | (simp; done) | (rw [List.take_of_length_le (by first | (simp; done) | (simp; omega))])) rfl rfl rfl rfl (.inr ⟨_, _, _, rfl, rfl, by omega⟩) (.inl ⟨rfl, rfl⟩) ?_
  have Z : 64 ≤ ((a.drop (64 * k)).length) := (by first | omega | (simp <;> omega))
  have aa : ((a.drop (64 * k)).length) ≤ (a.drop (64 * k)).length := (by first | omega | (simp <;> omega))
  refine aw (vs (subA f d 64 1) ((a.drop (64 * k)).drop 64).length (d - 64)) ?_
  refine wl_nil <| wq_blk_normal ?_
  have J : ((compress (foldK b a k) ((a.drop (64 * k)).take 64)) : List Int) = foldK b a (k + 1) := by rfl
  have K : (((a.drop (64 * k)).drop 64) : List UInt8) = a.drop (64 * (k + 1)) := by rw [List.drop_drop]; congr 1
  refine wq_loopP (w0 := E) [(0, (.slice s (foldK b a (k + 1)).length t)), (1, (.slice (subA f d 64 1) (a.drop (64 * (k + 1))).length (d - 64))), (4, (vs none 0 0)), (5, (vs none 0 0))] ?_ ?_ ?_
  · exact ⟨(cA (fun l : List Int => Value.slice s l.length t) J), (cA (fun l : List UInt8 => Value.slice (subA f d 64 1) l.length (d - 64)) K), rfl, rfl, trivial⟩
  · exact fun u => ⟨(k + 1), u, s, t, (subA f d 64 1), (d - 64), rfl, Y, (((Ch.refl (fun k => e.heap.size ≤ k) e).ext R (fun k hk => hk)).extk x), (by omega), (J ▸ ⟨(Rd.of_own W), X⟩), (K ▸ ⟨(Rd.subV (x' := ((a.drop (64 * k)).drop 64)) I Z aa (by first | rfl | (simp; done) | (rw [List.take_of_length_le (by first | (simp; done) | (simp; omega))]))), (nT (by simp only [List.length_take, List.length_drop]; omega) w)⟩)⟩
  · show (a.drop (64 * (k + 1))).length < (a.drop (64 * k)).length; simp only [List.length_drop]; omega

theorem mR_136 {w : World} {x : PHash} {a : Option Addr} {b : Nat} {d : Option Addr} {e : Nat} (f : Rd w 1 (.slice a x.H.length b) x.H.length (x.H.map iV)) (g : x.H.length ≤ 1073741824) (h : Rd w 1 (.slice d x.Held.length e) x.Held.length (x.Held.map bV)) (i : x.Held.length ≤ 1073741824) : R_136 w (va (L_136 x a b d e)) x := ⟨_, _, _, _, rfl, f, g, h, i⟩
def i_HashAdd (a : PHash) (b : List UInt8) : (PHash) := bif (i_HashOk a) then (bif (decide ((1048576 - a.N) < (b.length : Int))) then (a) else ({ H := (compAll a.H (joinB [a.Held, b])).1, Held := (((compAll a.H (joinB [a.Held, b])).2)), N := (a.N + (b.length : Int)) : PHash })) else (a)
theorem ciHashAdd (K : World) (au : Value) (a : PHash) (aL : R_136 K au a) (av : Value) (b : List UInt8) (aM : R_22 K av b)  : Fn Tryz.prog 162 #[au, av] K (fun v M => Keep K M ∧ O_136 M K.heap.size v (i_HashAdd a b)) := by
 obtain ⟨d, s, t, u, rfl, ae, af, ah, ai⟩ := aL
 obtain ⟨x, y, rfl, aj, aN⟩ := aM
 refine fn_ofS (n := 50) [(va (L_136 a d s t u)), (vs x b.length y)] Tryz.func162 rfl rfl ?_
 refine sr ?_
 refine bx (L_136 a d s t u) wN ?_
 intro o A c5 c6 E Q
 refine al [(vs none 0 0), (vs none 0 0), (vi 0)] wN zero_136 ?_
 intro aO aP ax R B ay
 have S := ((Ch.base K).extk E).extk B
 refine n4 ?_
 refine jT1 [(1, (vs x b.length y)), (2, (vp o 0)), (4, (vp aO 0))] (i_HashAdd a b = a) ?_ fun az => ?_
 ·intro aQ F C c7
  have ak := S.extk C
  refine wc_seq ?_
  refine wc_drawT ([(18, [], [], (fun _ v w => ∃ a0 : Addr, v = .slice (some a0) 0 0 ∧ w.ownsRow F.heap.size 3 1 (.slice (some a0) 0 0) 0 [])), (19, [], [], (fun _ v _ => v = (vp o 0))), (20, [], [1], (fun _ v _ => v = (vs d a.H.length s))), (21, [], [0, 1, 2], (fun _ v w => ∃ (d : Option Addr) (g : Nat), v = .slice d a.H.length g ∧ w.ownsRow F.heap.size 3 1 (.slice d a.H.length g) a.H.length (a.H.map iV) ∧ a.H.length ≤ 1073741824 ∧ Aps [(d, g)])), (22, [], [], (fun _ v _ => v = (vp o 1))), (23, [], [4], (fun _ v _ => v = (vs t a.Held.length u))), (24, [21], [0, 1, 2, 3, 4, 5], (fun e v w => ∃ (d : Option Addr) (g : Nat), v = .slice d (a.Held).length g ∧ w.ownsRow (F.heap.size) 5 1 (.slice d (a.Held).length g) (a.Held).length ((a.Held).map bV) ∧ (a.Held).length ≤ 1073741824 ∧ Aps [(d, g)] ∧ Ap (sp (e 21)) (d, g))), (25, [], [], (fun _ v _ => v = (vp o 2))), (26, [], [7], (fun _ v _ => v = (vi a.N)))] : GV) (fun _ M => Keep F M) [] mixed rfl (by kernel_rfl) (by kernel_rfl) ?_ (fun _ _ h => h) (fun _ _ _ _ h _ k => h.trans k) trivial ?_ ?_ ?_
  ·exact ⟨(fun e v w A h hk => by obtain ⟨j, he, l⟩ := h; exact ⟨j, he, own_kp l hk⟩), hE, ⟨hV, hE, ⟨hV, hE, ⟨(fun e v w A h hk => by obtain ⟨j, q, he, l, r, hap⟩ := h; exact ⟨j, q, he, own_kp l hk, r, hap⟩), hE, ⟨hV, hE, ⟨hV, hE, ⟨(fun e v w A h hk => by obtain ⟨j, q, he, l, r, hap, hx⟩ := h; exact ⟨j, q, he, own_kp l hk, r, hap, hx⟩), (fun O P v w hx h => by have aR := hx 21 (by simp); simp only [aR] at h; exact h), ⟨hV, hE, ⟨hV, hE, trivial⟩⟩⟩⟩⟩⟩⟩⟩⟩
  ·exact trivial
  ·refine ⟨?_, ⟨?_, ⟨?_, ⟨?_, ⟨?_, ⟨?_, ⟨?_, ⟨?_, ⟨?_, trivial⟩⟩⟩⟩⟩⟩⟩⟩⟩
   ·intro _ f aS _
    rintro _ _ _ _ _ _ _ _ _
    show WL _ _ _ _ _ _ _
    refine wl_lit0 wN rfl rfl slTy_23 (fun w => by kernel_rfl) ?_
    intro c8 i aT aU
    exact wl_finT aT ⟨_, rfl, own_lo aU aS.size⟩
   ·intro _ f c9 _
    rintro _ _ _ _ _ _ _ _ _
    show WL _ _ _ _ _ _ _
    refine pu (vp o 0) wN ?_
    exact f1
   ·intro _ f aV _
    rintro _ _ rfl _ _ _ _ _ _ _
    show WL _ _ _ _ _ _ _
    have aW := (((Q.kp B).kp C).kp aV)
    refine ld (vs d a.H.length s) wN isAgg_23 aW ?_
    exact f1
   ·intro _ f a1 _
    have aX := ak.extk a1
    rintro _ ⟨cC, rfl, aY⟩ _ rfl _ rfl _ _ _ _ _ _
    show WL _ _ _ _ _ _ _
    refine ap0I a.H wN slTy_23 aY (ae.from0 aX) a1.size ?_
    intro cD cE i aZ ba cF
    exact wl_finT aZ ⟨_, _, rfl, ba, af, ⟨trivial, trivial⟩⟩
   ·intro _ f cG _
    rintro _ _ _ _ _ _ _ _ _
    show WL _ _ _ _ _ _ _
    refine pu (vp o 1) wN ?_
    exact f1
   ·intro _ f bb _
    rintro _ _ _ _ _ rfl _ _ _ _
    show WL _ _ _ _ _ _ _
    have bc := (((Q.kp B).kp C).kp bb)
    refine ld (vs t a.Held.length u) wN isAgg_22 bc ?_
    exact f1
   ·intro _ f a2 _
    have bd := ak.extk a2
    rintro _ ⟨cH, rfl, cI⟩ _ rfl _ rfl _ ⟨cJ, cK, rfl, be, cL, -⟩ _ rfl _ rfl _ _ _
    show WL _ _ _ _ _ _ _
    refine cl wN (ciclone f _ a.Held (mR_22 (ah.from0 bd) ai)) ?_
    rintro _ i ⟨bg, ⟨cM, cN, rfl, a3, bh, bi⟩⟩
    exact wl_finT bg ⟨_, _, rfl, (own_lo a3 a2.size), bh, bi, (Ap.lt be a3 (Nat.le_refl _))⟩
   ·intro _ f cO _
    rintro _ _ _ _ _ _ _ _ _
    show WL _ _ _ _ _ _ _
    refine pu (vp o 2) wN ?_
    exact f1
   ·intro _ f bj _
    rintro _ _ _ _ _ _ _ _ rfl _
    show WL _ _ _ _ _ _ _
    have bk := (((Q.kp B).kp C).kp bj)
    refine ld (vi a.N) wN isAgg_3 bk ?_
    exact f1
  ·intro _ f a4
   rintro _ ⟨cP, rfl, cQ⟩ _ rfl _ rfl _ ⟨T, V, rfl, a5, bl, -⟩ _ rfl _ rfl _ ⟨W, X, rfl, a6, bm, cR, bn⟩ _ rfl _ rfl
   show WL _ _ _ _ _ _ _
   refine pu (va (L_136 a T V W X)) wN ?_
   have bo := ((ay.kp C).kp a4)
   refine sv (L_136 a T V W X) wN sizeOf_136 bo ?_
   intro i am bp cS
   have bq := (ak.extk a4).ext am (fun k hk => by subst hk; exact nT E.size ax)
   refine n1 ?_
   have br := (own_ch a5 am (ne1 a5 (nL R C.size)))
   have bu := (own_ch a6 am (ne1 a6 (nL R C.size)))
   refine ret_1 (.inl rfl) (va (L_136 a T V W X)) rfl (rv_c (L_136 a T V W X) rfl bp isAgg_136 sizeOf_136) ?_
   refine ⟨bq.keep0, ?_⟩
   rw [aQ]
   exact ⟨_, _, _, _, rfl, (own_lo br (z3 E B C)), bl, (own_lo bu (z3 E B C)), bm, ⟨⟨bn, trivial⟩, ⟨trivial, trivial⟩⟩⟩
 have a7 := (Q.kp B)
 refine lN (L_136 a d s t u) wN isAgg_136 sizeOf_136 a7 ?_
 refine cl wN (ciHashOk aP _ a (mR_136 (ae.from0 S) af (ah.from0 S) ai)) ?_
 rintro _ F ⟨D, rfl⟩
 have Y := S.extk D
 refine pu (vb (!(i_HashOk a))) wN ?_
 refine mw (vb (!(i_HashOk a))) ?_
 rcases bf (i_HashOk a) with p | p
 ·iterate 6 refine sk (cA not p) ?_
  refine pk (vb true) wN (cA not p) ?_
  refine n2 ?_
  refine ct (Eq.refl true) ?_
  have bv : i_HashAdd a b = a := by simp only [i_HashAdd, p, cond_true, cond_false]
  exact wj (az bv _ D)
 have cT := hashOk_t p
 refine mv (vs x b.length y) (wS (cA not p)) ?_
 refine ln (wS (cA not p)) slTy_22 (aj.from0 Y) ?_
 refine pu (vp o 2) (wS (cA not p)) ?_
 have Z := (a7.kp D)
 refine ld (vi a.N) (wS (cA not p)) isAgg_3 Z ?_
 refine ar (1048576 - a.N) (wS (cA not p)) ?_
 refine pu (vb (decide ((1048576 - a.N) < (b.length : Int)))) (wS (cA not p)) ?_
 refine pf (vb (decide ((1048576 - a.N) < (b.length : Int)))) wN (cA not p) ?_
 refine n2 ?_
 rcases bt (decide ((1048576 - a.N) < (b.length : Int))) with G | G
 ·have cU := dT G
  refine ct G ?_
  have bw : i_HashAdd a b = a := by simp only [i_HashAdd, p, G, cond_true, cond_false]
  exact wj (az bw _ D)
 have cV := dF G
 refine cf G ?_
 refine wc_skip <| wq_then <| wc_seq ?_
 refine wc_draw ([(29, [], [], (fun _ v _ => v = (vp o 0))), (30, [], [0], (fun _ v _ => v = (vs d a.H.length s))), (31, [], [], (fun _ v _ => v = (vp o 1))), (32, [], [2], (fun _ v _ => v = (vs t a.Held.length u))), (33, [], [], (fun _ v _ => v = (vs x b.length y))), (34, [], [2, 3, 4], (fun _ v w => ∃ (d : Option Addr) (g : Nat), v = .slice d 2 g ∧ w.ownsRow F.heap.size 22 1 (.slice d 2 g) 2 [(vs t a.Held.length u), (vs x b.length y)])), (35, [], [2, 3, 4, 5], (fun _ v w => ∃ (d : Option Addr) (g : Nat), v = .slice d (joinB [a.Held, b]).length g ∧ w.ownsRow (F.heap.size) 5 1 (.slice d (joinB [a.Held, b]).length g) (joinB [a.Held, b]).length ((joinB [a.Held, b]).map bV) ∧ (joinB [a.Held, b]).length ≤ 1073741824 ∧ Aps [(d, g)])), (36, [], [0, 1, 2, 3, 4, 5, 6], (fun _ v w => ∃ (d : Option Addr) (g : Nat) (a8 : Option Addr) (s : Nat), v = .tuple #[.slice d ((compAll a.H (joinB [a.Held, b])).1).length g, .slice a8 ((compAll a.H (joinB [a.Held, b])).2).length s] ∧ Rd w 1 (.slice d ((compAll a.H (joinB [a.Held, b])).1).length g) ((compAll a.H (joinB [a.Held, b])).1).length (((compAll a.H (joinB [a.Held, b])).1).map iV) ∧ ((compAll a.H (joinB [a.Held, b])).1).length ≤ 1073741824 ∧ Rd w 1 (.slice a8 ((compAll a.H (joinB [a.Held, b])).2).length s) ((compAll a.H (joinB [a.Held, b])).2).length (((compAll a.H (joinB [a.Held, b])).2).map bV) ∧ ((compAll a.H (joinB [a.Held, b])).2).length ≤ 1073741824)), (28, [36], [0, 1, 2, 3, 4, 5, 6, 7], (fun e v _ => v = (.tuple #[(tupAt (e 36) 0), (tupAt (e 36) 1)]))), (37, [36], [0, 1, 2, 3, 4, 5, 6, 7, 8], (fun e v _ => v = (tupAt (e 36) 0))), (38, [36], [0, 1, 2, 3, 4, 5, 6, 7, 8], (fun e v _ => v = (tupAt (e 36) 1))), (5, [36], [0, 1, 2, 3, 4, 5, 6, 7, 8, 9], (fun e v _ => v = (tupAt (e 36) 0)))] : GV) mixed rfl (by kernel_rfl) (by kernel_rfl) ?_ ?_ ?_
 ·exact ⟨hV, hE, ⟨hV, hE, ⟨hV, hE, ⟨hV, hE, ⟨hV, hE, ⟨(fun e v w A h hk => by obtain ⟨j, q, he, l⟩ := h; exact ⟨j, q, he, own_kp l hk⟩), hE, ⟨(fun e v w A h hk => by obtain ⟨j, q, he, l, r, hap⟩ := h; exact ⟨j, q, he, own_kp l hk, r, hap⟩), hE, ⟨(fun e v w A h hk => by obtain ⟨j, q, bz, b0, he, l, r, b1, b2⟩ := h; exact ⟨j, q, bz, b0, he, Rd.kp l hk, r, Rd.kp b1 hk, b2⟩), hE, ⟨hV, (fun O P v w hx h => by have I := hx 36 (by simp); simp only [I] at h; exact h), ⟨hV, (fun O P v w hx h => by have I := hx 36 (by simp); simp only [I] at h; exact h), ⟨hV, (fun O P v w hx h => by have I := hx 36 (by simp); simp only [I] at h; exact h), ⟨hV, (fun O P v w hx h => by have I := hx 36 (by simp); simp only [I] at h; exact h), trivial⟩⟩⟩⟩⟩⟩⟩⟩⟩⟩⟩⟩
 ·refine ⟨?_, ⟨?_, ⟨?_, ⟨?_, ⟨?_, ⟨?_, ⟨?_, ⟨?_, ⟨?_, ⟨?_, ⟨?_, ⟨?_, trivial⟩⟩⟩⟩⟩⟩⟩⟩⟩⟩⟩⟩
  ·intro f cW
   rintro _ _ _ _ _ _ _ _ _ _ _ _
   show WL _ _ _ _ _ _ _
   refine pu (vp o 0) wN ?_
   exact f2
  ·intro f b3
   rintro _ rfl _ _ _ _ _ _ _ _ _ _ _
   show WL _ _ _ _ _ _ _
   have b4 := (Z.kp b3)
   refine ld (vs d a.H.length s) wN isAgg_23 b4 ?_
   exact f2
  ·intro f cX
   rintro _ _ _ _ _ _ _ _ _ _ _ _
   show WL _ _ _ _ _ _ _
   refine pu (vp o 1) wN ?_
   exact f2
  ·intro f b5
   rintro _ _ _ rfl _ _ _ _ _ _ _ _ _
   show WL _ _ _ _ _ _ _
   have b6 := (Z.kp b5)
   refine ld (vs t a.Held.length u) wN isAgg_22 b6 ?_
   exact f2
  ·intro f cY
   rintro _ _ _ _ _ _ _ _ _ _ _ _
   show WL _ _ _ _ _ _ _
   refine mw (vs x b.length y) ?_
   exact f2
  ·intro f b7
   rintro _ _ _ rfl _ rfl _ rfl _ _ _ _ _ _ _
   show WL _ _ _ _ _ _ _
   refine wl_lit [(vs t a.Held.length u), (vs x b.length y)] wN rfl rfl slTy_132 (m := 2) rfl (by simp only [maxLen]; omega) (fun w => by kernel_rfl) ?_
   intro cZ i b8 a9
   obtain ⟨da, db, rfl⟩ := own_form a9
   exact wl_fin b8 ⟨_, _, rfl, own_lo a9 b7.size⟩
  ·intro f aA
   have aB := Y.extk aA
   rintro _ _ _ rfl _ rfl _ rfl _ ⟨dc, dd, rfl, b9⟩ _ _ _ _ _ _
   show WL _ _ _ _ _ _ _
   refine cl wN (cijoined f _ [a.Held, b] (mR_132 (RLv.mk (L := LT_22) [(a.Held, [(t, u)]), (b, [(x, y)])] (Rd.of_own b9) rfl ⟨⟨⟨(ah.from0 aB), ai⟩, trivial⟩, ⟨⟨⟨(aj.from0 aB), aN⟩, trivial⟩, trivial⟩⟩ (by first | decide | exact Nat.le_of_ble_eq_true rfl)) (by first | decide | exact Nat.le_of_ble_eq_true rfl)) (by first | omega | (rw [joinB_l2]; omega) | (rw [joinB_l2]; simp only [List.length_cons, List.length_nil, maskB_len]; omega) | (rw [joinB_l3]; simp only [List.length_cons, List.length_nil, maskB_len]; omega) | (simp only [joinB, List.flatten_cons, List.flatten_nil, List.length_append, List.length_cons, List.length_nil, maskB_len]; omega))) ?_
   rintro _ i ⟨bA, ⟨de, df, rfl, bB, bC, bD⟩⟩
   have dg := (show (joinB [a.Held, b]).length = a.Held.length + b.length by simp only [joinB, List.flatten_cons, List.flatten_nil, List.length_append, List.length_cons, List.length_nil]; omega)
   exact wl_fin bA ⟨_, _, rfl, (own_lo bB aA.size), bC, bD⟩
  ·intro f bE
   have bF := Y.extk bE
   rintro _ rfl _ rfl _ rfl _ rfl _ rfl _ ⟨dh, di, rfl, dj⟩ _ ⟨dk, dl, rfl, bG, bH, dm⟩
   have dn := (show (joinB [a.Held, b]).length = a.Held.length + b.length by simp only [joinB, List.flatten_cons, List.flatten_nil, List.length_append, List.length_cons, List.length_nil]; omega)
   rintro _ _ _ _ _
   show WL _ _ _ _ _ _ _
   refine cl wN (cicompressAll f _ a.H (mR_23 (ae.from0 bF) af) _ (joinB [a.Held, b]) (mR_22 (Rd.of_own bG) bH)) ?_
   rintro _ i ⟨bI, ⟨dp, dq, dr, ds, rfl, bJ, bK, bL, bM⟩⟩
   exact wl_fin bI ⟨_, _, _, _, rfl, bJ, bK, bL, bM⟩
  ·intro f dt
   rintro _ rfl _ rfl _ rfl _ rfl _ rfl _ ⟨du, dv, rfl, dw⟩ _ ⟨dx, dy, rfl, _⟩
   have dz := (show (joinB [a.Held, b]).length = a.Held.length + b.length by simp only [joinB, List.flatten_cons, List.flatten_nil, List.length_append, List.length_cons, List.length_nil]; omega)
   rintro _ ⟨bN, bO, bP, bQ, rfl, _⟩ _ _ _ _
   show WL _ _ _ _ _ _ _
   refine mw (.tuple #[(vs bN ((compAll a.H (joinB [a.Held, b])).1).length bO), (vs bP ((compAll a.H (joinB [a.Held, b])).2).length bQ)]) ?_
   exact f2
  ·intro f d0
   rintro _ rfl _ rfl _ rfl _ rfl _ rfl _ ⟨d1, d2, rfl, d3⟩ _ ⟨d4, d5, rfl, _⟩
   have d6 := (show (joinB [a.Held, b]).length = a.Held.length + b.length by simp only [joinB, List.flatten_cons, List.flatten_nil, List.length_append, List.length_cons, List.length_nil]; omega)
   rintro _ ⟨bR, bS, d7, d8, rfl, _⟩ _ rfl _ _ _
   show WL _ _ _ _ _ _ _
   refine pu (vs bR ((compAll a.H (joinB [a.Held, b])).1).length bS) wN ?_
   exact f2
  ·intro f d9
   rintro _ rfl _ rfl _ rfl _ rfl _ rfl _ ⟨dA, dB, rfl, dC⟩ _ ⟨dD, dE, rfl, _⟩
   have dG := (show (joinB [a.Held, b]).length = a.Held.length + b.length by simp only [joinB, List.flatten_cons, List.flatten_nil, List.length_append, List.length_cons, List.length_nil]; omega)
   rintro _ ⟨dH, dI, bT, bU, rfl, _⟩ _ rfl _ _ _
   show WL _ _ _ _ _ _ _
   refine pu (vs bT ((compAll a.H (joinB [a.Held, b])).2).length bU) wN ?_
   exact f2
  ·intro f dJ
   rintro _ rfl _ rfl _ rfl _ rfl _ rfl _ ⟨dK, dL, rfl, dM⟩ _ ⟨dN, dO, rfl, _⟩
   have dP := (show (joinB [a.Held, b]).length = a.Held.length + b.length by simp only [joinB, List.flatten_cons, List.flatten_nil, List.length_append, List.length_cons, List.length_nil]; omega)
   rintro _ ⟨bW, bX, dQ, dR, rfl, _⟩ _ rfl _ rfl _ _
   show WL _ _ _ _ _ _ _
   refine aw (vs bW ((compAll a.H (joinB [a.Held, b])).1).length bX) ?_
   exact f2
 ·intro f J
  have aC := Y.extk J
  rintro _ rfl _ rfl _ rfl _ rfl _ rfl _ ⟨dS, dU, rfl, dV⟩ _ ⟨dW, dX, rfl, _⟩
  have dY := (show (joinB [a.Held, b]).length = a.Held.length + b.length by simp only [joinB, List.flatten_cons, List.flatten_nil, List.length_append, List.length_cons, List.length_nil]; omega)
  rintro _ ⟨aD, aE, an, ao, rfl, bY, bZ, ca, cb⟩ _ rfl _ rfl _ rfl _ rfl
  show WL _ _ _ _ _ _ _
  refine aw (vs an ((compAll a.H (joinB [a.Held, b])).2).length ao) ?_
  refine wl_nil <| wq_then <| wc_seq ?_
  refine wc_drawT ([(39, [], [], (fun _ v w => ∃ a0 : Addr, v = .slice (some a0) 0 0 ∧ w.ownsRow f.heap.size 3 1 (.slice (some a0) 0 0) 0 [])), (40, [], [], (fun _ v _ => v = (vs aD ((compAll a.H (joinB [a.Held, b])).1).length aE))), (41, [], [0, 1], (fun _ v w => ∃ (d : Option Addr) (g : Nat), v = .slice d ((compAll a.H (joinB [a.Held, b])).1).length g ∧ w.ownsRow f.heap.size 3 1 (.slice d ((compAll a.H (joinB [a.Held, b])).1).length g) ((compAll a.H (joinB [a.Held, b])).1).length (((compAll a.H (joinB [a.Held, b])).1).map iV) ∧ ((compAll a.H (joinB [a.Held, b])).1).length ≤ 1073741824 ∧ Aps [(d, g)])), (42, [], [], (fun _ v _ => v = (vs an ((compAll a.H (joinB [a.Held, b])).2).length ao))), (43, [41], [0, 1, 2, 3], (fun e v w => ∃ (d : Option Addr) (g : Nat), v = .slice d (((compAll a.H (joinB [a.Held, b])).2)).length g ∧ w.ownsRow (f.heap.size) 5 1 (.slice d (((compAll a.H (joinB [a.Held, b])).2)).length g) (((compAll a.H (joinB [a.Held, b])).2)).length ((((compAll a.H (joinB [a.Held, b])).2)).map bV) ∧ (((compAll a.H (joinB [a.Held, b])).2)).length ≤ 1073741824 ∧ Aps [(d, g)] ∧ Ap (sp (e 41)) (d, g))), (44, [], [], (fun _ v _ => v = (vp o 2))), (45, [], [5], (fun _ v _ => v = (vi a.N))), (46, [], [], (fun _ v _ => v = (vs x b.length y))), (47, [], [7], (fun _ v _ => v = (vi (b.length : Int)))), (48, [], [5, 6, 7, 8], (fun _ v _ => v = (vi (a.N + (b.length : Int)))))] : GV) (fun _ M => Keep f M) [] mixed rfl (by kernel_rfl) (by kernel_rfl) ?_ (fun _ _ h => h) (fun _ _ _ _ h _ k => h.trans k) trivial ?_ ?_ ?_
  ·exact ⟨(fun e v w A h hk => by obtain ⟨j, he, l⟩ := h; exact ⟨j, he, own_kp l hk⟩), hE, ⟨hV, hE, ⟨(fun e v w A h hk => by obtain ⟨j, q, he, l, r, hap⟩ := h; exact ⟨j, q, he, own_kp l hk, r, hap⟩), hE, ⟨hV, hE, ⟨(fun e v w A h hk => by obtain ⟨j, q, he, l, r, hap, hx⟩ := h; exact ⟨j, q, he, own_kp l hk, r, hap, hx⟩), (fun O P v w hx h => by have cc := hx 41 (by simp); simp only [cc] at h; exact h), ⟨hV, hE, ⟨hV, hE, ⟨hV, hE, ⟨hV, hE, ⟨hV, hE, trivial⟩⟩⟩⟩⟩⟩⟩⟩⟩⟩
  ·exact trivial
  ·refine ⟨?_, ⟨?_, ⟨?_, ⟨?_, ⟨?_, ⟨?_, ⟨?_, ⟨?_, ⟨?_, ⟨?_, trivial⟩⟩⟩⟩⟩⟩⟩⟩⟩⟩
   ·intro _ i cd _
    rintro _ _ _ _ _ _ _ _ _ _
    show WL _ _ _ _ _ _ _
    refine wl_lit0 wN rfl rfl slTy_23 (fun w => by kernel_rfl) ?_
    intro dZ ap ce cg
    exact wl_finT ce ⟨_, rfl, own_lo cg cd.size⟩
   ·intro _ i ea _
    rintro _ _ _ _ _ _ _ _ _ _
    show WL _ _ _ _ _ _ _
    refine mw (vs aD ((compAll a.H (joinB [a.Held, b])).1).length aE) ?_
    exact f1
   ·intro _ i aF _
    rintro _ ⟨ec, rfl, ci⟩ _ rfl _ _ _ _ _ _ _ _
    show WL _ _ _ _ _ _ _
    have cj := (bY.kp aF)
    refine ap0I ((compAll a.H (joinB [a.Held, b])).1) wN slTy_23 ci cj aF.size ?_
    intro ed ee ap ck cm ef
    exact wl_finT ck ⟨_, _, rfl, cm, bZ, ⟨trivial, trivial⟩⟩
   ·intro _ i eg _
    rintro _ _ _ _ _ _ _ _ _ _
    show WL _ _ _ _ _ _ _
    refine mw (vs an ((compAll a.H (joinB [a.Held, b])).2).length ao) ?_
    exact f1
   ·intro _ i aG _
    rintro _ ⟨eh, rfl, ej⟩ _ rfl _ ⟨ek, em, rfl, cn, en, -⟩ _ rfl _ _ _ _ _ _
    show WL _ _ _ _ _ _ _
    have co := (ca.kp aG)
    refine cl wN (ciclone i _ ((compAll a.H (joinB [a.Held, b])).2) (mR_22 co cb)) ?_
    rintro _ ap ⟨cp, ⟨eo, ep, rfl, aH, cq, cr⟩⟩
    exact wl_finT cp ⟨_, _, rfl, (own_lo aH aG.size), cq, cr, (Ap.lt cn aH (Nat.le_refl _))⟩
   ·intro _ i er _
    rintro _ _ _ _ _ _ _ _ _ _
    show WL _ _ _ _ _ _ _
    refine pu (vp o 2) wN ?_
    exact f1
   ·intro _ i cs _
    rintro _ _ _ _ _ _ rfl _ _ _ _
    show WL _ _ _ _ _ _ _
    have cu := ((Z.kp J).kp cs)
    refine ld (vi a.N) wN isAgg_3 cu ?_
    exact f1
   ·intro _ i es _
    rintro _ _ _ _ _ _ _ _ _ _
    show WL _ _ _ _ _ _ _
    refine mw (vs x b.length y) ?_
    exact f1
   ·intro _ i cv _
    have cw := aC.extk cv
    rintro _ _ _ _ _ _ _ _ rfl _ _
    show WL _ _ _ _ _ _ _
    refine ln wN slTy_22 (aj.from0 cw) ?_
    exact f1
   ·intro _ i et _
    rintro _ _ _ _ _ _ rfl _ rfl _ rfl _ rfl _
    show WL _ _ _ _ _ _ _
    refine ar (a.N + (b.length : Int)) wN ?_
    exact f1
  ·intro _ i aI
   rintro _ ⟨eu, rfl, ew⟩ _ rfl _ ⟨aa, ab, rfl, aJ, cx, -⟩ _ rfl _ ⟨ac, ad, rfl, aK, cy, ex, cz⟩ _ rfl _ rfl _ rfl _ rfl _ rfl
   show WL _ _ _ _ _ _ _
   refine pu (va [(vs aa ((compAll a.H (joinB [a.Held, b])).1).length ab), (vs ac (((compAll a.H (joinB [a.Held, b])).2)).length ad), (vi (a.N + (b.length : Int)))]) wN ?_
   have c0 := (((ay.kp D).kp J).kp aI)
   refine sv [(vs aa ((compAll a.H (joinB [a.Held, b])).1).length ab), (vs ac (((compAll a.H (joinB [a.Held, b])).2)).length ad), (vi (a.N + (b.length : Int)))] wN sizeOf_136 c0 ?_
   intro ap aq c1 ey
   have c2 := (aC.extk aI).ext aq (fun k hk => by subst hk; exact nT E.size ax)
   refine n3 ?_
   have c3 := (own_ch aJ aq (ne1 aJ (nL R (z2 D J))))
   have c4 := (own_ch aK aq (ne1 aK (nL R (z2 D J))))
   refine ret_1 (.inl rfl) (va [(vs aa ((compAll a.H (joinB [a.Held, b])).1).length ab), (vs ac (((compAll a.H (joinB [a.Held, b])).2)).length ad), (vi (a.N + (b.length : Int)))]) rfl (rv_c [(vs aa ((compAll a.H (joinB [a.Held, b])).1).length ab), (vs ac (((compAll a.H (joinB [a.Held, b])).2)).length ad), (vi (a.N + (b.length : Int)))] rfl c1 isAgg_136 sizeOf_136) ?_
   refine ⟨c2.keep0, ?_⟩
   simp only [i_HashAdd, p, G, cond_true, cond_false]
   exact ⟨_, _, _, _, rfl, (own_lo c3 (z4 E B D J)), cx, (own_lo c4 (z4 E B D J)), cy, ⟨⟨cz, trivial⟩, ⟨trivial, trivial⟩⟩⟩

theorem ciPad (b : World) (a : Int)  : Fn Tryz.prog 170 #[(vi a)] b (fun v d => Keep b d ∧ O_22 d b.heap.size v (padP a)) := by
 refine fn_ofS (n := 25) [(vi a)] Tryz.func170 rfl rfl ?_
 refine sr ?_
 refine aw (vs none 0 0) ?_
 refine n4 ?_
 refine mw (vi a) ?_
 refine cl wN (ciwithin b a 0 1048576) ?_
 rintro _ h ⟨o, rfl⟩
 have B := (Ch.base b).extk o
 refine pu (vb (!(i_within a 0 1048576))) wN ?_
 refine n2 ?_
 rcases bf (i_within a 0 1048576) with i | i
 ·have aj := impl_within_f i
  refine ct (cA not i) ?_
  refine sr ?_
  refine aw (vs none 0 0) ?_
  refine n1 ?_
  refine rt (vs none 0 0) ?_
  refine ⟨B.keep0, ?_⟩
  have N : padP a = [] := by first | exact padP_f (by omega) | exact padP_i (by omega) (by omega) (by omega) (by omega)
  rw [N]
  exact ⟨_, _, rfl, (by first | exact own_nil _ _ _ _ | exact OLv.nil _ _ _ _), (by simp), ⟨trivial, trivial⟩⟩
 have ak := impl_within_t i
 refine cf (cA not i) ?_
 refine y1 ?_
 refine ltB ([128] : List UInt8) wN slTy_22 ?_
 intro p q A r O
 have P := B.extk r
 refine aw (vs p ([128] : List UInt8).length q) ?_
 refine wl_nil <| wq_then <| wc_seq <| wc_block ?_
 have C : (([128] : List UInt8) : List UInt8) = [(128 : UInt8)] ++ List.replicate 0 (0 : UInt8) := by first | rfl | (rw [List.replicate_succ', List.append_assoc])
 refine wc_loopP [(0, (vi a)), (2, (vs none 0 0)), (3, (.slice p ([(128 : UInt8)] ++ List.replicate 0 (0 : UInt8)).length q))] ⟨rfl, rfl, (cA (fun l : List UInt8 => Value.slice p l.length q) C), trivial⟩ (fun e' d => ∃ (j : Nat) (D : Env) (e : Option Addr) (f : Nat), e' = pt D [(0, (vi a)), (2, (vs none 0 0)), (3, (.slice e ([(128 : UInt8)] ++ List.replicate j (0 : UInt8)).length f))] ∧ Ch (fun k => b.heap.size ≤ k) b d ∧ Ch (fun k => h.heap.size ≤ k) A d ∧ ((j : Nat) : Int) ≤ (64 - (a + 9) % 64) % 64 ∧ (World.ownsRow d h.heap.size 5 1 (.slice e ([(128 : UInt8)] ++ List.replicate j (0 : UInt8)).length f) ([(128 : UInt8)] ++ List.replicate j (0 : UInt8)).length (([(128 : UInt8)] ++ List.replicate j (0 : UInt8)).map bV) ∧ ([(128 : UInt8)] ++ List.replicate j (0 : UInt8)).length ≤ 1073741824)) (fun e' _ => 100 - (lenOf (e' 3))) ?_ ?_
 ·exact fun u => ⟨0, u, p, q, rfl, P, (Ch.refl (fun k => h.heap.size ≤ k) A), (by omega), (C ▸ ⟨O, (by simp)⟩)⟩
 ·rintro _ Q ⟨j, D, e, f, rfl, E, s, am, ⟨g, an⟩⟩
  have hpl : ([(128 : UInt8)] ++ List.replicate j (0 : UInt8)).length = 1 + j := by rw [List.length_append, List.length_replicate]; rfl
  refine wc_seq <| sr ?_
  refine mw (vi a) ?_
  refine mw (vs e ([(128 : UInt8)] ++ List.replicate j (0 : UInt8)).length f) ?_
  refine ln wN slTy_22 (Rd.of_own g) ?_
  refine ar (a + (([(128 : UInt8)] ++ List.replicate j (0 : UInt8)).length : Int)) wN ?_
  refine ar ((a + (([(128 : UInt8)] ++ List.replicate j (0 : UInt8)).length : Int)) + 8) wN ?_
  refine wl_rem ((a + (([(128 : UInt8)] ++ List.replicate j (0 : UInt8)).length : Int)) + 8) 64 wN rfl rfl (by kernel_rfl) (by first | omega | assumption) ?_
  refine pu (vb (!(decide ((((a + (([(128 : UInt8)] ++ List.replicate j (0 : UInt8)).length : Int)) + 8) % 64) = 0)))) wN ?_
  refine n2 ?_
  rcases bf (decide ((((a + (([(128 : UInt8)] ++ List.replicate j (0 : UInt8)).length : Int)) + 8) % 64) = 0)) with m | m
  ·have ao := dF m
   refine ct (cA not m) ?_
   refine wc_skip <| wq_then <| wc_block <| wc_region ?_
   refine mw (vs e ([(128 : UInt8)] ++ List.replicate j (0 : UInt8)).length f) ?_
   refine ltB ([0] : List UInt8) wN slTy_22 ?_
   intro ap aq R t S
   have T := (own_kp g t)
   refine apB ([(128 : UInt8)] ++ List.replicate j (0 : UInt8)) ([0] : List UInt8) wN slTy_22 T (Rd.of_own S) (z3 r s t) ?_
   intro w x F G V au W
   have X := (E.extk t).ext G (fun k hk => nT o.size (own_lt g k hk).1)
   refine aw (vs w (([(128 : UInt8)] ++ List.replicate j (0 : UInt8)) ++ ([0] : List UInt8)).length x) ?_
   refine wl_nil <| wq_blk_normal ?_
   have H : ((([(128 : UInt8)] ++ List.replicate j (0 : UInt8)) ++ ([0] : List UInt8)) : List UInt8) = [(128 : UInt8)] ++ List.replicate (j + 1) (0 : UInt8) := by first | rfl | (rw [List.replicate_succ', List.append_assoc])
   refine wq_loopP (w0 := Q) [(0, (vi a)), (2, (vs none 0 0)), (3, (.slice w ([(128 : UInt8)] ++ List.replicate (j + 1) (0 : UInt8)).length x))] ?_ ?_ ?_
   · exact ⟨rfl, rfl, (cA (fun l : List UInt8 => Value.slice w l.length x) H), trivial⟩
   · exact fun u => ⟨(j + 1), u, w, x, rfl, X, ((((Ch.refl (fun k => h.heap.size ≤ k) A).ext s (fun k hk => hk)).extk t).ext G (fun k hk => nT (Nat.le_refl h.heap.size) (own_lt g k hk).1)), (by omega), (H ▸ ⟨V, W⟩)⟩
   · show 100 - ([(128 : UInt8)] ++ List.replicate (j + 1) (0 : UInt8)).length < 100 - ([(128 : UInt8)] ++ List.replicate j (0 : UInt8)).length; simp only [List.length_append, List.length_cons, List.length_nil, List.length_replicate]; omega
  have av := dT m
  refine cf (cA not m) ?_
  refine wc_exit <| wq_then_exit <| wq_then_exit <| wq_blk_exit <| wq_then <| sr ?_
  refine mw (vs e ([(128 : UInt8)] ++ List.replicate j (0 : UInt8)).length f) ?_
  refine ltB ([0, 0] : List UInt8) wN slTy_22 ?_
  intro ax ay R y Y
  have Z := (own_kp g y)
  refine apB ([(128 : UInt8)] ++ List.replicate j (0 : UInt8)) ([0, 0] : List UInt8) wN slTy_22 Z (Rd.of_own Y) (z3 r s y) ?_
  intro I J F K aa az ab
  have ac := (E.extk y).ext K (fun k hk => nT o.size (own_lt g k hk).1)
  refine aw (vs I (([(128 : UInt8)] ++ List.replicate j (0 : UInt8)) ++ ([0, 0] : List UInt8)).length J) ?_
  refine nx ?_
  refine mw (vs I (([(128 : UInt8)] ++ List.replicate j (0 : UInt8)) ++ ([0, 0] : List UInt8)).length J) ?_
  refine mw (vi a) ?_
  refine ar (8 * a) wN ?_
  refine cl wN (ciPutN F _ (([(128 : UInt8)] ++ List.replicate j (0 : UInt8)) ++ ([0, 0] : List UInt8)) (mR_22 (Rd.of_own aa) ab) (8 * a) 6 (by first | omega | (simp; done) | (simp; omega) | (simp only [List.length_append, List.length_cons, List.length_nil] at *; omega))) ?_
  rintro _ a0 ⟨ad, ⟨L, M, rfl, ae, af, a1⟩⟩
  have ah := ac.extk ad
  have a2 := putN_len (([(128 : UInt8)] ++ List.replicate j (0 : UInt8)) ++ ([0, 0] : List UInt8)) (8 * a) 6
  refine aw (vs L (putN (([(128 : UInt8)] ++ List.replicate j (0 : UInt8)) ++ ([0, 0] : List UInt8)) (8 * a) 6).length M) ?_
  refine n3 ?_
  refine rt (vs L (putN (([(128 : UInt8)] ++ List.replicate j (0 : UInt8)) ++ ([0, 0] : List UInt8)) (8 * a) 6).length M) ?_
  refine ⟨ah.keep0, ?_⟩
  have ai : padP a = (putN (([(128 : UInt8)] ++ List.replicate j (0 : UInt8)) ++ ([0, 0] : List UInt8)) (8 * a) 6) := by first | exact padP_f (by omega) | exact padP_i (by omega) (by omega) (by omega) (by omega)
  rw [ai]
  exact ⟨_, _, rfl, (own_lo ae (z5 o r s y K)), af, ⟨trivial, trivial⟩⟩

theorem ciwordBytes (b : World) (s : Value) (a : List Int) (J : R_23 b s a) (P : a.length = 8) : Fn Tryz.prog 171 #[s] b (fun v f => Keep b f ∧ O_22 f b.heap.size v (wordB a)) := by
 obtain ⟨g, h, rfl, p, Q⟩ := J
 refine fn_ofS (n := 18) [(vs g a.length h)] Tryz.func171 rfl rfl ?_
 refine sr ?_
 refine aw (vs none 0 0) ?_
 refine nx ?_
 refine wl_lit0 wN rfl rfl slTy_22 (fun w => by kernel_rfl) ?_
 intro q r t K
 have y := (Ch.base b).extk t
 refine aw (vs (some q) 0 0) ?_
 refine n4 ?_
 refine mw (vs g a.length h) ?_
 refine ln wN slTy_23 (p.from0 y) ?_
 refine mw (vi 0) ?_
 refine wl_nil <| wq_then <| wc_block ?_
 have A : ([] : List UInt8) = wordB (a.take 0) := by rfl
 have B : 0 = (wordB (a.take 0)).length := by rw [← A]; try (first | rfl | simp only [List.length_set] | simp)
 refine wc_loopP [(2, (vs none 0 0)), (3, (.slice (some q) (wordB (a.take 0)).length 0)), (7, (vs g a.length h)), (8, (vi (a.length : Int))), (9, (vi ((0 : Nat) : Int)))] ⟨rfl, rfl, rfl, rfl, (cA (Value.int .i64) (show (0 : Int) = ((0 : Nat) : Int) by omega)), trivial⟩ (fun e' f => ∃ (k : Nat) (C : Env) (d : Option Addr) (e : Nat), e' = pt C [(2, (vs none 0 0)), (3, (.slice d (wordB (a.take k)).length e)), (7, (vs g a.length h)), (8, (vi (a.length : Int))), (9, (vi ((k : Nat) : Int)))] ∧ Ch (fun k => b.heap.size ≤ k) b f ∧ Ch (fun k => b.heap.size ≤ k) r f ∧ k ≤ a.length ∧ (World.ownsRow f b.heap.size 5 1 (.slice d (wordB (a.take k)).length e) (wordB (a.take k)).length ((wordB (a.take k)).map bV) ∧ (wordB (a.take k)).length ≤ 1073741824)) (fun e' _ => a.length - ((intOf (e' 9))).toNat) ?_ ?_
 ·exact fun u => ⟨0, u, (some q), 0, rfl, y, (Ch.refl (fun k => b.heap.size ≤ k) r), (by omega), ⟨(by rw [← B, ← A]; exact K), (by rw [← B]; first | exact (by simp) | (simp only [List.length_append, List.length_take, List.length_replicate]; omega))⟩⟩
 ·rintro _ D ⟨k, C, d, e, rfl, j, E, R, ⟨F, G⟩⟩
  have hwl := wordB_len (a.take k)
  have htl : (a.take k).length = min k a.length := List.length_take
  refine sr ?_
  refine pu (vb (decide (((k : Nat) : Int) < (a.length : Int)))) wN ?_
  refine wl_nil <| wq_then <| wc_seq ?_
  rcases bf (decide (((k : Nat) : Int) < (a.length : Int))) with i | i
  ·have S := dF i
   refine cf i ?_
   refine wc_exit <| wq_then_exit <| wq_then_exit <| wq_blk_exit <| wq_then <| sr ?_
   refine mw (vs d (wordB (a.take k)).length e) ?_
   refine aw (vs d (wordB (a.take k)).length e) ?_
   refine n3 ?_
   refine rt (vs d (wordB (a.take k)).length e) ?_
   refine ⟨j.keep0, ?_⟩
   have L : wordB a = (wordB (a.take k)) := by exact wordB_end (by omega)
   rw [L]
   exact ⟨_, _, rfl, F, G, ⟨trivial, trivial⟩⟩
  have T := dT i
  refine ct i ?_
  refine wc_skip <| wq_then <| wc_seq <| wc_block <| sr ?_
  refine ix wN ((k : Nat) : Int) slTy_23 (p.from0 j) ?_
  refine ei (x := a) k wN isAgg_3 (p.from0 j) ?_
  refine aw (vi (a.getD k 0)) ?_
  refine wl_nil <| wq_then <| wc_region ?_
  refine mw (vs d (wordB (a.take k)).length e) ?_
  refine mw (vi (a.getD k 0)) ?_
  refine cl wN (ciPutN D _ (wordB (a.take k)) (mR_22 (Rd.of_own F) G) (a.getD k 0) 4 (by first | omega | (simp; done) | (simp; omega) | (simp only [List.length_append, List.length_cons, List.length_nil] at *; omega))) ?_
  rintro _ V ⟨H, ⟨m, o, rfl, M, N, W⟩⟩
  have O := j.extk H
  have X := putN_len (wordB (a.take k)) (a.getD k 0) 4
  refine aw (vs m (putN (wordB (a.take k)) (a.getD k 0) 4).length o) ?_
  refine wl_nil <| wq_blk_normal <| wq_then <| wc_region ?_
  refine ar (((k : Nat) : Int) + 1) wN ?_
  refine mw (vi (((k : Nat) : Int) + 1)) ?_
  refine wl_nil ?_
  have I : ((putN (wordB (a.take k)) (a.getD k 0) 4) : List UInt8) = wordB (a.take (k + 1)) := by exact wordB_next (by omega)
  refine wq_loopP (w0 := D) [(2, (vs none 0 0)), (3, (.slice m (wordB (a.take (k + 1))).length o)), (7, (vs g a.length h)), (8, (vi (a.length : Int))), (9, (vi (((k + 1) : Nat) : Int)))] ?_ ?_ ?_
  · exact ⟨rfl, (cA (fun l : List UInt8 => Value.slice m l.length o) I), rfl, rfl, (cA (Value.int .i64) (show ((((k : Nat) : Int) + 1) : Int) = (((k + 1) : Nat) : Int) by omega)), trivial⟩
  · exact fun u => ⟨(k + 1), u, m, o, rfl, O, (((Ch.refl (fun k => b.heap.size ≤ k) r).ext E (fun k hk => hk)).extk H), (by omega), (I ▸ ⟨(own_lo M (z2 t E)), N⟩)⟩
  · show a.length - ((((k + 1) : Nat) : Int)).toNat < a.length - (((k : Nat) : Int)).toNat; omega

def i_HashEnd (a : PHash) : (List UInt8) := bif (i_HashOk a) then ((wordB ((compAll a.H (joinB [a.Held, (padP a.N)])).1))) else ([])
theorem ciHashEnd (s : World) (I : Value) (a : PHash) (aa : R_136 s I a)  : Fn Tryz.prog 161 #[I] s (fun v J => Keep s J ∧ O_22 J s.heap.size v (i_HashEnd a)) := by
 obtain ⟨b, g, i, j, rfl, K, M, O, P⟩ := aa
 refine fn_ofS (n := 23) [(va (L_136 a b g i j))] Tryz.func161 rfl rfl ?_
 refine sr ?_
 refine bx (L_136 a b g i j) wN ?_
 intro q t bb bc Q B
 have E := (Ch.base s).extk Q
 refine aw (vs none 0 0) ?_
 refine n4 ?_
 refine lN (L_136 a b g i j) wN isAgg_136 sizeOf_136 B ?_
 refine cl wN (ciHashOk t _ a (mR_136 (K.from0 E) M (O.from0 E) P)) ?_
 rintro _ F ⟨u, rfl⟩
 have C := E.extk u
 refine pu (vb (!(i_HashOk a))) wN ?_
 refine n2 ?_
 rcases bf (i_HashOk a) with r | r
 ·refine ct (cA not r) ?_
  refine sr ?_
  refine aw (vs none 0 0) ?_
  refine n1 ?_
  refine rt (vs none 0 0) ?_
  refine ⟨C.keep0, ?_⟩
  simp only [i_HashEnd, r, cond_true, cond_false]
  exact ⟨_, _, rfl, (by first | exact own_nil _ _ _ _ | exact OLv.nil _ _ _ _), (by simp), ⟨trivial, trivial⟩⟩
 have bd := hashOk_t r
 refine cf (cA not r) ?_
 refine wc_skip <| wq_then <| wc_seq ?_
 refine wc_draw ([(9, [], [], (fun _ v _ => v = (vp q 0))), (10, [], [0], (fun _ v _ => v = (vs b a.H.length g))), (11, [], [], (fun _ v _ => v = (vp q 1))), (12, [], [2], (fun _ v _ => v = (vs i a.Held.length j))), (13, [], [], (fun _ v _ => v = (vp q 2))), (14, [], [4], (fun _ v _ => v = (vi a.N))), (15, [], [4, 5], (fun _ v w => ∃ (b : Option Addr) (f : Nat), v = .slice b (padP a.N).length f ∧ w.ownsRow (F.heap.size) 5 1 (.slice b (padP a.N).length f) (padP a.N).length ((padP a.N).map bV) ∧ (padP a.N).length ≤ 1073741824 ∧ Aps [(b, f)])), (16, [15], [2, 3, 4, 5, 6], (fun e v w => ∃ (b : Option Addr) (f : Nat), v = .slice b 2 f ∧ w.ownsRow F.heap.size 22 1 (.slice b 2 f) 2 [(vs i a.Held.length j), (e 15)])), (17, [15], [2, 3, 4, 5, 6, 7], (fun e v w => ∃ (b : Option Addr) (f : Nat), v = .slice b (joinB [a.Held, (padP a.N)]).length f ∧ w.ownsRow (F.heap.size) 5 1 (.slice b (joinB [a.Held, (padP a.N)]).length f) (joinB [a.Held, (padP a.N)]).length ((joinB [a.Held, (padP a.N)]).map bV) ∧ (joinB [a.Held, (padP a.N)]).length ≤ 1073741824 ∧ Aps [(b, f)] ∧ Ap (sp (e 15)) (b, f))), (18, [], [0, 1, 2, 3, 4, 5, 6, 7, 8], (fun _ v w => ∃ (b : Option Addr) (f : Nat) (R : Option Addr) (g : Nat), v = .tuple #[.slice b ((compAll a.H (joinB [a.Held, (padP a.N)])).1).length f, .slice R ((compAll a.H (joinB [a.Held, (padP a.N)])).2).length g] ∧ Rd w 1 (.slice b ((compAll a.H (joinB [a.Held, (padP a.N)])).1).length f) ((compAll a.H (joinB [a.Held, (padP a.N)])).1).length (((compAll a.H (joinB [a.Held, (padP a.N)])).1).map iV) ∧ ((compAll a.H (joinB [a.Held, (padP a.N)])).1).length ≤ 1073741824 ∧ Rd w 1 (.slice R ((compAll a.H (joinB [a.Held, (padP a.N)])).2).length g) ((compAll a.H (joinB [a.Held, (padP a.N)])).2).length (((compAll a.H (joinB [a.Held, (padP a.N)])).2).map bV) ∧ ((compAll a.H (joinB [a.Held, (padP a.N)])).2).length ≤ 1073741824)), (8, [18], [0, 1, 2, 3, 4, 5, 6, 7, 8, 9], (fun e v _ => v = (.tuple #[(tupAt (e 18) 0), (tupAt (e 18) 1)]))), (19, [18], [0, 1, 2, 3, 4, 5, 6, 7, 8, 9, 10], (fun e v _ => v = (tupAt (e 18) 0))), (20, [18], [0, 1, 2, 3, 4, 5, 6, 7, 8, 9, 10], (fun e v _ => v = (tupAt (e 18) 1))), (3, [18], [0, 1, 2, 3, 4, 5, 6, 7, 8, 9, 10, 11], (fun e v _ => v = (tupAt (e 18) 0)))] : GV) mixed rfl (by kernel_rfl) (by kernel_rfl) ?_ ?_ ?_
 ·exact ⟨hV, hE, ⟨hV, hE, ⟨hV, hE, ⟨hV, hE, ⟨hV, hE, ⟨hV, hE, ⟨(fun e v w t h hk => by obtain ⟨k, l, he, o, x, hap⟩ := h; exact ⟨k, l, he, own_kp o hk, x, hap⟩), hE, ⟨(fun e v w t h hk => by obtain ⟨k, l, he, o⟩ := h; exact ⟨k, l, he, own_kp o hk⟩), (fun y A v w hx h => by have G := hx 15 (by simp); simp only [G] at h; exact h), ⟨(fun e v w t h hk => by obtain ⟨k, l, he, o, x, hap, hx⟩ := h; exact ⟨k, l, he, own_kp o hk, x, hap, hx⟩), (fun y A v w hx h => by have G := hx 15 (by simp); simp only [G] at h; exact h), ⟨(fun e v w t h hk => by obtain ⟨k, l, ab, ac, he, o, x, ad, ae⟩ := h; exact ⟨k, l, ab, ac, he, Rd.kp o hk, x, Rd.kp ad hk, ae⟩), hE, ⟨hV, (fun y A v w hx h => by have p := hx 18 (by simp); simp only [p] at h; exact h), ⟨hV, (fun y A v w hx h => by have p := hx 18 (by simp); simp only [p] at h; exact h), ⟨hV, (fun y A v w hx h => by have p := hx 18 (by simp); simp only [p] at h; exact h), ⟨hV, (fun y A v w hx h => by have p := hx 18 (by simp); simp only [p] at h; exact h), trivial⟩⟩⟩⟩⟩⟩⟩⟩⟩⟩⟩⟩⟩⟩
 ·refine ⟨?_, ⟨?_, ⟨?_, ⟨?_, ⟨?_, ⟨?_, ⟨?_, ⟨?_, ⟨?_, ⟨?_, ⟨?_, ⟨?_, ⟨?_, ⟨?_, trivial⟩⟩⟩⟩⟩⟩⟩⟩⟩⟩⟩⟩⟩⟩
  ·intro d be
   rintro _ _ _ _ _ _ _ _ _ _ _ _ _ _
   show WL _ _ _ _ _ _ _
   refine pu (vp q 0) wN ?_
   exact f2
  ·intro d af
   rintro _ rfl _ _ _ _ _ _ _ _ _ _ _ _ _
   show WL _ _ _ _ _ _ _
   have ah := ((B.kp u).kp af)
   refine ld (vs b a.H.length g) wN isAgg_23 ah ?_
   exact f2
  ·intro d bg
   rintro _ _ _ _ _ _ _ _ _ _ _ _ _ _
   show WL _ _ _ _ _ _ _
   refine pu (vp q 1) wN ?_
   exact f2
  ·intro d ai
   rintro _ _ _ rfl _ _ _ _ _ _ _ _ _ _ _
   show WL _ _ _ _ _ _ _
   have aj := ((B.kp u).kp ai)
   refine ld (vs i a.Held.length j) wN isAgg_22 aj ?_
   exact f2
  ·intro d bh
   rintro _ _ _ _ _ _ _ _ _ _ _ _ _ _
   show WL _ _ _ _ _ _ _
   refine pu (vp q 2) wN ?_
   exact f2
  ·intro d ak
   rintro _ _ _ _ _ rfl _ _ _ _ _ _ _ _ _
   show WL _ _ _ _ _ _ _
   have am := ((B.kp u).kp ak)
   refine ld (vi a.N) wN isAgg_3 am ?_
   exact f2
  ·intro d an
   rintro _ _ _ _ _ rfl _ rfl _ _ _ _ _ _ _ _
   show WL _ _ _ _ _ _ _
   refine cl wN (ciPad d a.N) ?_
   rintro _ D ⟨ao, ⟨bi, bj, rfl, ap, aq, au⟩⟩
   have bk := padP_len a.N
   exact wl_fin ao ⟨_, _, rfl, (own_lo ap an.size), aq, au⟩
  ·intro d av
   rintro _ _ _ rfl _ rfl _ rfl _ rfl _ ⟨ax, ay, rfl, _⟩
   have bl := padP_len a.N
   rintro _ _ _ _ _ _ _
   show WL _ _ _ _ _ _ _
   refine wl_lit [(vs i a.Held.length j), (vs ax (padP a.N).length ay)] wN rfl rfl slTy_132 (m := 2) rfl (by simp only [maxLen]; omega) (fun w => by kernel_rfl) ?_
   intro bm D az S
   obtain ⟨bn, bo, rfl⟩ := own_form S
   exact wl_fin az ⟨_, _, rfl, own_lo S av.size⟩
  ·intro d T
   have a0 := C.extk T
   rintro _ _ _ rfl _ rfl _ rfl _ rfl _ ⟨a1, a2, rfl, V, a3, bp⟩
   have bq := padP_len a.N
   rintro _ ⟨br, bu, rfl, a4⟩ _ _ _ _ _ _
   show WL _ _ _ _ _ _ _
   refine cl wN (cijoined d _ [a.Held, (padP a.N)] (mR_132 (RLv.mk (L := LT_22) [(a.Held, [(i, j)]), ((padP a.N), [(a1, a2)])] (Rd.of_own a4) rfl ⟨⟨⟨(O.from0 a0), P⟩, trivial⟩, ⟨⟨⟨(Rd.of_own V), a3⟩, trivial⟩, trivial⟩⟩ (by first | decide | exact Nat.le_of_ble_eq_true rfl)) (by first | decide | exact Nat.le_of_ble_eq_true rfl)) (by first | omega | (rw [joinB_l2]; omega) | (rw [joinB_l2]; simp only [List.length_cons, List.length_nil, maskB_len]; omega) | (rw [joinB_l3]; simp only [List.length_cons, List.length_nil, maskB_len]; omega) | (simp only [joinB, List.flatten_cons, List.flatten_nil, List.length_append, List.length_cons, List.length_nil, maskB_len]; omega))) ?_
   rintro _ D ⟨a5, ⟨bv, bw, rfl, W, a6, a7⟩⟩
   have bz := (show (joinB [a.Held, (padP a.N)]).length = a.Held.length + (padP a.N).length by simp only [joinB, List.flatten_cons, List.flatten_nil, List.length_append, List.length_cons, List.length_nil]; omega)
   exact wl_fin a5 ⟨_, _, rfl, (own_lo W T.size), a6, a7, (Ap.lt V W (Nat.le_refl _))⟩
  ·intro d a8
   have a9 := C.extk a8
   rintro _ rfl _ rfl _ rfl _ rfl _ rfl _ rfl _ ⟨b0, b1, rfl, _⟩
   have b2 := padP_len a.N
   rintro _ ⟨b3, b4, rfl, b5⟩ _ ⟨b6, b7, rfl, aA, aB, _⟩
   have b8 := (show (joinB [a.Held, (padP a.N)]).length = a.Held.length + (padP a.N).length by simp only [joinB, List.flatten_cons, List.flatten_nil, List.length_append, List.length_cons, List.length_nil]; omega)
   rintro _ _ _ _ _
   show WL _ _ _ _ _ _ _
   refine cl wN (cicompressAll d _ a.H (mR_23 (K.from0 a9) M) _ (joinB [a.Held, (padP a.N)]) (mR_22 (Rd.of_own aA) aB)) ?_
   rintro _ D ⟨aC, ⟨b9, bA, bB, bC, rfl, aD, aE, aF, aG⟩⟩
   exact wl_fin aC ⟨_, _, _, _, rfl, aD, aE, aF, aG⟩
  ·intro d bD
   rintro _ rfl _ rfl _ rfl _ rfl _ rfl _ rfl _ ⟨bE, bF, rfl, _⟩
   have bG := padP_len a.N
   rintro _ ⟨bH, bI, rfl, bJ⟩ _ ⟨bK, bL, rfl, _⟩
   have bM := (show (joinB [a.Held, (padP a.N)]).length = a.Held.length + (padP a.N).length by simp only [joinB, List.flatten_cons, List.flatten_nil, List.length_append, List.length_cons, List.length_nil]; omega)
   rintro _ ⟨aH, aI, aJ, aK, rfl, _⟩ _ _ _ _
   show WL _ _ _ _ _ _ _
   refine mw (.tuple #[(vs aH ((compAll a.H (joinB [a.Held, (padP a.N)])).1).length aI), (vs aJ ((compAll a.H (joinB [a.Held, (padP a.N)])).2).length aK)]) ?_
   exact f2
  ·intro d bN
   rintro _ rfl _ rfl _ rfl _ rfl _ rfl _ rfl _ ⟨bO, bP, rfl, _⟩
   have bQ := padP_len a.N
   rintro _ ⟨bR, bS, rfl, bT⟩ _ ⟨bU, bW, rfl, _⟩
   have bX := (show (joinB [a.Held, (padP a.N)]).length = a.Held.length + (padP a.N).length by simp only [joinB, List.flatten_cons, List.flatten_nil, List.length_append, List.length_cons, List.length_nil]; omega)
   rintro _ ⟨aL, aM, bY, bZ, rfl, _⟩ _ rfl _ _ _
   show WL _ _ _ _ _ _ _
   refine pu (vs aL ((compAll a.H (joinB [a.Held, (padP a.N)])).1).length aM) wN ?_
   exact f2
  ·intro d ca
   rintro _ rfl _ rfl _ rfl _ rfl _ rfl _ rfl _ ⟨cb, cc, rfl, _⟩
   have cd := padP_len a.N
   rintro _ ⟨ce, cg, rfl, ci⟩ _ ⟨cj, ck, rfl, _⟩
   have cm := (show (joinB [a.Held, (padP a.N)]).length = a.Held.length + (padP a.N).length by simp only [joinB, List.flatten_cons, List.flatten_nil, List.length_append, List.length_cons, List.length_nil]; omega)
   rintro _ ⟨cn, co, aN, aO, rfl, _⟩ _ rfl _ _ _
   show WL _ _ _ _ _ _ _
   refine pu (vs aN ((compAll a.H (joinB [a.Held, (padP a.N)])).2).length aO) wN ?_
   exact f2
  ·intro d cp
   rintro _ rfl _ rfl _ rfl _ rfl _ rfl _ rfl _ ⟨cq, cr, rfl, _⟩
   have cs := padP_len a.N
   rintro _ ⟨cu, cv, rfl, cw⟩ _ ⟨cx, cy, rfl, _⟩
   have cz := (show (joinB [a.Held, (padP a.N)]).length = a.Held.length + (padP a.N).length by simp only [joinB, List.flatten_cons, List.flatten_nil, List.length_append, List.length_cons, List.length_nil]; omega)
   rintro _ ⟨aP, aQ, c0, c1, rfl, _⟩ _ rfl _ rfl _ _
   show WL _ _ _ _ _ _ _
   refine aw (vs aP ((compAll a.H (joinB [a.Held, (padP a.N)])).1).length aQ) ?_
   exact f2
 ·intro d X
  rintro _ rfl _ rfl _ rfl _ rfl _ rfl _ rfl _ ⟨c2, c3, rfl, _⟩
  have c4 := padP_len a.N
  rintro _ ⟨c5, c6, rfl, c7⟩ _ ⟨c8, c9, rfl, _⟩
  have cC := (show (joinB [a.Held, (padP a.N)]).length = a.Held.length + (padP a.N).length by simp only [joinB, List.flatten_cons, List.flatten_nil, List.length_append, List.length_cons, List.length_nil]; omega)
  rintro _ ⟨aR, aS, aT, aU, rfl, aV, aW, _⟩ _ rfl _ rfl _ rfl _ rfl
  show WL _ _ _ _ _ _ _
  refine aw (vs aT ((compAll a.H (joinB [a.Held, (padP a.N)])).2).length aU) ?_
  refine nx ?_
  refine mw (vs aR ((compAll a.H (joinB [a.Held, (padP a.N)])).1).length aS) ?_
  refine cl wN (ciwordBytes d _ ((compAll a.H (joinB [a.Held, (padP a.N)])).1) (mR_23 aV aW) (by first | omega | exact foldK_len k0_w _ | exact compAll_len (by first | assumption | exact (hashOk_t (by assumption)).1))) ?_
  rintro _ D ⟨aX, ⟨Y, Z, rfl, aY, aZ, cD⟩⟩
  have ba := (C.extk X).extk aX
  refine aw (vs Y (wordB ((compAll a.H (joinB [a.Held, (padP a.N)])).1)).length Z) ?_
  refine n3 ?_
  refine rt (vs Y (wordB ((compAll a.H (joinB [a.Held, (padP a.N)])).1)).length Z) ?_
  refine ⟨ba.keep0, ?_⟩
  simp only [i_HashEnd, r, cond_true, cond_false]
  exact ⟨_, _, rfl, (own_lo aY (z3 Q u X)), aZ, ⟨trivial, trivial⟩⟩

theorem shaI (b : List UInt8) (h : b.length ≤ 1048576) : i_HashEnd (i_HashAdd i_HashNew b) = sha b := by
  have a : i_HashOk i_HashNew = true := rfl
  have hA : i_HashAdd i_HashNew b = { H := (compAll k0 b).1, Held := (compAll k0 b).2, N := (b.length : Int) : PHash } := by
    have d : decide (1048576 - i_HashNew.N < (b.length : Int)) = false := decide_eq_false (by show ¬ (1048576 - 0 < (b.length : Int)); omega)
    simp only [i_HashAdd, a, d, cond_true, cond_false]
    simp [i_HashNew, joinB, i_clone]
  have hO : i_HashOk { H := (compAll k0 b).1, Held := (compAll k0 b).2, N := (b.length : Int) : PHash } = true := by
    have hw : areW (compAll k0 b).1 8 = true := foldK_w k0_w _
    have hl : (compAll k0 b).2.length = b.length - 64 * (b.length / 64) := List.length_drop
    simp only [i_HashOk, hw, hl, i_within, cond_true, cond_eq_ite]
    (repeat' split) <;> first | rfl | (exfalso; simp_all; done) | (rw [decide_eq_true_eq]; omega) | (exfalso; simp at *; omega)
  rw [hA, sha_parts h]
  have hp : padP (b.length : Int) = pad b.length := padP_eq (by omega) (by omega)
  simp only [i_HashEnd, hO, cond_true, hp]
  simp [joinB]
theorem ciSha (b : World) (g : Value) (a : List UInt8) (p : R_22 b g a)  : Fn Tryz.prog 155 #[g] b (fun v h => Keep b h ∧ O_22 h b.heap.size v (sha a)) := by
 obtain ⟨e, f, rfl, i, q⟩ := p
 refine fn_ofS (n := 10) [(vs e a.length f)] Tryz.func155 rfl rfl ?_
 refine sr ?_
 refine aw (vs none 0 0) ?_
 refine n4 ?_
 refine mw (vs e a.length f) ?_
 refine ln wN slTy_22 i ?_
 refine pu (vb (decide (1048576 < (a.length : Int)))) wN ?_
 refine n2 ?_
 rcases bt (decide (1048576 < (a.length : Int))) with d | d
 ·have J := dT d
  refine ct d ?_
  refine sr ?_
  refine aw (vs none 0 0) ?_
  refine n1 ?_
  refine rt (vs none 0 0) ?_
  refine ⟨Ch.refl _ _, ?_⟩
  have r : sha a = [] := by first | exact sha_f (by omega) | exact (shaI a (by omega)).symm
  rw [r]
  exact ⟨_, _, rfl, (by first | exact own_nil _ _ _ _ | exact OLv.nil _ _ _ _), (by simp), ⟨trivial, trivial⟩⟩
 have K := dF d
 refine cf d ?_
 refine y1 ?_
 refine cl wN (ciHashNew b ) ?_
 rintro _ s ⟨j, ⟨L, M, N, O, rfl, t, u, w, x, P⟩⟩
 have k := (Ch.base b).extk j
 refine mw (vs e a.length f) ?_
 refine cl wN (ciHashAdd s _ (i_HashNew) (mR_136 (Rd.of_own t) u (Rd.of_own w) x) _ a (mR_22 (i.from0 k) q)) ?_
 rintro _ y ⟨l, ⟨Q, R, S, T, rfl, A, B, C, D, V⟩⟩
 refine cl wN (ciHashEnd y _ (i_HashAdd (i_HashNew) a) (mR_136 (Rd.of_own A) B (Rd.of_own C) D)) ?_
 rintro _ W ⟨E, ⟨m, o, rfl, F, G, X⟩⟩
 have H := (k.extk l).extk E
 refine aw (vs m (i_HashEnd (i_HashAdd (i_HashNew) a)).length o) ?_
 refine n3 ?_
 refine rt (vs m (i_HashEnd (i_HashAdd (i_HashNew) a)).length o) ?_
 refine ⟨H.keep0, ?_⟩
 have I : sha a = (i_HashEnd (i_HashAdd (i_HashNew) a)) := by first | exact sha_f (by omega) | exact (shaI a (by omega)).symm
 rw [I]
 exact ⟨_, _, rfl, (own_lo F (z2 j l)), G, ⟨trivial, trivial⟩⟩

theorem ciBlockKey (b : World) (K : Value) (a : List UInt8) (ab : R_22 b K a)  : Fn Tryz.prog 154 #[K] b (fun v f => Keep b f ∧ O_22 f b.heap.size v (blockKey a)) := by
 obtain ⟨h, i, rfl, w, L⟩ := ab
 refine fn_ofS (n := 21) [(vs h a.length i)] Tryz.func154 rfl rfl ?_
 refine sr ?_
 refine aw (vs none 0 0) ?_
 refine n4 ?_
 refine mw (vs h a.length i) ?_
 refine ln wN slTy_22 w ?_
 refine pu (vb (decide (1048576 < (a.length : Int)))) wN ?_
 refine n2 ?_
 rcases bt (decide (1048576 < (a.length : Int))) with m | m
 ·have a3 := dT m
  refine ct m ?_
  refine sr ?_
  refine aw (vs none 0 0) ?_
  refine n1 ?_
  refine rt (vs none 0 0) ?_
  refine ⟨Ch.refl _ _, ?_⟩
  have ac : blockKey a = [] := by first | exact blockKey_f (by omega) | exact blockKey_l (by omega) (by omega) (by omega) (by simp only [List.length_append, List.length_replicate] at *; omega) | exact blockKey_s (by omega) (by omega) (by simp only [List.length_append, List.length_replicate] at *; omega)
  rw [ac]
  exact ⟨_, _, rfl, (by first | exact own_nil _ _ _ _ | exact OLv.nil _ _ _ _), (by simp), ⟨trivial, trivial⟩⟩
 have a4 := dF m
 refine cf m ?_
 refine y1 ?_
 refine mw (vs h a.length i) ?_
 refine cl wN (ciclone b _ a (mR_22 w L)) ?_
 rintro _ g ⟨x, ⟨y, A, rfl, ad, ae, a5⟩⟩
 have B := (Ch.base b).extk x
 refine aw (vs y (a).length A) ?_
 refine n4 ?_
 refine mw (vs h a.length i) ?_
 refine ln wN slTy_22 (w.from0 B) ?_
 refine pu (vb (decide (64 < (a.length : Int)))) wN ?_
 refine n2 ?_
 rcases bf (decide (64 < (a.length : Int))) with o | o
 ·have a6 := dF o
  refine cf o ?_
  refine wc_skip <| wq_then <| wc_seq <| wc_block ?_
  have M : ((a) : List UInt8) = (a) ++ List.replicate 0 (0 : UInt8) := by simp
  refine wc_loopP [(2, (vs none 0 0)), (3, (.slice y ((a) ++ List.replicate 0 (0 : UInt8)).length A))] ⟨rfl, (cA (fun l : List UInt8 => Value.slice y l.length A) M), trivial⟩ (fun e' f => ∃ (j : Nat) (N : Env) (d : Option Addr) (e : Nat), e' = pt N [(2, (vs none 0 0)), (3, (.slice d ((a) ++ List.replicate j (0 : UInt8)).length e))] ∧ Ch (fun k => b.heap.size ≤ k) b f ∧ Ch (fun k => b.heap.size ≤ k) g f ∧ (a).length + j ≤ 64 ∧ (World.ownsRow f b.heap.size 5 1 (.slice d ((a) ++ List.replicate j (0 : UInt8)).length e) ((a) ++ List.replicate j (0 : UInt8)).length (((a) ++ List.replicate j (0 : UInt8)).map bV) ∧ ((a) ++ List.replicate j (0 : UInt8)).length ≤ 1073741824)) (fun e' _ => 64 - (lenOf (e' 3))) ?_ ?_
  ·exact fun u => ⟨0, u, y, A, rfl, B, (Ch.refl (fun k => b.heap.size ≤ k) g), (by omega), (M ▸ ⟨ad, ae⟩)⟩
  ·rintro _ p ⟨j, N, d, e, rfl, O, P, a7, ⟨q, af⟩⟩
   have hol : ((a) ++ List.replicate j (0 : UInt8)).length = (a).length + j := by rw [List.length_append, List.length_replicate]
   refine wc_seq <| sr ?_
   refine mw (vs d ((a) ++ List.replicate j (0 : UInt8)).length e) ?_
   refine ln wN slTy_22 (Rd.of_own q) ?_
   refine pu (vb (decide ((((a) ++ List.replicate j (0 : UInt8)).length : Int) < 64))) wN ?_
   refine n2 ?_
   rcases bf (decide ((((a) ++ List.replicate j (0 : UInt8)).length : Int) < 64)) with r | r
   ·have a8 := dF r
    refine cf r ?_
    refine wc_exit <| wq_then_exit <| wq_then_exit <| wq_blk_exit <| wq_then <| sr ?_
    refine mw (vs d ((a) ++ List.replicate j (0 : UInt8)).length e) ?_
    refine aw (vs d ((a) ++ List.replicate j (0 : UInt8)).length e) ?_
    refine n3 ?_
    refine rt (vs d ((a) ++ List.replicate j (0 : UInt8)).length e) ?_
    refine ⟨O.keep0, ?_⟩
    have ah : blockKey a = ((a) ++ List.replicate j (0 : UInt8)) := by first | exact blockKey_f (by omega) | exact blockKey_l (by omega) (by omega) (by omega) (by simp only [List.length_append, List.length_replicate] at *; omega) | exact blockKey_s (by omega) (by omega) (by simp only [List.length_append, List.length_replicate] at *; omega)
    rw [ah]
    exact ⟨_, _, rfl, q, af, ⟨trivial, trivial⟩⟩
   have a9 := dT r
   refine ct r ?_
   refine wc_skip <| wq_then <| wc_block <| wc_region ?_
   refine mw (vs d ((a) ++ List.replicate j (0 : UInt8)).length e) ?_
   refine ltB ([0] : List UInt8) wN slTy_22 ?_
   intro aA aB Q C ai
   have aj := (own_kp q C)
   refine apB ((a) ++ List.replicate j (0 : UInt8)) ([0] : List UInt8) wN slTy_22 aj (Rd.of_own ai) (z3 x P C) ?_
   intro D E ak R am aC an
   have ao := (O.extk C).ext R (fun k hk => nT (Nat.le_refl b.heap.size) (own_lt q k hk).1)
   refine aw (vs D (((a) ++ List.replicate j (0 : UInt8)) ++ ([0] : List UInt8)).length E) ?_
   refine wl_nil <| wq_blk_normal ?_
   have S : ((((a) ++ List.replicate j (0 : UInt8)) ++ ([0] : List UInt8)) : List UInt8) = (a) ++ List.replicate (j + 1) (0 : UInt8) := by rw [List.replicate_succ', List.append_assoc]
   refine wq_loopP (w0 := p) [(2, (vs none 0 0)), (3, (.slice D ((a) ++ List.replicate (j + 1) (0 : UInt8)).length E))] ?_ ?_ ?_
   · exact ⟨rfl, (cA (fun l : List UInt8 => Value.slice D l.length E) S), trivial⟩
   · exact fun u => ⟨(j + 1), u, D, E, rfl, ao, ((((Ch.refl (fun k => b.heap.size ≤ k) g).ext P (fun k hk => hk)).extk C).ext R (fun k hk => nT (Nat.le_refl b.heap.size) (own_lt q k hk).1)), (by omega), (S ▸ ⟨am, an⟩)⟩
   · show 64 - ((a) ++ List.replicate (j + 1) (0 : UInt8)).length < 64 - ((a) ++ List.replicate j (0 : UInt8)).length; simp only [List.length_append, List.length_replicate]; omega
 have aD := dT o
 refine ct o ?_
 refine wc_region ?_
 refine mw (vs h a.length i) ?_
 refine cl wN (ciSha g _ a (mR_22 (w.from0 B) L)) ?_
 rintro _ p ⟨T, ⟨F, G, rfl, ap, aq, aE⟩⟩
 have au := B.extk T
 have aF := sha_le a
 refine aw (vs F (sha a).length G) ?_
 refine wl_nil <| wq_then <| wc_seq <| wc_block ?_
 have V : ((sha a) : List UInt8) = (sha a) ++ List.replicate 0 (0 : UInt8) := by simp
 refine wc_loopP [(2, (vs none 0 0)), (3, (.slice F ((sha a) ++ List.replicate 0 (0 : UInt8)).length G))] ⟨rfl, (cA (fun l : List UInt8 => Value.slice F l.length G) V), trivial⟩ (fun e' f => ∃ (j : Nat) (W : Env) (d : Option Addr) (e : Nat), e' = pt W [(2, (vs none 0 0)), (3, (.slice d ((sha a) ++ List.replicate j (0 : UInt8)).length e))] ∧ Ch (fun k => b.heap.size ≤ k) b f ∧ Ch (fun k => g.heap.size ≤ k) p f ∧ (sha a).length + j ≤ 64 ∧ (World.ownsRow f g.heap.size 5 1 (.slice d ((sha a) ++ List.replicate j (0 : UInt8)).length e) ((sha a) ++ List.replicate j (0 : UInt8)).length (((sha a) ++ List.replicate j (0 : UInt8)).map bV) ∧ ((sha a) ++ List.replicate j (0 : UInt8)).length ≤ 1073741824)) (fun e' _ => 64 - (lenOf (e' 3))) ?_ ?_
 ·exact fun u => ⟨0, u, F, G, rfl, au, (Ch.refl (fun k => g.heap.size ≤ k) p), (by omega), (V ▸ ⟨ap, aq⟩)⟩
 ·rintro _ Q ⟨j, W, d, e, rfl, X, Y, aG, ⟨s, av⟩⟩
  have hol : ((sha a) ++ List.replicate j (0 : UInt8)).length = (sha a).length + j := by rw [List.length_append, List.length_replicate]
  refine wc_seq <| sr ?_
  refine mw (vs d ((sha a) ++ List.replicate j (0 : UInt8)).length e) ?_
  refine ln wN slTy_22 (Rd.of_own s) ?_
  refine pu (vb (decide ((((sha a) ++ List.replicate j (0 : UInt8)).length : Int) < 64))) wN ?_
  refine n2 ?_
  rcases bf (decide ((((sha a) ++ List.replicate j (0 : UInt8)).length : Int) < 64)) with t | t
  ·have aH := dF t
   refine cf t ?_
   refine wc_exit <| wq_then_exit <| wq_then_exit <| wq_blk_exit <| wq_then <| sr ?_
   refine mw (vs d ((sha a) ++ List.replicate j (0 : UInt8)).length e) ?_
   refine aw (vs d ((sha a) ++ List.replicate j (0 : UInt8)).length e) ?_
   refine n3 ?_
   refine rt (vs d ((sha a) ++ List.replicate j (0 : UInt8)).length e) ?_
   refine ⟨X.keep0, ?_⟩
   have ax : blockKey a = ((sha a) ++ List.replicate j (0 : UInt8)) := by first | exact blockKey_f (by omega) | exact blockKey_l (by omega) (by omega) (by omega) (by simp only [List.length_append, List.length_replicate] at *; omega) | exact blockKey_s (by omega) (by omega) (by simp only [List.length_append, List.length_replicate] at *; omega)
   rw [ax]
   exact ⟨_, _, rfl, (own_lo s x.size), av, ⟨trivial, trivial⟩⟩
  have aI := dT t
  refine ct t ?_
  refine wc_skip <| wq_then <| wc_block <| wc_region ?_
  refine mw (vs d ((sha a) ++ List.replicate j (0 : UInt8)).length e) ?_
  refine ltB ([0] : List UInt8) wN slTy_22 ?_
  intro aJ aK ak H ay
  have az := (own_kp s H)
  refine apB ((sha a) ++ List.replicate j (0 : UInt8)) ([0] : List UInt8) wN slTy_22 az (Rd.of_own ay) (z3 T Y H) ?_
  intro I J aL Z a0 aM a1
  have a2 := (X.extk H).ext Z (fun k hk => nT x.size (own_lt s k hk).1)
  refine aw (vs I (((sha a) ++ List.replicate j (0 : UInt8)) ++ ([0] : List UInt8)).length J) ?_
  refine wl_nil <| wq_blk_normal ?_
  have aa : ((((sha a) ++ List.replicate j (0 : UInt8)) ++ ([0] : List UInt8)) : List UInt8) = (sha a) ++ List.replicate (j + 1) (0 : UInt8) := by rw [List.replicate_succ', List.append_assoc]
  refine wq_loopP (w0 := Q) [(2, (vs none 0 0)), (3, (.slice I ((sha a) ++ List.replicate (j + 1) (0 : UInt8)).length J))] ?_ ?_ ?_
  · exact ⟨rfl, (cA (fun l : List UInt8 => Value.slice I l.length J) aa), trivial⟩
  · exact fun u => ⟨(j + 1), u, I, J, rfl, a2, ((((Ch.refl (fun k => g.heap.size ≤ k) p).ext Y (fun k hk => hk)).extk H).ext Z (fun k hk => nT (Nat.le_refl g.heap.size) (own_lt s k hk).1)), (by omega), (aa ▸ ⟨a0, a1⟩)⟩
  · show 64 - ((sha a) ++ List.replicate (j + 1) (0 : UInt8)).length < 64 - ((sha a) ++ List.replicate j (0 : UInt8)).length; simp only [List.length_append, List.length_replicate]; omega

theorem cimasked (d : World) (B : Value) (a : List UInt8) (K : R_22 d B a) (b : UInt8)  : Fn Tryz.prog 156 #[B, (v8 ((b).toNat : Int))] d (fun v g => Keep d g ∧ O_22 g d.heap.size v (maskB a b)) := by
 obtain ⟨h, i, rfl, s, V⟩ := K
 refine fn_ofS (n := 23) [(vs h a.length i), (v8 ((b).toNat : Int))] Tryz.func156 rfl rfl ?_
 refine sr ?_
 refine aw (vs none 0 0) ?_
 refine nx ?_
 refine wl_lit0 wN rfl rfl slTy_22 (fun w => by kernel_rfl) ?_
 intro t A C L
 have D := (Ch.base d).extk C
 refine aw (vs (some t) 0 0) ?_
 refine n4 ?_
 refine mw (vs h a.length i) ?_
 refine ln wN slTy_22 (s.from0 D) ?_
 refine mw (vi 0) ?_
 refine wl_nil <| wq_then <| wc_block ?_
 have E : ([] : List UInt8) = (a.take 0).map (fun y => y ^^^ b) := by rfl
 have F : 0 = ((a.take 0).map (fun y => y ^^^ b)).length := by rw [← E]; try (first | rfl | simp only [List.length_set] | simp)
 refine wc_loopP [(1, (v8 ((b).toNat : Int))), (4, (vs none 0 0)), (5, (.slice (some t) ((a.take 0).map (fun y => y ^^^ b)).length 0)), (9, (vs h a.length i)), (10, (vi (a.length : Int))), (11, (vi ((0 : Nat) : Int)))] ⟨rfl, rfl, rfl, rfl, rfl, (cA (Value.int .i64) (show (0 : Int) = ((0 : Nat) : Int) by omega)), trivial⟩ (fun e' g => ∃ (k : Nat) (G : Env) (e : Option Addr) (f : Nat), e' = pt G [(1, (v8 ((b).toNat : Int))), (4, (vs none 0 0)), (5, (.slice e ((a.take k).map (fun y => y ^^^ b)).length f)), (9, (vs h a.length i)), (10, (vi (a.length : Int))), (11, (vi ((k : Nat) : Int)))] ∧ Ch (fun k => d.heap.size ≤ k) d g ∧ Ch (fun k => d.heap.size ≤ k) A g ∧ k ≤ a.length ∧ (World.ownsRow g d.heap.size 5 1 (.slice e ((a.take k).map (fun y => y ^^^ b)).length f) ((a.take k).map (fun y => y ^^^ b)).length (((a.take k).map (fun y => y ^^^ b)).map bV) ∧ ((a.take k).map (fun y => y ^^^ b)).length ≤ 1073741824)) (fun e' _ => a.length - ((intOf (e' 11))).toNat) ?_ ?_
 ·exact fun u => ⟨0, u, (some t), 0, rfl, D, (Ch.refl (fun k => d.heap.size ≤ k) A), (by omega), ⟨(by rw [← F, ← E]; exact L), (by rw [← F]; first | exact (by simp) | (simp only [List.length_append, List.length_take, List.length_replicate]; omega))⟩⟩
 ·rintro _ M ⟨k, G, e, f, rfl, m, H, W, ⟨o, N⟩⟩
  have hml : ((a.take k).map (fun y => y ^^^ b)).length = min k a.length := by rw [List.length_map, List.length_take]
  refine sr ?_
  refine pu (vb (decide (((k : Nat) : Int) < (a.length : Int)))) wN ?_
  refine wl_nil <| wq_then <| wc_seq ?_
  rcases bf (decide (((k : Nat) : Int) < (a.length : Int))) with j | j
  ·have X := dF j
   refine cf j ?_
   refine wc_exit <| wq_then_exit <| wq_then_exit <| wq_blk_exit <| wq_then <| sr ?_
   refine mw (vs e ((a.take k).map (fun y => y ^^^ b)).length f) ?_
   refine aw (vs e ((a.take k).map (fun y => y ^^^ b)).length f) ?_
   refine n3 ?_
   refine rt (vs e ((a.take k).map (fun y => y ^^^ b)).length f) ?_
   refine ⟨m.keep0, ?_⟩
   have O : maskB a b = ((a.take k).map (fun y => y ^^^ b)) := by exact (map_end (by omega)).symm
   rw [O]
   exact ⟨_, _, rfl, o, N, ⟨trivial, trivial⟩⟩
  have Y := dT j
  refine ct j ?_
  refine wc_skip <| wq_then <| wc_seq <| wc_block <| sr ?_
  refine ix wN ((k : Nat) : Int) slTy_22 (s.from0 m) ?_
  refine eb (x := a) k wN isAgg_5 (s.from0 m) ?_
  refine aw (v8 ((a.getD k 0).toNat : Int)) ?_
  refine wl_nil <| wq_then <| wc_region ?_
  refine mw (vs e ((a.take k).map (fun y => y ^^^ b)).length f) ?_
  refine mw (v8 ((a.getD k 0).toNat : Int)) ?_
  refine mw (v8 ((b).toNat : Int)) ?_
  refine wl_xor8 (a.getD k 0) (b) wN rfl rfl (by kernel_rfl) ?_
  refine ltB ([((a.getD k 0) ^^^ (b))] : List UInt8) wN slTy_22 ?_
  intro Z aa ab p P
  have Q := (own_kp o p)
  refine apB ((a.take k).map (fun y => y ^^^ b)) ([((a.getD k 0) ^^^ (b))] : List UInt8) wN slTy_22 Q (Rd.of_own P) (z3 C H p) ?_
  intro q r ac I R ad S
  have T := (m.extk p).ext I (fun k hk => nT (Nat.le_refl d.heap.size) (own_lt o k hk).1)
  refine aw (vs q (((a.take k).map (fun y => y ^^^ b)) ++ ([((a.getD k 0) ^^^ (b))] : List UInt8)).length r) ?_
  refine wl_nil <| wq_blk_normal <| wq_then <| wc_region ?_
  refine ar (((k : Nat) : Int) + 1) wN ?_
  refine mw (vi (((k : Nat) : Int) + 1)) ?_
  refine wl_nil ?_
  have J : ((((a.take k).map (fun y => y ^^^ b)) ++ ([((a.getD k 0) ^^^ (b))] : List UInt8)) : List UInt8) = (a.take (k + 1)).map (fun y => y ^^^ b) := by exact map_next (z := 0) (by omega)
  refine wq_loopP (w0 := M) [(1, (v8 ((b).toNat : Int))), (4, (vs none 0 0)), (5, (.slice q ((a.take (k + 1)).map (fun y => y ^^^ b)).length r)), (9, (vs h a.length i)), (10, (vi (a.length : Int))), (11, (vi (((k + 1) : Nat) : Int)))] ?_ ?_ ?_
  · exact ⟨rfl, rfl, (cA (fun l : List UInt8 => Value.slice q l.length r) J), rfl, rfl, (cA (Value.int .i64) (show ((((k : Nat) : Int) + 1) : Int) = (((k + 1) : Nat) : Int) by omega)), trivial⟩
  · exact fun u => ⟨(k + 1), u, q, r, rfl, T, ((((Ch.refl (fun k => d.heap.size ≤ k) A).ext H (fun k hk => hk)).extk p).ext I (fun k hk => nT (Nat.le_refl d.heap.size) (own_lt o k hk).1)), (by omega), (J ▸ ⟨R, S⟩)⟩
  · show a.length - ((((k + 1) : Nat) : Int)).toNat < a.length - (((k : Nat) : Int)).toNat; omega

theorem ciHmac (e : World) (u : Value) (a : List UInt8) (V : R_22 e u a) (x : Value) (b : List UInt8) (W : R_22 e x b)  : Fn Tryz.prog 146 #[u, x] e (fun v y => Keep e y ∧ O_22 y e.heap.size v (hmac a b)) := by
 obtain ⟨i, j, rfl, A, X⟩ := V
 obtain ⟨f, g, rfl, B, Y⟩ := W
 refine fn_ofS (n := 27) [(vs i a.length j), (vs f b.length g)] Tryz.func146 rfl rfl ?_
 refine sr ?_
 refine aw (vs none 0 0) ?_
 refine n4 ?_
 refine jT1 [(0, (vs i a.length j)), (1, (vs f b.length g)), (4, (vs none 0 0))] (hmac a b = []) ?_ fun C => ?_
 ·intro Z D aa aA
  have ab := (Ch.base e).extk aa
  refine sr ?_
  refine aw (vs none 0 0) ?_
  refine n1 ?_
  refine rt (vs none 0 0) ?_
  refine ⟨ab.keep0, ?_⟩
  rw [Z]
  exact ⟨_, _, rfl, (by first | exact own_nil _ _ _ _ | exact OLv.nil _ _ _ _), (by simp), ⟨trivial, trivial⟩⟩
 refine mw (vs i a.length j) ?_
 refine ln wN slTy_22 A ?_
 refine pu (vb (decide (1048576 < (a.length : Int)))) wN ?_
 refine mw (vb (decide (1048576 < (a.length : Int)))) ?_
 rcases bt (decide (1048576 < (a.length : Int))) with d | d
 ·have aB := dT d
  iterate 3 refine sk d ?_
  refine pk (vb true) wN d ?_
  refine n2 ?_
  refine ct (Eq.refl true) ?_
  have ac : hmac a b = [] := by first | exact hmac_f (by omega) | exact hmac_g (by omega) (by omega) | exact hmac_i (by omega) (by omega)
  exact wj (C ac _ (Ch.refl _ _))
 have aC := dF d
 refine mv (vs f b.length g) (wS d) ?_
 refine ln (wS d) slTy_22 B ?_
 refine pu (vb (decide (1048512 < (b.length : Int)))) (wS d) ?_
 refine pf (vb (decide (1048512 < (b.length : Int)))) wN d ?_
 refine n2 ?_
 rcases bt (decide (1048512 < (b.length : Int))) with h | h
 ·have aD := dT h
  refine ct h ?_
  have ad : hmac a b = [] := by first | exact hmac_f (by omega) | exact hmac_g (by omega) (by omega) | exact hmac_i (by omega) (by omega)
  exact wj (C ad _ (Ch.refl _ _))
 have aE := dF h
 refine cf h ?_
 refine y1 ?_
 refine mw (vs i a.length j) ?_
 refine cl wN (ciBlockKey e _ a (mR_22 A X)) ?_
 rintro _ D ⟨E, ⟨o, p, rfl, F, G, aF⟩⟩
 have aG := blockKey_le a
 refine aw (vs o (blockKey a).length p) ?_
 refine nx ?_
 refine mw (vs o (blockKey a).length p) ?_
 refine cl wN (cimasked D _ (blockKey a) (mR_22 (Rd.of_own F) G) 92) ?_
 rintro _ ae ⟨q, ⟨H, I, rfl, af, ah, aH⟩⟩
 have ai := ((Ch.base e).extk E).extk q
 have aI := maskB_len (blockKey a) 92
 refine mw (vs o (blockKey a).length p) ?_
 have aj := (own_kp F q)
 refine cl wN (cimasked ae _ (blockKey a) (mR_22 (Rd.of_own aj) G) 54) ?_
 rintro _ aJ ⟨r, ⟨J, K, rfl, ak, am, aK⟩⟩
 have aL := maskB_len (blockKey a) 54
 refine mw (vs f b.length g) ?_
 refine wl_lit [(vs J (maskB (blockKey a) 54).length K), (vs f b.length g)] wN rfl rfl slTy_132 (m := 2) rfl (by simp only [maxLen]; omega) (fun w => by kernel_rfl) ?_
 intro aM an k M
 obtain ⟨aN, aO, rfl⟩ := own_form M
 have N := (ai.extk r).extk k
 have ao := (own_kp ak k)
 refine cl wN (cijoined an _ [(maskB (blockKey a) 54), b] (mR_132 (RLv.mk (L := LT_22) [((maskB (blockKey a) 54), [(J, K)]), (b, [(f, g)])] (Rd.of_own M) rfl ⟨⟨⟨(Rd.of_own ao), am⟩, trivial⟩, ⟨⟨⟨(B.from0 N), Y⟩, trivial⟩, trivial⟩⟩ (by first | decide | exact Nat.le_of_ble_eq_true rfl)) (by first | decide | exact Nat.le_of_ble_eq_true rfl)) (by first | omega | (rw [joinB_l2]; omega) | (rw [joinB_l2]; simp only [List.length_cons, List.length_nil, maskB_len]; omega) | (rw [joinB_l3]; simp only [List.length_cons, List.length_nil, maskB_len]; omega) | (simp only [joinB, List.flatten_cons, List.flatten_nil, List.length_append, List.length_cons, List.length_nil, maskB_len]; omega))) ?_
 rintro _ ap ⟨s, ⟨aP, aQ, rfl, aq, au, aR⟩⟩
 have aS := (show (joinB [(maskB (blockKey a) 54), b]).length = (maskB (blockKey a) 54).length + b.length by simp only [joinB, List.flatten_cons, List.flatten_nil, List.length_append, List.length_cons, List.length_nil]; omega)
 refine cl wN (ciSha ap _ (joinB [(maskB (blockKey a) 54), b]) (mR_22 (Rd.of_own aq) au)) ?_
 rintro _ aT ⟨t, ⟨O, P, rfl, av, ax, aU⟩⟩
 have ay := (N.extk s).extk t
 have aV := sha_le (joinB [(maskB (blockKey a) 54), b])
 refine wl_lit [(vs H (maskB (blockKey a) 92).length I), (vs O (sha (joinB [(maskB (blockKey a) 54), b])).length P)] wN rfl rfl slTy_132 (m := 2) rfl (by simp only [maxLen]; omega) (fun w => by kernel_rfl) ?_
 intro aW az l Q
 obtain ⟨aX, aY, rfl⟩ := own_form Q
 have a0 := (own_kp av l)
 have a1 := (own_kp (own_kp (own_kp (own_kp (own_kp af r) k) s) t) l)
 refine cl wN (cijoined az _ [(maskB (blockKey a) 92), (sha (joinB [(maskB (blockKey a) 54), b]))] (mR_132 (RLv.mk (L := LT_22) [((maskB (blockKey a) 92), [(H, I)]), ((sha (joinB [(maskB (blockKey a) 54), b])), [(O, P)])] (Rd.of_own Q) rfl ⟨⟨⟨(Rd.of_own a1), ah⟩, trivial⟩, ⟨⟨⟨(Rd.of_own a0), ax⟩, trivial⟩, trivial⟩⟩ (by first | decide | exact Nat.le_of_ble_eq_true rfl)) (by first | decide | exact Nat.le_of_ble_eq_true rfl)) (by first | omega | (rw [joinB_l2]; omega) | (rw [joinB_l2]; simp only [List.length_cons, List.length_nil, maskB_len]; omega) | (rw [joinB_l3]; simp only [List.length_cons, List.length_nil, maskB_len]; omega) | (simp only [joinB, List.flatten_cons, List.flatten_nil, List.length_append, List.length_cons, List.length_nil, maskB_len]; omega))) ?_
 rintro _ a2 ⟨R, ⟨aZ, ba, rfl, a3, a4, bb⟩⟩
 have bc := (show (joinB [(maskB (blockKey a) 92), (sha (joinB [(maskB (blockKey a) 54), b]))]).length = (maskB (blockKey a) 92).length + (sha (joinB [(maskB (blockKey a) 54), b])).length by simp only [joinB, List.flatten_cons, List.flatten_nil, List.length_append, List.length_cons, List.length_nil]; omega)
 refine cl wN (ciSha a2 _ (joinB [(maskB (blockKey a) 92), (sha (joinB [(maskB (blockKey a) 54), b]))]) (mR_22 (Rd.of_own a3) a4)) ?_
 rintro _ bd ⟨a5, ⟨S, T, rfl, a6, a7, be⟩⟩
 have a8 := ((ay.extk l).extk R).extk a5
 have bg := sha_le (joinB [(maskB (blockKey a) 92), (sha (joinB [(maskB (blockKey a) 54), b]))])
 refine aw (vs S (sha (joinB [(maskB (blockKey a) 92), (sha (joinB [(maskB (blockKey a) 54), b]))])).length T) ?_
 refine n3 ?_
 refine rt (vs S (sha (joinB [(maskB (blockKey a) 92), (sha (joinB [(maskB (blockKey a) 54), b]))])).length T) ?_
 refine ⟨a8.keep0, ?_⟩
 have a9 : hmac a b = (sha (joinB [(maskB (blockKey a) 92), (sha (joinB [(maskB (blockKey a) 54), b]))])) := by first | exact hmac_f (by omega) | exact hmac_g (by omega) (by omega) | exact hmac_i (by omega) (by omega)
 rw [a9]
 exact ⟨_, _, rfl, (own_lo a6 (z8 E q r k s t l R)), a7, ⟨trivial, trivial⟩⟩

theorem ciBlockOf (f : World) (p : Value) (d : List UInt8) (I : R_22 f p d) (q : Value) (a : List UInt8) (J : R_22 f q a) (b : Int)  : Fn Tryz.prog 160 #[p, q, (vi b)] f (fun v r => Keep f r ∧ O_22 r f.heap.size v (blkOf d a b)) := by
 obtain ⟨k, l, rfl, K, M⟩ := I
 obtain ⟨g, h, rfl, s, N⟩ := J
 refine fn_ofS (n := 23) [(vs k d.length l), (vs g a.length h), (vi b)] Tryz.func160 rfl rfl ?_
 refine sr ?_
 refine aw (vs none 0 0) ?_
 refine n4 ?_
 refine jT1 [(0, (vs k d.length l)), (1, (vs g a.length h)), (2, (vi b)), (6, (vs none 0 0))] (blkOf d a b = []) ?_ fun t => ?_
 ·intro O P Q ak
  have R := (Ch.base f).extk Q
  refine sr ?_
  refine aw (vs none 0 0) ?_
  refine n1 ?_
  refine rt (vs none 0 0) ?_
  refine ⟨R.keep0, ?_⟩
  rw [O]
  exact ⟨_, _, rfl, (by first | exact own_nil _ _ _ _ | exact OLv.nil _ _ _ _), (by simp), ⟨trivial, trivial⟩⟩
 refine mw (vi b) ?_
 refine cl wN (ciwithin f b 0 6) ?_
 rintro _ P ⟨j, rfl⟩
 have u := (Ch.base f).extk j
 refine pu (vb (!(i_within b 0 6))) wN ?_
 refine mw (vb (!(i_within b 0 6))) ?_
 rcases bf (i_within b 0 6) with e | e
 ·have am := impl_within_f e
  iterate 3 refine sk (cA not e) ?_
  refine pk (vb true) wN (cA not e) ?_
  refine n2 ?_
  refine ct (Eq.refl true) ?_
  have S : blkOf d a b = [] := by first | exact blkOf_f (by omega) | exact blkOf_t (by omega) (by omega) (by omega) (by simp [joinB])
  exact wj (t S _ j)
 have an := impl_within_t e
 refine mv (vs g a.length h) (wS (cA not e)) ?_
 refine ln (wS (cA not e)) slTy_22 (s.from0 u) ?_
 refine pu (vb (decide (100 < (a.length : Int)))) (wS (cA not e)) ?_
 refine pf (vb (decide (100 < (a.length : Int)))) wN (cA not e) ?_
 refine n2 ?_
 rcases bt (decide (100 < (a.length : Int))) with i | i
 ·have ao := dT i
  refine ct i ?_
  have T : blkOf d a b = [] := by first | exact blkOf_f (by omega) | exact blkOf_t (by omega) (by omega) (by omega) (by simp [joinB])
  exact wj (t T _ j)
 have ap := dF i
 refine cf i ?_
 refine y1 ?_
 refine mw (vs k d.length l) ?_
 refine ltB ([115] : List UInt8) wN slTy_22 ?_
 intro x y aq A V
 refine mw (vs g a.length h) ?_
 refine wl_lit [(vs x ([115] : List UInt8).length y), (vs g a.length h)] wN rfl rfl slTy_132 (m := 2) rfl (by simp only [maxLen]; omega) (fun w => by kernel_rfl) ?_
 intro au W o B
 obtain ⟨av, ax, rfl⟩ := own_form B
 have C := (u.extk A).extk o
 have X := (own_kp V o)
 refine cl wN (cijoined W _ [([115] : List UInt8), a] (mR_132 (RLv.mk (L := LT_22) [(([115] : List UInt8), [(x, y)]), (a, [(g, h)])] (Rd.of_own B) rfl ⟨⟨⟨(Rd.of_own X), (by simp)⟩, trivial⟩, ⟨⟨⟨(s.from0 C), N⟩, trivial⟩, trivial⟩⟩ (by first | decide | exact Nat.le_of_ble_eq_true rfl)) (by first | decide | exact Nat.le_of_ble_eq_true rfl)) (by first | omega | (rw [joinB_l2]; omega) | (rw [joinB_l2]; simp only [List.length_cons, List.length_nil, maskB_len]; omega) | (rw [joinB_l3]; simp only [List.length_cons, List.length_nil, maskB_len]; omega) | (simp only [joinB, List.flatten_cons, List.flatten_nil, List.length_append, List.length_cons, List.length_nil, maskB_len]; omega))) ?_
 rintro _ Y ⟨D, ⟨ay, az, rfl, Z, aa, a0⟩⟩
 have a1 := (show (joinB [([115] : List UInt8), a]).length = 1 + a.length by simp only [joinB, List.flatten_cons, List.flatten_nil, List.length_append, List.length_cons, List.length_nil]; omega)
 refine mw (vi b) ?_
 refine cl wN (ciPutN Y _ (joinB [([115] : List UInt8), a]) (mR_22 (Rd.of_own Z) aa) b 4 (by first | omega | (simp; done) | (simp; omega) | (simp only [List.length_append, List.length_cons, List.length_nil] at *; omega))) ?_
 rintro _ ab ⟨E, ⟨a2, a3, rfl, ac, ad, a4⟩⟩
 have F := (C.extk D).extk E
 have a5 := putN_len (joinB [([115] : List UInt8), a]) b 4
 refine cl wN (ciHmac ab _ d (mR_22 (K.from0 F) M) _ (putN (joinB [([115] : List UInt8), a]) b 4) (mR_22 (Rd.of_own ac) ad)) ?_
 rintro _ a6 ⟨ae, ⟨G, H, rfl, af, ah, a7⟩⟩
 have ai := F.extk ae
 have a8 := hmac_le d (putN (joinB [([115] : List UInt8), a]) b 4)
 refine aw (vs G (hmac d (putN (joinB [([115] : List UInt8), a]) b 4)).length H) ?_
 refine n3 ?_
 refine rt (vs G (hmac d (putN (joinB [([115] : List UInt8), a]) b 4)).length H) ?_
 refine ⟨ai.keep0, ?_⟩
 have aj : blkOf d a b = (hmac d (putN (joinB [([115] : List UInt8), a]) b 4)) := by first | exact blkOf_f (by omega) | exact blkOf_t (by omega) (by omega) (by omega) (by simp [joinB])
 rw [aj]
 exact ⟨_, _, rfl, (own_lo af (z5 j A o D E)), ah, ⟨trivial, trivial⟩⟩

theorem ciStream (e : World) (L : Value) (b : List UInt8) (X : R_22 e L b) (M : Value) (a : List UInt8) (Y : R_22 e M a) (d : Int)  : Fn Tryz.prog 152 #[L, M, (vi d)] e (fun v o => Keep e o ∧ O_22 o e.heap.size v (stream b a d)) := by
 obtain ⟨h, i, rfl, N, Z⟩ := X
 obtain ⟨j, m, rfl, O, aa⟩ := Y
 refine fn_ofS (n := 39) [(vs h b.length i), (vs j a.length m), (vi d)] Tryz.func152 rfl rfl ?_
 refine sr ?_
 refine aw (vs none 0 0) ?_
 refine n4 ?_
 refine jT1 [(0, (vs h b.length i)), (1, (vs j a.length m)), (2, (vi d)), (6, (vs none 0 0))] (stream b a d = []) ?_ fun E => ?_
 ·intro ab p ac a3
  have ad := (Ch.base e).extk ac
  refine sr ?_
  refine aw (vs none 0 0) ?_
  refine n1 ?_
  refine rt (vs none 0 0) ?_
  refine ⟨ad.keep0, ?_⟩
  rw [ab]
  exact ⟨_, _, rfl, (by first | exact own_nil _ _ _ _ | exact OLv.nil _ _ _ _), (by simp), ⟨trivial, trivial⟩⟩
 refine mw (vi d) ?_
 refine cl wN (ciwithin e d 0 200) ?_
 rintro _ p ⟨q, rfl⟩
 have F := (Ch.base e).extk q
 refine pu (vb (!(i_within d 0 200))) wN ?_
 refine mw (vb (!(i_within d 0 200))) ?_
 rcases bf (i_within d 0 200) with f | f
 ·have a4 := impl_within_f f
  iterate 3 refine sk (cA not f) ?_
  refine pk (vb true) wN (cA not f) ?_
  refine mw (vb true) ?_
  iterate 3 refine sk (Eq.refl true) ?_
  refine pk (vb true) wN (Eq.refl true) ?_
  refine n2 ?_
  refine ct (Eq.refl true) ?_
  have ae : stream b a d = [] := by first | exact stream_f (by omega) | exact stream_t (by omega) (by omega) (by omega) (by omega) (by omega) (by omega)
  exact wj (E ae _ q)
 have a5 := impl_within_t f
 refine mv (vs j a.length m) (wS (cA not f)) ?_
 refine ln (wS (cA not f)) slTy_22 (O.from0 F) ?_
 refine pu (vb (decide (100 < (a.length : Int)))) (wS (cA not f)) ?_
 refine pf (vb (decide (100 < (a.length : Int)))) wN (cA not f) ?_
 refine mw (vb (decide (100 < (a.length : Int)))) ?_
 rcases bt (decide (100 < (a.length : Int))) with g | g
 ·have a6 := dT g
  iterate 3 refine sk g ?_
  refine pk (vb true) wN g ?_
  refine n2 ?_
  refine ct (Eq.refl true) ?_
  have af : stream b a d = [] := by first | exact stream_f (by omega) | exact stream_t (by omega) (by omega) (by omega) (by omega) (by omega) (by omega)
  exact wj (E af _ q)
 have a7 := dF g
 refine mv (vs h b.length i) (wS g) ?_
 refine ln (wS g) slTy_22 (N.from0 F) ?_
 refine pu (vb (decide (1048576 < (b.length : Int)))) (wS g) ?_
 refine pf (vb (decide (1048576 < (b.length : Int)))) wN g ?_
 refine n2 ?_
 rcases bt (decide (1048576 < (b.length : Int))) with x | x
 ·have a8 := dT x
  refine ct x ?_
  have ah : stream b a d = [] := by first | exact stream_f (by omega) | exact stream_t (by omega) (by omega) (by omega) (by omega) (by omega) (by omega)
  exact wj (E ah _ q)
 have a9 := dF x
 refine cf x ?_
 refine y1 ?_
 refine wl_lit0 wN rfl rfl slTy_22 (fun w => by kernel_rfl) ?_
 intro G H I ai
 have aj := F.extk I
 refine aw (vs (some G) 0 0) ?_
 refine n4 ?_
 refine aw (vi 0) ?_
 refine wl_nil <| wq_then <| wc_block ?_
 have P : ([] : List UInt8) = strN b a 0 := by rfl
 have Q : 0 = (strN b a 0).length := by rw [← P]; try (first | rfl | simp only [List.length_set] | simp)
 refine wc_loopP [(0, (vs h b.length i)), (1, (vs j a.length m)), (2, (vi d)), (6, (vs none 0 0)), (7, (.slice (some G) (strN b a 0).length 0)), (8, (vi ((0 : Nat) : Int)))] ⟨rfl, rfl, rfl, rfl, rfl, (cA (Value.int .i64) (show (0 : Int) = ((0 : Nat) : Int) by omega)), trivial⟩ (fun e' o => ∃ (k : Nat) (R : Env) (r : Option Addr) (s : Nat), e' = pt R [(0, (vs h b.length i)), (1, (vs j a.length m)), (2, (vi d)), (6, (vs none 0 0)), (7, (.slice r (strN b a k).length s)), (8, (vi ((k : Nat) : Int)))] ∧ Ch (fun k => e.heap.size ≤ k) e o ∧ Ch (fun k => p.heap.size ≤ k) H o ∧ 32 * ((k : Nat) : Int) < d + 32 ∧ (World.ownsRow o p.heap.size 5 1 (.slice r (strN b a k).length s) (strN b a k).length ((strN b a k).map bV) ∧ (strN b a k).length ≤ 1073741824)) (fun e' _ => d.toNat - (lenOf (e' 7))) ?_ ?_
 ·exact fun u => ⟨0, u, (some G), 0, rfl, aj, (Ch.refl (fun k => p.heap.size ≤ k) H), (by omega), ⟨(by rw [← Q, ← P]; exact ai), (by rw [← Q]; first | exact (by simp) | (simp only [List.length_append, List.length_take, List.length_replicate]; omega))⟩⟩
 ·rintro _ J ⟨k, R, r, s, rfl, A, K, aA, ⟨t, ak⟩⟩
  have hsl := strN_or (key := b) (head := a) (by omega) (by omega) k
  have hsm := strN_or (key := b) (head := a) (by omega) (by omega) (k + 1)
  refine wc_seq <| sr ?_
  refine mw (vs r (strN b a k).length s) ?_
  refine ln wN slTy_22 (Rd.of_own t) ?_
  refine mw (vi d) ?_
  refine pu (vb (decide (((strN b a k).length : Int) < d))) wN ?_
  refine n2 ?_
  rcases bt (decide (((strN b a k).length : Int) < d)) with y | y
  ·have aB := dT y
   refine ct y ?_
   refine wc_skip <| wq_then <| wc_seq <| wc_block <| wc_region ?_
   refine mw (vs r (strN b a k).length s) ?_
   refine mw (vs h b.length i) ?_
   refine mw (vs j a.length m) ?_
   refine mw (vi ((k : Nat) : Int)) ?_
   refine cl wN (ciBlockOf J _ b (mR_22 (N.from0 A) Z) _ a (mR_22 (O.from0 A) aa) ((k : Nat) : Int)) ?_
   rintro _ am ⟨B, ⟨aC, aD, rfl, an, _⟩⟩
   have aE := blkOf_len b a ((k : Nat) : Int)
   have ao := (own_kp t B)
   refine apB (strN b a k) (blkOf b a ((k : Nat) : Int)) wN slTy_22 ao (Rd.of_own an) (z3 I K B) ?_
   intro C D aF S ap aG aq
   have au := (A.extk B).ext S (fun k hk => nT q.size (own_lt t k hk).1)
   refine aw (vs C ((strN b a k) ++ (blkOf b a ((k : Nat) : Int))).length D) ?_
   refine wl_nil <| wq_blk_normal <| wq_then <| wc_region ?_
   refine mw (vi ((k : Nat) : Int)) ?_
   refine ar (((k : Nat) : Int) + 1) wN ?_
   refine aw (vi (((k : Nat) : Int) + 1)) ?_
   refine wl_nil ?_
   have T : (((strN b a k) ++ (blkOf b a ((k : Nat) : Int))) : List UInt8) = strN b a (k + 1) := by rfl
   refine wq_loopP (w0 := J) [(0, (vs h b.length i)), (1, (vs j a.length m)), (2, (vi d)), (6, (vs none 0 0)), (7, (.slice C (strN b a (k + 1)).length D)), (8, (vi (((k + 1) : Nat) : Int)))] ?_ ?_ ?_
   · exact ⟨rfl, rfl, rfl, rfl, (cA (fun l : List UInt8 => Value.slice C l.length D) T), (cA (Value.int .i64) (show ((((k : Nat) : Int) + 1) : Int) = (((k + 1) : Nat) : Int) by omega)), trivial⟩
   · exact fun u => ⟨(k + 1), u, C, D, rfl, au, ((((Ch.refl (fun k => p.heap.size ≤ k) H).ext K (fun k hk => hk)).extk B).ext S (fun k hk => nT (Nat.le_refl p.heap.size) (own_lt t k hk).1)), (by omega), (T ▸ ⟨ap, aq⟩)⟩
   · show d.toNat - (strN b a (k + 1)).length < d.toNat - (strN b a k).length; omega
  have aH := dF y
  refine cf y ?_
  refine wc_exit <| wq_then_exit <| wq_then_exit <| wq_blk_exit <| wq_then <| sr ?_
  refine mw (vs r (strN b a k).length s) ?_
  refine mw (vi d) ?_
  refine slv ((strN b a k).take ((d).toNat)) 0 ((d).toNat) wN slTy_22 (Rd.of_own t) (by first | omega | (simp <;> omega)) (by first | omega | (simp <;> omega)) (by first | rfl | (simp; done) | (rw [List.take_of_length_le (by first | (simp; done) | (simp; omega))])) rfl rfl rfl rfl (.inl ⟨rfl, rfl⟩) (.inr ⟨_, _, _, rfl, rfl, by omega⟩) ?_
  have av : 0 ≤ ((d).toNat) := (by first | omega | (simp <;> omega))
  have ax : ((d).toNat) ≤ (strN b a k).length := (by first | omega | (simp <;> omega))
  refine cl wN (ciclone J _ ((strN b a k).take ((d).toNat)) (mR_22 (Rd.subV (x' := ((strN b a k).take ((d).toNat))) (Rd.of_own t) av ax (by first | rfl | (simp; done) | (rw [List.take_of_length_le (by first | (simp; done) | (simp; omega))]))) (nT (by simp only [List.length_take, List.length_drop]; omega) ak))) ?_
  rintro _ am ⟨ay, ⟨V, W, rfl, az, a0, aI⟩⟩
  have a1 := A.extk ay
  refine aw (vs V (((strN b a k).take ((d).toNat))).length W) ?_
  refine n3 ?_
  refine rt (vs V (((strN b a k).take ((d).toNat))).length W) ?_
  refine ⟨a1.keep0, ?_⟩
  have a2 : stream b a d = (((strN b a k).take ((d).toNat))) := by first | exact stream_f (by omega) | exact stream_t (by omega) (by omega) (by omega) (by omega) (by omega) (by omega)
  rw [a2]
  exact ⟨_, _, rfl, (own_lo az (z3 q I K)), a0, ⟨trivial, trivial⟩⟩

theorem ciMix (e : World) (X : Value) (d : List UInt8) (ap : R_22 e X d) (Y : Value) (b : List UInt8) (aq : R_22 e Y b) (Z : Value) (a : List UInt8) (au : R_22 e Z a)  : Fn Tryz.prog 130 #[X, Y, Z] e (fun v p => Keep e p ∧ O_22 p e.heap.size v (mixB d b a)) := by
 obtain ⟨B, C, rfl, aa, av⟩ := ap
 obtain ⟨D, E, rfl, ab, ax⟩ := aq
 obtain ⟨i, j, rfl, F, aJ⟩ := au
 refine fn_ofS (n := 46) [(vs B d.length C), (vs D b.length E), (vs i a.length j)] Tryz.func130 rfl rfl ?_
 refine sr ?_
 refine aw (vs none 0 0) ?_
 refine n4 ?_
 refine jT1 [(0, (vs B d.length C)), (1, (vs D b.length E)), (2, (vs i a.length j)), (6, (vs none 0 0))] (mixB d b a = []) ?_ fun M => ?_
 ·intro ay G az aK
  have a0 := (Ch.base e).extk az
  refine sr ?_
  refine aw (vs none 0 0) ?_
  refine n1 ?_
  refine rt (vs none 0 0) ?_
  refine ⟨a0.keep0, ?_⟩
  rw [ay]
  exact ⟨_, _, rfl, (by first | exact own_nil _ _ _ _ | exact OLv.nil _ _ _ _), (by simp), ⟨trivial, trivial⟩⟩
 refine mw (vs i a.length j) ?_
 refine ln wN slTy_22 F ?_
 refine pu (vb (decide (200 < (a.length : Int)))) wN ?_
 refine mw (vb (decide (200 < (a.length : Int)))) ?_
 rcases bt (decide (200 < (a.length : Int))) with f | f
 ·have aL := dT f
  iterate 3 refine sk f ?_
  refine pk (vb true) wN f ?_
  refine mw (vb true) ?_
  iterate 3 refine sk (Eq.refl true) ?_
  refine pk (vb true) wN (Eq.refl true) ?_
  refine n2 ?_
  refine ct (Eq.refl true) ?_
  have a1 : mixB d b a = [] := by first | exact mixB_f (by omega) | exact mixB_t (by omega) (by omega) (by omega) (by omega)
  exact wj (M a1 _ (Ch.refl _ _))
 have aM := dF f
 refine mv (vs D b.length E) (wS f) ?_
 refine ln (wS f) slTy_22 ab ?_
 refine pu (vb (decide (100 < (b.length : Int)))) (wS f) ?_
 refine pf (vb (decide (100 < (b.length : Int)))) wN f ?_
 refine mw (vb (decide (100 < (b.length : Int)))) ?_
 rcases bt (decide (100 < (b.length : Int))) with h | h
 ·have aN := dT h
  iterate 3 refine sk h ?_
  refine pk (vb true) wN h ?_
  refine n2 ?_
  refine ct (Eq.refl true) ?_
  have a2 : mixB d b a = [] := by first | exact mixB_f (by omega) | exact mixB_t (by omega) (by omega) (by omega) (by omega)
  exact wj (M a2 _ (Ch.refl _ _))
 have aO := dF h
 refine mv (vs B d.length C) (wS h) ?_
 refine ln (wS h) slTy_22 aa ?_
 refine pu (vb (decide (1048576 < (d.length : Int)))) (wS h) ?_
 refine pf (vb (decide (1048576 < (d.length : Int)))) wN h ?_
 refine n2 ?_
 rcases bt (decide (1048576 < (d.length : Int))) with t | t
 ·have aP := dT t
  refine ct t ?_
  have a3 : mixB d b a = [] := by first | exact mixB_f (by omega) | exact mixB_t (by omega) (by omega) (by omega) (by omega)
  exact wj (M a3 _ (Ch.refl _ _))
 have aQ := dF t
 refine cf t ?_
 refine y1 ?_
 refine wl_lit0 wN rfl rfl slTy_22 (fun w => by kernel_rfl) ?_
 intro N G ac ad
 have H := (Ch.base e).extk ac
 refine aw (vs (some N) 0 0) ?_
 refine n4 ?_
 refine mw (vs B d.length C) ?_
 refine mw (vs D b.length E) ?_
 refine mw (vs i a.length j) ?_
 refine ln wN slTy_22 (F.from0 H) ?_
 refine cl wN (ciStream G _ d (mR_22 (aa.from0 H) av) _ b (mR_22 (ab.from0 H) ax) (a.length : Int)) ?_
 rintro _ O ⟨P, ⟨Q, R, rfl, S, a4, aR⟩⟩
 have a5 := H.extk P
 have aS := stream_len d b (a.length : Int)
 refine ln wN slTy_22 (Rd.of_own S) ?_
 refine mw (vi 0) ?_
 refine wl_nil <| wq_then <| wc_block ?_
 have ae : ((stream d b (a.length : Int)) : List UInt8) = (stream d b (a.length : Int)) := by rfl
 have a6 := (own_kp ad P)
 have af : ([] : List UInt8) = zipX (a.take 0) ((stream d b (a.length : Int)).take 0) := by rfl
 have ah : 0 = (zipX (a.take 0) ((stream d b (a.length : Int)).take 0)).length := by rw [← af]; try (first | rfl | simp only [List.length_set] | simp)
 refine wc_loopP [(2, (vs i a.length j)), (6, (vs none 0 0)), (7, (.slice (some N) (zipX (a.take 0) ((stream d b (a.length : Int)).take 0)).length 0)), (28, (.slice Q ((stream d b (a.length : Int))).length R)), (29, (vi ((stream d b (a.length : Int)).length : Int))), (30, (vi ((0 : Nat) : Int)))] ⟨rfl, rfl, rfl, (cA (fun l : List UInt8 => Value.slice Q l.length R) ae), rfl, (cA (Value.int .i64) (show (0 : Int) = ((0 : Nat) : Int) by omega)), trivial⟩ (fun e' p => ∃ (k : Nat) (ai : Env) (q : Option Addr) (s : Nat) (o : Option Addr) (r : Nat), e' = pt ai [(2, (vs i a.length j)), (6, (vs none 0 0)), (7, (.slice o (zipX (a.take k) ((stream d b (a.length : Int)).take k)).length r)), (28, (.slice q ((stream d b (a.length : Int))).length s)), (29, (vi ((stream d b (a.length : Int)).length : Int))), (30, (vi ((k : Nat) : Int)))] ∧ Ch (fun k => e.heap.size ≤ k) e p ∧ Ch (fun k => e.heap.size ≤ k) O p ∧ k ≤ a.length ∧ (World.ownsRow p G.heap.size 5 1 (.slice q ((stream d b (a.length : Int))).length s) ((stream d b (a.length : Int))).length (((stream d b (a.length : Int))).map bV) ∧ ((stream d b (a.length : Int))).length ≤ 1073741824) ∧ (World.ownsRow p e.heap.size 5 1 (.slice o (zipX (a.take k) ((stream d b (a.length : Int)).take k)).length r) (zipX (a.take k) ((stream d b (a.length : Int)).take k)).length ((zipX (a.take k) ((stream d b (a.length : Int)).take k)).map bV) ∧ (zipX (a.take k) ((stream d b (a.length : Int)).take k)).length ≤ 1073741824) ∧ NeS o q) (fun e' _ => a.length - ((intOf (e' 30))).toNat) ?_ ?_
 ·exact fun u => ⟨0, u, Q, R, (some N), 0, rfl, a5, (Ch.refl (fun k => e.heap.size ≤ k) O), (by omega), (ae ▸ ⟨S, a4⟩), ⟨(by rw [← ah, ← af]; exact a6), (by rw [← ah]; first | exact (by simp) | (simp only [List.length_append, List.length_take, List.length_replicate]; omega))⟩, (NeS.lt ad S (Nat.le_refl G.heap.size))⟩
 ·rintro _ a7 ⟨k, ai, q, s, o, r, rfl, I, aj, aT, ⟨T, a8⟩, ⟨J, a9⟩, ak⟩
  have hzl := zipX_le a (stream d b (a.length : Int)) k
  have hsl := stream_len d b (a.length : Int)
  refine sr ?_
  refine pu (vb (decide (((k : Nat) : Int) < ((stream d b (a.length : Int)).length : Int)))) wN ?_
  refine wl_nil <| wq_then <| wc_seq ?_
  rcases bf (decide (((k : Nat) : Int) < ((stream d b (a.length : Int)).length : Int))) with y | y
  ·have aU := dF y
   refine cf y ?_
   refine wc_exit <| wq_then_exit <| wq_then_exit <| wq_blk_exit <| wq_then <| sr ?_
   refine mw (vs o (zipX (a.take k) ((stream d b (a.length : Int)).take k)).length r) ?_
   refine aw (vs o (zipX (a.take k) ((stream d b (a.length : Int)).take k)).length r) ?_
   refine n3 ?_
   refine rt (vs o (zipX (a.take k) ((stream d b (a.length : Int)).take k)).length r) ?_
   refine ⟨I.keep0, ?_⟩
   have aA : mixB d b a = (zipX (a.take k) ((stream d b (a.length : Int)).take k)) := by first | exact mixB_f (by omega) | exact mixB_t (by omega) (by omega) (by omega) (by omega)
   rw [aA]
   exact ⟨_, _, rfl, J, a9, ⟨trivial, trivial⟩⟩
  have aV := dT y
  refine ct y ?_
  refine wc_skip <| wq_then <| wc_seq <| wc_block <| sr ?_
  refine mw (vi ((k : Nat) : Int)) ?_
  refine ix wN ((k : Nat) : Int) slTy_22 (Rd.of_own T) ?_
  refine eb (x := (stream d b (a.length : Int))) k wN isAgg_5 (Rd.of_own T) ?_
  refine aw (vi ((k : Nat) : Int)) ?_
  refine aw (v8 (((stream d b (a.length : Int)).getD k 0).toNat : Int)) ?_
  refine wl_nil <| wq_then <| wc_region ?_
  refine mw (vs o (zipX (a.take k) ((stream d b (a.length : Int)).take k)).length r) ?_
  refine mw (v8 (((stream d b (a.length : Int)).getD k 0).toNat : Int)) ?_
  refine mw (vs i a.length j) ?_
  refine mw (vi ((k : Nat) : Int)) ?_
  refine ix wN ((k : Nat) : Int) slTy_22 (F.from0 I) ?_
  refine eb (x := a) k wN isAgg_5 (F.from0 I) ?_
  refine wl_xor8 ((stream d b (a.length : Int)).getD k 0) (a.getD k 0) wN rfl rfl (by kernel_rfl) ?_
  refine ltB ([(((stream d b (a.length : Int)).getD k 0) ^^^ (a.getD k 0))] : List UInt8) wN slTy_22 ?_
  intro aW aX aY A aB
  have aC := (own_kp J A)
  refine apB (zipX (a.take k) ((stream d b (a.length : Int)).take k)) ([(((stream d b (a.length : Int)).getD k 0) ^^^ (a.getD k 0))] : List UInt8) wN slTy_22 aC (Rd.of_own aB) (z4 ac P aj A) ?_
  intro K L aZ V aD aE aF
  have aG := (I.extk A).ext V (fun k hk => nT (Nat.le_refl e.heap.size) (own_lt J k hk).1)
  have am := (own_kp T A)
  have aH := NeS.app ak aE am
  refine aw (vs K ((zipX (a.take k) ((stream d b (a.length : Int)).take k)) ++ ([(((stream d b (a.length : Int)).getD k 0) ^^^ (a.getD k 0))] : List UInt8)).length L) ?_
  refine wl_nil <| wq_blk_normal <| wq_then <| wc_region ?_
  refine ar (((k : Nat) : Int) + 1) wN ?_
  refine mw (vi (((k : Nat) : Int) + 1)) ?_
  refine wl_nil ?_
  have aI := (own_ch am V (fun g hg hlt hk => NeS.no (NeS.symm ak) hg hk))
  have an : ((stream d b (a.length : Int)) : List UInt8) = (stream d b (a.length : Int)) := by rfl
  have W : ((stream d b (a.length : Int))).length = ((stream d b (a.length : Int))).length := by rw [← an]; try (first | rfl | simp only [List.length_set] | simp)
  have ao : (((zipX (a.take k) ((stream d b (a.length : Int)).take k)) ++ ([(((stream d b (a.length : Int)).getD k 0) ^^^ (a.getD k 0))] : List UInt8)) : List UInt8) = zipX (a.take (k + 1)) ((stream d b (a.length : Int)).take (k + 1)) := by exact zipX_next' (by omega) (by omega)
  refine wq_loopP (w0 := a7) [(2, (vs i a.length j)), (6, (vs none 0 0)), (7, (.slice K (zipX (a.take (k + 1)) ((stream d b (a.length : Int)).take (k + 1))).length L)), (28, (.slice q ((stream d b (a.length : Int))).length s)), (29, (vi ((stream d b (a.length : Int)).length : Int))), (30, (vi (((k + 1) : Nat) : Int)))] ?_ ?_ ?_
  · exact ⟨rfl, rfl, (cA (fun l : List UInt8 => Value.slice K l.length L) ao), (cA (fun m : Nat => Value.slice q m s) W), rfl, (cA (Value.int .i64) (show ((((k : Nat) : Int) + 1) : Int) = (((k + 1) : Nat) : Int) by omega)), trivial⟩
  · exact fun u => ⟨(k + 1), u, q, s, K, L, rfl, aG, ((((Ch.refl (fun k => e.heap.size ≤ k) O).ext aj (fun k hk => hk)).extk A).ext V (fun k hk => nT (Nat.le_refl e.heap.size) (own_lt J k hk).1)), (by omega), ⟨(by rw [← W, ← an]; exact aI), (by rw [← W]; first | exact a8 | (simp only [List.length_append, List.length_take, List.length_replicate]; omega))⟩, (ao ▸ ⟨aD, aF⟩), aH⟩
  · show a.length - ((((k + 1) : Nat) : Int)).toNat < a.length - (((k : Nat) : Int)).toNat; omega

def i_TagInput (b : Int) (a : PFrame) : (List UInt8) := bif (i_isRole b) then (bif (i_Sealed a.Kind) then (bif (i_FrameOk a) then ((joinB [([116] : List UInt8), (headOf b a.Sn a.Epoch a.Seq), ([(by8 a.Kind)] : List UInt8), a.Body])) else ([])) else ([])) else ([])
theorem ciTagInput (x : World) (b : Int) (V : Value) (a : PFrame) (ax : R_37 x V a)  : Fn Tryz.prog 110 #[(vi b), V] x (fun v H => Keep x H ∧ O_22 H x.heap.size v (i_TagInput b a)) := by
 obtain ⟨f, M, y, A, N, O, P, Q, p, q, R, S, rfl, ay, az, W, X, a0, a1, a2, a3, Y, Z, a4, a5⟩ := ax
 refine fn_ofS (n := 36) [(vi b), (va (L_37 a f M y A N O P Q p q R S))] Tryz.func110 rfl rfl ?_
 refine sr ?_
 refine bx (L_37 a f M y A N O P Q p q R S) wN ?_
 intro i I bn bo aa a6
 have ab := (Ch.base x).extk aa
 refine aw (vs none 0 0) ?_
 refine n4 ?_
 refine jT1 [(0, (vi b)), (3, (vp i 0)), (4, (vs none 0 0))] (i_TagInput b a = []) ?_ fun T => ?_
 ·intro a7 ac a8 bp
  have a9 := ab.extk a8
  refine sr ?_
  refine aw (vs none 0 0) ?_
  refine n1 ?_
  refine rt (vs none 0 0) ?_
  refine ⟨a9.keep0, ?_⟩
  rw [a7]
  exact ⟨_, _, rfl, (by first | exact own_nil _ _ _ _ | exact OLv.nil _ _ _ _), (by simp), ⟨trivial, trivial⟩⟩
 refine mw (vi b) ?_
 refine cl wN (ciisRole I b) ?_
 rintro _ ac ⟨s, rfl⟩
 refine pu (vb (!(i_isRole b))) wN ?_
 refine mw (vb (!(i_isRole b))) ?_
 rcases bf (i_isRole b) with g | g
 ·have bq := isRole_f g
  iterate 4 refine sk (cA not g) ?_
  refine pk (vb true) wN (cA not g) ?_
  refine mw (vb true) ?_
  iterate 3 refine sk (Eq.refl true) ?_
  refine pk (vb true) wN (Eq.refl true) ?_
  refine n2 ?_
  refine ct (Eq.refl true) ?_
  have aA : i_TagInput b a = [] := by simp only [i_TagInput, g, cond_true, cond_false]
  exact wj (T aA _ s)
 have br := isRole_t g
 refine pu (vp i 0) (wS (cA not g)) ?_
 have ad := (a6.kp s)
 refine ld (vi a.Kind) (wS (cA not g)) isAgg_3 ad ?_
 refine cl (wS (cA not g)) (ciSealed ac a.Kind) ?_
 rintro _ aB ⟨B, rfl⟩
 have r := (ab.extk s).extk B
 refine pu (vb (!(i_Sealed a.Kind))) (wS (cA not g)) ?_
 refine pf (vb (!(i_Sealed a.Kind))) wN (cA not g) ?_
 refine mw (vb (!(i_Sealed a.Kind))) ?_
 rcases bf (i_Sealed a.Kind) with l | l
 ·iterate 3 refine sk (cA not l) ?_
  refine pk (vb true) wN (cA not l) ?_
  refine n2 ?_
  refine ct (Eq.refl true) ?_
  have aC : i_TagInput b a = [] := by simp only [i_TagInput, g, l, cond_true, cond_false]
  exact wj (T aC _ (s.trans B))
 have t := (ad.kp B)
 refine lN (L_37 a f M y A N O P Q p q R S) (wS (cA not l)) isAgg_37 sizeOf_37 t ?_
 refine cl (wS (cA not l)) (ciFrameOk aB _ a (mR_37 (ay.from0 r) az (W.from0 r) X (a0.from0 r) a1 (a2.from0 r) a3 (Y.from0 r) Z (a4.from0 r) a5)) ?_
 rintro _ J ⟨o, rfl⟩
 have ae := r.extk o
 refine pu (vb (!(i_FrameOk a))) (wS (cA not l)) ?_
 refine pf (vb (!(i_FrameOk a))) wN (cA not l) ?_
 refine n2 ?_
 rcases bf (i_FrameOk a) with u | u
 ·refine ct (cA not u) ?_
  have aD : i_TagInput b a = [] := by simp only [i_TagInput, g, l, u, cond_true, cond_false]
  exact wj (T aD _ ((s.trans B).trans o))
 have bu := frameOk_i u
 refine cf (cA not u) ?_
 refine wc_skip <| wq_then <| wc_seq ?_
 refine wc_drawT ([(19, [], [], (fun _ v w => ∃ (f : Option Addr) (j : Nat), v = .slice f ([116] : List UInt8).length j ∧ w.ownsRow J.heap.size 5 1 (.slice f ([116] : List UInt8).length j) ([116] : List UInt8).length (([116] : List UInt8).map bV) ∧ ([116] : List UInt8).length ≤ 1073741824 ∧ Aps [(f, j)])), (20, [], [], (fun _ v _ => v = (vi b))), (21, [], [], (fun _ v _ => v = (vp i 3))), (22, [], [2], (fun _ v _ => v = (vs y a.Sn.length A))), (23, [], [], (fun _ v _ => v = (vp i 7))), (24, [], [4], (fun _ v _ => v = (vi a.Epoch))), (25, [], [], (fun _ v _ => v = (vp i 8))), (26, [], [6], (fun _ v _ => v = (vi a.Seq))), (27, [], [1, 2, 3, 4, 5, 6, 7], (fun _ v w => ∃ (f : Option Addr) (j : Nat), v = .slice f (headOf b a.Sn a.Epoch a.Seq).length j ∧ w.ownsRow (J.heap.size) 5 1 (.slice f (headOf b a.Sn a.Epoch a.Seq).length j) (headOf b a.Sn a.Epoch a.Seq).length ((headOf b a.Sn a.Epoch a.Seq).map bV) ∧ (headOf b a.Sn a.Epoch a.Seq).length ≤ 1073741824 ∧ Aps [(f, j)])), (28, [], [], (fun _ v _ => v = (vp i 0))), (29, [], [9], (fun _ v _ => v = (vi a.Kind))), (30, [], [9, 10], (fun _ v _ => v = (v8 ((by8 a.Kind).toNat : Int)))), (31, [], [9, 10, 11], (fun _ v w => ∃ (f : Option Addr) (j : Nat), v = .slice f ([(by8 a.Kind)] : List UInt8).length j ∧ w.ownsRow J.heap.size 5 1 (.slice f ([(by8 a.Kind)] : List UInt8).length j) ([(by8 a.Kind)] : List UInt8).length (([(by8 a.Kind)] : List UInt8).map bV) ∧ ([(by8 a.Kind)] : List UInt8).length ≤ 1073741824 ∧ Aps [(f, j)])), (32, [], [], (fun _ v _ => v = (vp i 9))), (33, [], [13], (fun _ v _ => v = (vs p a.Body.length q)))] : GV) (fun _ H => Keep J H) [] mixed rfl (by kernel_rfl) (by kernel_rfl) ?_ (fun _ _ h => h) (fun _ _ _ _ h _ k => h.trans k) trivial ?_ ?_ ?_
 ·exact ⟨(fun e v w I h hk => by obtain ⟨C, D, he, E, F, hap⟩ := h; exact ⟨C, D, he, own_kp E hk, F, hap⟩), hE, ⟨hV, hE, ⟨hV, hE, ⟨hV, hE, ⟨hV, hE, ⟨hV, hE, ⟨hV, hE, ⟨hV, hE, ⟨(fun e v w I h hk => by obtain ⟨C, D, he, E, F, hap⟩ := h; exact ⟨C, D, he, own_kp E hk, F, hap⟩), hE, ⟨hV, hE, ⟨hV, hE, ⟨hV, hE, ⟨(fun e v w I h hk => by obtain ⟨C, D, he, E, F, hap⟩ := h; exact ⟨C, D, he, own_kp E hk, F, hap⟩), hE, ⟨hV, hE, ⟨hV, hE, trivial⟩⟩⟩⟩⟩⟩⟩⟩⟩⟩⟩⟩⟩⟩⟩
 ·exact trivial
 ·refine ⟨?_, ⟨?_, ⟨?_, ⟨?_, ⟨?_, ⟨?_, ⟨?_, ⟨?_, ⟨?_, ⟨?_, ⟨?_, ⟨?_, ⟨?_, ⟨?_, ⟨?_, trivial⟩⟩⟩⟩⟩⟩⟩⟩⟩⟩⟩⟩⟩⟩⟩
  ·intro _ d aE _
   rintro _ _ _ _ _ _ _ _ _ _ _ _ _ _ _
   show WL _ _ _ _ _ _ _
   refine ltB ([116] : List UInt8) wN slTy_22 ?_
   intro bv bw K aF aG
   exact wl_finT aF ⟨_, _, rfl, (own_lo aG aE.size), (by simp), ⟨trivial, trivial⟩⟩
  ·intro _ d bz _
   rintro _ _ _ _ _ _ _ _ _ _ _ _ _ _ _
   show WL _ _ _ _ _ _ _
   refine mw (vi b) ?_
   exact f1
  ·intro _ d b0 _
   rintro _ _ _ _ _ _ _ _ _ _ _ _ _ _ _
   show WL _ _ _ _ _ _ _
   refine pu (vp i 3) wN ?_
   exact f1
  ·intro _ d aH _
   rintro _ _ _ rfl _ _ _ _ _ _ _ _ _ _ _ _
   show WL _ _ _ _ _ _ _
   have aI := ((t.kp o).kp aH)
   refine ld (vs y a.Sn.length A) wN isAgg_22 aI ?_
   exact f1
  ·intro _ d b1 _
   rintro _ _ _ _ _ _ _ _ _ _ _ _ _ _ _
   show WL _ _ _ _ _ _ _
   refine pu (vp i 7) wN ?_
   exact f1
  ·intro _ d aJ _
   rintro _ _ _ _ _ rfl _ _ _ _ _ _ _ _ _ _
   show WL _ _ _ _ _ _ _
   have aK := ((t.kp o).kp aJ)
   refine ld (vi a.Epoch) wN isAgg_3 aK ?_
   exact f1
  ·intro _ d b2 _
   rintro _ _ _ _ _ _ _ _ _ _ _ _ _ _ _
   show WL _ _ _ _ _ _ _
   refine pu (vp i 8) wN ?_
   exact f1
  ·intro _ d aL _
   rintro _ _ _ _ _ _ _ rfl _ _ _ _ _ _ _ _
   show WL _ _ _ _ _ _ _
   have aM := ((t.kp o).kp aL)
   refine ld (vi a.Seq) wN isAgg_3 aM ?_
   exact f1
  ·intro _ d af _
   have aN := ae.extk af
   rintro _ _ rfl _ rfl _ rfl _ rfl _ rfl _ rfl _ rfl _ _ _ _ _ _ _
   show WL _ _ _ _ _ _ _
   refine cl wN (ciHeadOf d b _ a.Sn (mR_22 (W.from0 aN) X) a.Epoch a.Seq) ?_
   rintro _ K ⟨aO, ⟨b3, b4, rfl, aP, aQ, aR⟩⟩
   have b5 := headOf_len b a.Sn a.Epoch a.Seq
   exact wl_finT aO ⟨_, _, rfl, (own_lo aP af.size), aQ, aR⟩
  ·intro _ d b6 _
   rintro _ _ _ _ _ _ _ _ _ _ _ _ _ _ _
   show WL _ _ _ _ _ _ _
   refine pu (vp i 0) wN ?_
   exact f1
  ·intro _ d aS _
   rintro _ _ _ _ _ _ _ _ _ _ rfl _ _ _ _ _
   show WL _ _ _ _ _ _ _
   have aT := ((t.kp o).kp aS)
   refine ld (vi a.Kind) wN isAgg_3 aT ?_
   exact f1
  ·intro _ d b7 _
   rintro _ _ _ _ _ _ _ _ _ _ rfl _ rfl _ _ _ _
   show WL _ _ _ _ _ _ _
   refine wl_conv8 a.Kind wN rfl rfl (by kernel_rfl) ?_
   exact f1
  ·intro _ d aU _
   rintro _ _ _ _ _ _ _ _ _ _ rfl _ rfl _ rfl _ _ _
   show WL _ _ _ _ _ _ _
   refine ltB ([(by8 a.Kind)] : List UInt8) wN slTy_22 ?_
   intro b8 b9 K aV aW
   exact wl_finT aV ⟨_, _, rfl, (own_lo aW aU.size), (by simp), ⟨trivial, trivial⟩⟩
  ·intro _ d bA _
   rintro _ _ _ _ _ _ _ _ _ _ _ _ _ _ _
   show WL _ _ _ _ _ _ _
   refine pu (vp i 9) wN ?_
   exact f1
  ·intro _ d aX _
   rintro _ _ _ _ _ _ _ _ _ _ _ _ _ _ rfl _
   show WL _ _ _ _ _ _ _
   have aY := ((t.kp o).kp aX)
   refine ld (vs p a.Body.length q) wN isAgg_22 aY ?_
   exact f1
 ·intro _ d ah
  rintro _ ⟨ai, aj, rfl, aZ, ba, -⟩ _ rfl _ rfl _ rfl _ rfl _ rfl _ rfl _ rfl _ ⟨ak, am, rfl, bb, bc, bB⟩
  have bC := headOf_len b a.Sn a.Epoch a.Seq
  rintro _ rfl _ rfl _ rfl _ ⟨an, ao, rfl, bd, be, -⟩ _ rfl _ rfl
  show WL _ _ _ _ _ _ _
  refine wl_lit [(vs ai ([116] : List UInt8).length aj), (vs ak (headOf b a.Sn a.Epoch a.Seq).length am), (vs an ([(by8 a.Kind)] : List UInt8).length ao), (vs p a.Body.length q)] wN rfl rfl slTy_132 (m := 4) rfl (by simp only [maxLen]; omega) (fun w => by kernel_rfl) ?_
  intro bD K G ap
  obtain ⟨bE, bF, rfl⟩ := own_form ap
  have aq := (ae.extk ah).extk G
  have bg := (own_kp bd G)
  have bh := (own_kp bb G)
  have bi := (own_kp aZ G)
  refine cl wN (cijoined K _ [([116] : List UInt8), (headOf b a.Sn a.Epoch a.Seq), ([(by8 a.Kind)] : List UInt8), a.Body] (mR_132 (RLv.mk (L := LT_22) [(([116] : List UInt8), [(ai, aj)]), ((headOf b a.Sn a.Epoch a.Seq), [(ak, am)]), (([(by8 a.Kind)] : List UInt8), [(an, ao)]), (a.Body, [(p, q)])] (Rd.of_own ap) rfl ⟨⟨⟨(Rd.of_own bi), ba⟩, trivial⟩, ⟨⟨⟨(Rd.of_own bh), bc⟩, trivial⟩, ⟨⟨⟨(Rd.of_own bg), be⟩, trivial⟩, ⟨⟨⟨(Y.from0 aq), Z⟩, trivial⟩, trivial⟩⟩⟩⟩ (by first | decide | exact Nat.le_of_ble_eq_true rfl)) (by first | decide | exact Nat.le_of_ble_eq_true rfl)) (by first | omega | (rw [joinB_l2]; omega) | (rw [joinB_l2]; simp only [List.length_cons, List.length_nil, maskB_len]; omega) | (rw [joinB_l3]; simp only [List.length_cons, List.length_nil, maskB_len]; omega) | (simp only [joinB, List.flatten_cons, List.flatten_nil, List.length_append, List.length_cons, List.length_nil, maskB_len]; omega))) ?_
  rintro _ bG ⟨bj, ⟨au, av, rfl, bk, bl, bH⟩⟩
  have bm := aq.extk bj
  have bI := (show (joinB [([116] : List UInt8), (headOf b a.Sn a.Epoch a.Seq), ([(by8 a.Kind)] : List UInt8), a.Body]).length = 1 + (headOf b a.Sn a.Epoch a.Seq).length + 1 + a.Body.length by simp only [joinB, List.flatten_cons, List.flatten_nil, List.length_append, List.length_cons, List.length_nil]; omega)
  refine aw (vs au (joinB [([116] : List UInt8), (headOf b a.Sn a.Epoch a.Seq), ([(by8 a.Kind)] : List UInt8), a.Body]).length av) ?_
  refine n3 ?_
  refine rt (vs au (joinB [([116] : List UInt8), (headOf b a.Sn a.Epoch a.Seq), ([(by8 a.Kind)] : List UInt8), a.Body]).length av) ?_
  refine ⟨bm.keep0, ?_⟩
  simp only [i_TagInput, g, l, u, cond_true, cond_false]
  exact ⟨_, _, rfl, (own_lo bk (z6 aa s B o ah G)), bl, ⟨trivial, trivial⟩⟩

theorem ciTag (d : World) (i : Value) (a : List UInt8) (u : R_22 d i a) (j : Value) (b : List UInt8) (w : R_22 d j b)  : Fn Tryz.prog 132 #[i, j] d (fun v k => Keep d k ∧ O_22 k d.heap.size v (tagP a b)) := by
 obtain ⟨l, m, rfl, x, y⟩ := u
 obtain ⟨o, p, rfl, A, B⟩ := w
 refine fn_ofS (n := 15) [(vs l a.length m), (vs o b.length p)] Tryz.func132 rfl rfl ?_
 refine sr ?_
 refine aw (vs none 0 0) ?_
 refine nx ?_
 refine mw (vs l a.length m) ?_
 refine mw (vs o b.length p) ?_
 refine cl wN (ciHmac d _ a (mR_22 x y) _ b (mR_22 A B)) ?_
 rintro _ C ⟨q, ⟨f, g, rfl, h, D, M⟩⟩
 have r := (Ch.base d).extk q
 have N := hmac_le a b
 refine aw (vs f (hmac a b).length g) ?_
 refine n4 ?_
 refine mw (vs f (hmac a b).length g) ?_
 refine ln wN slTy_22 (Rd.of_own h) ?_
 refine pu (vb (decide (((hmac a b).length : Int) = 0))) wN ?_
 refine n2 ?_
 rcases bt (decide (((hmac a b).length : Int) = 0)) with e | e
 ·have O := dT e
  refine ct e ?_
  refine sr ?_
  refine aw (vs none 0 0) ?_
  refine n1 ?_
  refine rt (vs none 0 0) ?_
  refine ⟨r.keep0, ?_⟩
  have E : tagP a b = [] := by first | exact tagP_f (by omega) | rfl
  rw [E]
  exact ⟨_, _, rfl, (by first | exact own_nil _ _ _ _ | exact OLv.nil _ _ _ _), (by simp), ⟨trivial, trivial⟩⟩
 have P := dF e
 refine cf e ?_
 refine y1 ?_
 refine mw (vs f (hmac a b).length g) ?_
 refine slv ((hmac a b).take 16) 0 16 wN slTy_22 (Rd.of_own h) (by first | omega | (simp <;> omega)) (by first | omega | (simp <;> omega)) (by first | rfl | (simp; done) | (rw [List.take_of_length_le (by first | (simp; done) | (simp; omega))])) rfl rfl rfl rfl (.inl ⟨rfl, rfl⟩) (.inr ⟨_, _, _, rfl, rfl, by omega⟩) ?_
 have F : 0 ≤ 16 := (by first | omega | (simp <;> omega))
 have G : 16 ≤ (hmac a b).length := (by first | omega | (simp <;> omega))
 refine cl wN (ciclone C _ ((hmac a b).take 16) (mR_22 (Rd.subV (x' := ((hmac a b).take 16)) (Rd.of_own h) F G (by first | rfl | (simp; done) | (rw [List.take_of_length_le (by first | (simp; done) | (simp; omega))]))) (nT (by simp only [List.length_take, List.length_drop]; omega) D))) ?_
 rintro _ Q ⟨H, ⟨s, t, rfl, I, J, R⟩⟩
 have K := r.extk H
 refine aw (vs s (((hmac a b).take 16)).length t) ?_
 refine n3 ?_
 refine rt (vs s (((hmac a b).take 16)).length t) ?_
 refine ⟨K.keep0, ?_⟩
 have L : tagP a b = (((hmac a b).take 16)) := by first | exact tagP_f (by omega) | rfl
 rw [L]
 exact ⟨_, _, rfl, (own_lo I q.size), J, ⟨trivial, trivial⟩⟩
end Go.Proofs.YtkmhmejednjkoaaGreat.K
