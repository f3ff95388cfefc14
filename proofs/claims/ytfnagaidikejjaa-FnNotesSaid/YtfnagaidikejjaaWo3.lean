import Derived.Test.YtfnagaidikejjaaCore
import Derived.Test.YtfnagaidikejjaaProg
import Derived.Test.YtfnagaidikejjaaHeld
import Derived.Test.YtfnagaidikejjaaFun
import Derived.Test.YtfnagaidikejjaaFunZ
import Derived.Test.YtfnagaidikejjaaSqz
import Derived.Test.YtfnagaidikejjaaCur
import Derived.Test.YtfnagaidikejjaaDrawW
import Derived.Test.YtfnagaidikejjaaAead
import Derived.Test.YtfnagaidikejjaaWo2
namespace Go.Proofs.Ytfnagaidikejjaa.K
open Go.RowKit
set_option linter.unusedVariables false
set_option linter.unusedSimpArgs false
set_option maxRecDepth 100000
set_option maxHeartbeats 4000000
def R_29 (w : World) (v : Value) (x : (PAddr)) : Prop := v = .agg #[.int .i64 x.Host, .int .i64 x.Port]
def i_AddrOk (a : PAddr) : (Bool) := bif (i_within a.Host 0 4294967295) then ((i_within a.Port 0 65535)) else (false)
theorem ciAddrOk (d : World) (e : Value) (a : PAddr) (k : R_29 d e a)  : Fn Try.prog 37 #[e] d (fun v f => Keep d f ∧ O_4 f d.heap.size v (i_AddrOk a)) := by
 obtain rfl := k
 refine fn_ofS (n := 11) [(va (L_29 a))] Try.func37 rfl rfl ?_
 refine sr ?_
 refine bx (L_29 a) wN ?_
 intro g l s t m h
 refine aw (vb false) ?_
 refine nx ?_
 refine pu (vp g 0) wN ?_
 refine ld (vi a.Host) wN isAgg_3 h ?_
 refine cl wN (ciwithin l a.Host 0 4294967295) ?_
 rintro _ o ⟨i, rfl⟩
 have j := ((Ch.base d).extk m).extk i
 refine mw (vb (i_within a.Host 0 4294967295)) ?_
 rcases bf (i_within a.Host 0 4294967295) with b | b
 ·have u := impl_within_f b
  iterate 3 refine sk b ?_
  refine pf (vb false) wN b ?_
  refine aw (vb false) ?_
  refine n3 ?_
  refine rt (vb false) ?_
  refine ⟨j.keep0, ?_⟩
  simp only [i_AddrOk, b, cond_true, cond_false]
  exact rfl
 have w := impl_within_t b
 refine pu (vp g 1) (wS b) ?_
 have p := (h.kp i)
 refine ld (vi a.Port) (wS b) isAgg_3 p ?_
 refine cl (wS b) (ciwithin o a.Port 0 65535) ?_
 rintro _ x ⟨q, rfl⟩
 have r := j.extk q
 refine pk (vb (i_within a.Port 0 65535)) wN b ?_
 refine aw (vb (i_within a.Port 0 65535)) ?_
 refine n3 ?_
 refine rt (vb (i_within a.Port 0 65535)) ?_
 refine ⟨r.keep0, ?_⟩
 simp only [i_AddrOk, b, cond_true, cond_false]
 exact rfl

theorem mR_29 {w : World} {x : PAddr} : R_29 w (va (L_29 x)) x := rfl
def i_NoteOk (a : PNote) : (Bool) := bif (i_within a.Kind 1 17) then (bif (i_within a.Id 0 9) then (bif (i_within a.Role 0 1) then (bif (i_within a.Epoch 0 4294967295) then (bif (i_within a.Seq 0 281474976710655) then (bif (i_within a.Now 0 1000000) then (bif (i_emptyOr a.Cn 12) then (bif (i_emptyOr a.Sn 12) then (bif (decide ((a.Body.length : Int) ≤ 100)) then (bif (i_emptyOr a.Key 32) then ((i_AddrOk a.A)) else (false)) else (false)) else (false)) else (false)) else (false)) else (false)) else (false)) else (false)) else (false)) else (false)
theorem ciNoteOk (o : World) (E : Value) (a : PNote) (ae : R_31 o E a)  : Fn Try.prog 14 #[E] o (fun v F => Keep o F ∧ O_4 F o.heap.size v (i_NoteOk a)) := by
 obtain ⟨q, r, s, t, u, w, x, y, rfl, af, ah, ai, aj, ak, a6, am, an⟩ := ae
 refine fn_ofS (n := 57) [(va (L_31 a q r s t u w x y))] Try.func14 rfl rfl ?_
 refine sr ?_
 refine bx (L_31 a q r s t u w x y) wN ?_
 intro l ao a7 a8 ap G
 refine aw (vb false) ?_
 refine nx ?_
 refine pu (vp l 0) wN ?_
 refine ld (vi a.Kind) wN isAgg_3 G ?_
 refine cl wN (ciwithin ao a.Kind 1 17) ?_
 rintro _ aq ⟨H, rfl⟩
 have I := ((Ch.base o).extk ap).extk H
 refine mw (vb (i_within a.Kind 1 17)) ?_
 rcases bf (i_within a.Kind 1 17) with b | b
 ·have a9 := impl_within_f b
  iterate 3 refine sk b ?_
  refine pf (vb false) wN b ?_
  refine mw (vb false) ?_
  iterate 3 refine sk (Eq.refl false) ?_
  refine pf (vb false) wN (Eq.refl false) ?_
  refine mw (vb false) ?_
  iterate 3 refine sk (Eq.refl false) ?_
  refine pf (vb false) wN (Eq.refl false) ?_
  refine mw (vb false) ?_
  iterate 3 refine sk (Eq.refl false) ?_
  refine pf (vb false) wN (Eq.refl false) ?_
  refine mw (vb false) ?_
  iterate 3 refine sk (Eq.refl false) ?_
  refine pf (vb false) wN (Eq.refl false) ?_
  refine mw (vb false) ?_
  iterate 3 refine sk (Eq.refl false) ?_
  refine pf (vb false) wN (Eq.refl false) ?_
  refine mw (vb false) ?_
  iterate 3 refine sk (Eq.refl false) ?_
  refine pf (vb false) wN (Eq.refl false) ?_
  refine mw (vb false) ?_
  iterate 4 refine sk (Eq.refl false) ?_
  refine pf (vb false) wN (Eq.refl false) ?_
  refine mw (vb false) ?_
  iterate 3 refine sk (Eq.refl false) ?_
  refine pf (vb false) wN (Eq.refl false) ?_
  refine mw (vb false) ?_
  iterate 3 refine sk (Eq.refl false) ?_
  refine pf (vb false) wN (Eq.refl false) ?_
  refine aw (vb false) ?_
  refine n3 ?_
  refine rt (vb false) ?_
  refine ⟨I.keep0, ?_⟩
  simp only [i_NoteOk, b, cond_true, cond_false]
  exact rfl
 have aA := impl_within_t b
 refine pu (vp l 1) (wS b) ?_
 have J := (G.kp H)
 refine ld (vi a.Id) (wS b) isAgg_3 J ?_
 refine cl (wS b) (ciwithin aq a.Id 0 9) ?_
 rintro _ au ⟨K, rfl⟩
 have L := I.extk K
 refine pk (vb (i_within a.Id 0 9)) wN b ?_
 refine mw (vb (i_within a.Id 0 9)) ?_
 rcases bf (i_within a.Id 0 9) with d | d
 ·have aB := impl_within_f d
  iterate 3 refine sk d ?_
  refine pf (vb false) wN d ?_
  refine mw (vb false) ?_
  iterate 3 refine sk (Eq.refl false) ?_
  refine pf (vb false) wN (Eq.refl false) ?_
  refine mw (vb false) ?_
  iterate 3 refine sk (Eq.refl false) ?_
  refine pf (vb false) wN (Eq.refl false) ?_
  refine mw (vb false) ?_
  iterate 3 refine sk (Eq.refl false) ?_
  refine pf (vb false) wN (Eq.refl false) ?_
  refine mw (vb false) ?_
  iterate 3 refine sk (Eq.refl false) ?_
  refine pf (vb false) wN (Eq.refl false) ?_
  refine mw (vb false) ?_
  iterate 3 refine sk (Eq.refl false) ?_
  refine pf (vb false) wN (Eq.refl false) ?_
  refine mw (vb false) ?_
  iterate 4 refine sk (Eq.refl false) ?_
  refine pf (vb false) wN (Eq.refl false) ?_
  refine mw (vb false) ?_
  iterate 3 refine sk (Eq.refl false) ?_
  refine pf (vb false) wN (Eq.refl false) ?_
  refine mw (vb false) ?_
  iterate 3 refine sk (Eq.refl false) ?_
  refine pf (vb false) wN (Eq.refl false) ?_
  refine aw (vb false) ?_
  refine n3 ?_
  refine rt (vb false) ?_
  refine ⟨L.keep0, ?_⟩
  simp only [i_NoteOk, b, d, cond_true, cond_false]
  exact rfl
 have aC := impl_within_t d
 refine pu (vp l 2) (wS d) ?_
 have M := (J.kp K)
 refine ld (vi a.Role) (wS d) isAgg_3 M ?_
 refine cl (wS d) (ciwithin au a.Role 0 1) ?_
 rintro _ av ⟨N, rfl⟩
 have O := L.extk N
 refine pk (vb (i_within a.Role 0 1)) wN d ?_
 refine mw (vb (i_within a.Role 0 1)) ?_
 rcases bf (i_within a.Role 0 1) with e | e
 ·have aD := impl_within_f e
  iterate 3 refine sk e ?_
  refine pf (vb false) wN e ?_
  refine mw (vb false) ?_
  iterate 3 refine sk (Eq.refl false) ?_
  refine pf (vb false) wN (Eq.refl false) ?_
  refine mw (vb false) ?_
  iterate 3 refine sk (Eq.refl false) ?_
  refine pf (vb false) wN (Eq.refl false) ?_
  refine mw (vb false) ?_
  iterate 3 refine sk (Eq.refl false) ?_
  refine pf (vb false) wN (Eq.refl false) ?_
  refine mw (vb false) ?_
  iterate 3 refine sk (Eq.refl false) ?_
  refine pf (vb false) wN (Eq.refl false) ?_
  refine mw (vb false) ?_
  iterate 4 refine sk (Eq.refl false) ?_
  refine pf (vb false) wN (Eq.refl false) ?_
  refine mw (vb false) ?_
  iterate 3 refine sk (Eq.refl false) ?_
  refine pf (vb false) wN (Eq.refl false) ?_
  refine mw (vb false) ?_
  iterate 3 refine sk (Eq.refl false) ?_
  refine pf (vb false) wN (Eq.refl false) ?_
  refine aw (vb false) ?_
  refine n3 ?_
  refine rt (vb false) ?_
  refine ⟨O.keep0, ?_⟩
  simp only [i_NoteOk, b, d, e, cond_true, cond_false]
  exact rfl
 have aE := impl_within_t e
 refine pu (vp l 5) (wS e) ?_
 have P := (M.kp N)
 refine ld (vi a.Epoch) (wS e) isAgg_3 P ?_
 refine cl (wS e) (ciwithin av a.Epoch 0 4294967295) ?_
 rintro _ ax ⟨Q, rfl⟩
 have R := O.extk Q
 refine pk (vb (i_within a.Epoch 0 4294967295)) wN e ?_
 refine mw (vb (i_within a.Epoch 0 4294967295)) ?_
 rcases bf (i_within a.Epoch 0 4294967295) with f | f
 ·have aF := impl_within_f f
  iterate 3 refine sk f ?_
  refine pf (vb false) wN f ?_
  refine mw (vb false) ?_
  iterate 3 refine sk (Eq.refl false) ?_
  refine pf (vb false) wN (Eq.refl false) ?_
  refine mw (vb false) ?_
  iterate 3 refine sk (Eq.refl false) ?_
  refine pf (vb false) wN (Eq.refl false) ?_
  refine mw (vb false) ?_
  iterate 3 refine sk (Eq.refl false) ?_
  refine pf (vb false) wN (Eq.refl false) ?_
  refine mw (vb false) ?_
  iterate 4 refine sk (Eq.refl false) ?_
  refine pf (vb false) wN (Eq.refl false) ?_
  refine mw (vb false) ?_
  iterate 3 refine sk (Eq.refl false) ?_
  refine pf (vb false) wN (Eq.refl false) ?_
  refine mw (vb false) ?_
  iterate 3 refine sk (Eq.refl false) ?_
  refine pf (vb false) wN (Eq.refl false) ?_
  refine aw (vb false) ?_
  refine n3 ?_
  refine rt (vb false) ?_
  refine ⟨R.keep0, ?_⟩
  simp only [i_NoteOk, b, d, e, f, cond_true, cond_false]
  exact rfl
 have aG := impl_within_t f
 refine pu (vp l 6) (wS f) ?_
 have S := (P.kp Q)
 refine ld (vi a.Seq) (wS f) isAgg_3 S ?_
 refine cl (wS f) (ciwithin ax a.Seq 0 281474976710655) ?_
 rintro _ ay ⟨T, rfl⟩
 have V := R.extk T
 refine pk (vb (i_within a.Seq 0 281474976710655)) wN f ?_
 refine mw (vb (i_within a.Seq 0 281474976710655)) ?_
 rcases bf (i_within a.Seq 0 281474976710655) with g | g
 ·have aH := impl_within_f g
  iterate 3 refine sk g ?_
  refine pf (vb false) wN g ?_
  refine mw (vb false) ?_
  iterate 3 refine sk (Eq.refl false) ?_
  refine pf (vb false) wN (Eq.refl false) ?_
  refine mw (vb false) ?_
  iterate 3 refine sk (Eq.refl false) ?_
  refine pf (vb false) wN (Eq.refl false) ?_
  refine mw (vb false) ?_
  iterate 4 refine sk (Eq.refl false) ?_
  refine pf (vb false) wN (Eq.refl false) ?_
  refine mw (vb false) ?_
  iterate 3 refine sk (Eq.refl false) ?_
  refine pf (vb false) wN (Eq.refl false) ?_
  refine mw (vb false) ?_
  iterate 3 refine sk (Eq.refl false) ?_
  refine pf (vb false) wN (Eq.refl false) ?_
  refine aw (vb false) ?_
  refine n3 ?_
  refine rt (vb false) ?_
  refine ⟨V.keep0, ?_⟩
  simp only [i_NoteOk, b, d, e, f, g, cond_true, cond_false]
  exact rfl
 have aI := impl_within_t g
 refine pu (vp l 11) (wS g) ?_
 have W := (S.kp T)
 refine ld (vi a.Now) (wS g) isAgg_3 W ?_
 refine cl (wS g) (ciwithin ay a.Now 0 1000000) ?_
 rintro _ az ⟨X, rfl⟩
 have B := V.extk X
 refine pk (vb (i_within a.Now 0 1000000)) wN g ?_
 refine mw (vb (i_within a.Now 0 1000000)) ?_
 rcases bf (i_within a.Now 0 1000000) with h | h
 ·have aJ := impl_within_f h
  iterate 3 refine sk h ?_
  refine pf (vb false) wN h ?_
  refine mw (vb false) ?_
  iterate 3 refine sk (Eq.refl false) ?_
  refine pf (vb false) wN (Eq.refl false) ?_
  refine mw (vb false) ?_
  iterate 4 refine sk (Eq.refl false) ?_
  refine pf (vb false) wN (Eq.refl false) ?_
  refine mw (vb false) ?_
  iterate 3 refine sk (Eq.refl false) ?_
  refine pf (vb false) wN (Eq.refl false) ?_
  refine mw (vb false) ?_
  iterate 3 refine sk (Eq.refl false) ?_
  refine pf (vb false) wN (Eq.refl false) ?_
  refine aw (vb false) ?_
  refine n3 ?_
  refine rt (vb false) ?_
  refine ⟨B.keep0, ?_⟩
  simp only [i_NoteOk, b, d, e, f, g, h, cond_true, cond_false]
  exact rfl
 have aK := impl_within_t h
 refine pu (vp l 3) (wS h) ?_
 have Y := (W.kp X)
 refine ld (vs q a.Cn.length r) (wS h) isAgg_22 Y ?_
 refine cl (wS h) (ciemptyOr az _ a.Cn (mR_22 (af.from0 B) ah) 12) ?_
 rintro _ a0 ⟨Z, rfl⟩
 have C := B.extk Z
 refine pk (vb (i_emptyOr a.Cn 12)) wN h ?_
 refine mw (vb (i_emptyOr a.Cn 12)) ?_
 rcases bf (i_emptyOr a.Cn 12) with i | i
 ·iterate 3 refine sk i ?_
  refine pf (vb false) wN i ?_
  refine mw (vb false) ?_
  iterate 4 refine sk (Eq.refl false) ?_
  refine pf (vb false) wN (Eq.refl false) ?_
  refine mw (vb false) ?_
  iterate 3 refine sk (Eq.refl false) ?_
  refine pf (vb false) wN (Eq.refl false) ?_
  refine mw (vb false) ?_
  iterate 3 refine sk (Eq.refl false) ?_
  refine pf (vb false) wN (Eq.refl false) ?_
  refine aw (vb false) ?_
  refine n3 ?_
  refine rt (vb false) ?_
  refine ⟨C.keep0, ?_⟩
  simp only [i_NoteOk, b, d, e, f, g, h, i, cond_true, cond_false]
  exact rfl
 refine pu (vp l 4) (wS i) ?_
 have aa := (Y.kp Z)
 refine ld (vs s a.Sn.length t) (wS i) isAgg_22 aa ?_
 refine cl (wS i) (ciemptyOr a0 _ a.Sn (mR_22 (ai.from0 C) aj) 12) ?_
 rintro _ a1 ⟨ab, rfl⟩
 have p := C.extk ab
 refine pk (vb (i_emptyOr a.Sn 12)) wN i ?_
 refine mw (vb (i_emptyOr a.Sn 12)) ?_
 rcases bf (i_emptyOr a.Sn 12) with j | j
 ·iterate 4 refine sk j ?_
  refine pf (vb false) wN j ?_
  refine mw (vb false) ?_
  iterate 3 refine sk (Eq.refl false) ?_
  refine pf (vb false) wN (Eq.refl false) ?_
  refine mw (vb false) ?_
  iterate 3 refine sk (Eq.refl false) ?_
  refine pf (vb false) wN (Eq.refl false) ?_
  refine aw (vb false) ?_
  refine n3 ?_
  refine rt (vb false) ?_
  refine ⟨p.keep0, ?_⟩
  simp only [i_NoteOk, b, d, e, f, g, h, i, j, cond_true, cond_false]
  exact rfl
 refine pu (vp l 7) (wS j) ?_
 have D := (aa.kp ab)
 refine ld (vs u a.Body.length w) (wS j) isAgg_22 D ?_
 refine ln (wS j) slTy_22 (ak.from0 p) ?_
 refine pu (vb (decide ((a.Body.length : Int) ≤ 100))) (wS j) ?_
 refine pk (vb (decide ((a.Body.length : Int) ≤ 100))) wN j ?_
 refine mw (vb (decide ((a.Body.length : Int) ≤ 100))) ?_
 rcases bf (decide ((a.Body.length : Int) ≤ 100)) with k | k
 ·have aL := dF k
  iterate 3 refine sk k ?_
  refine pf (vb false) wN k ?_
  refine mw (vb false) ?_
  iterate 3 refine sk (Eq.refl false) ?_
  refine pf (vb false) wN (Eq.refl false) ?_
  refine aw (vb false) ?_
  refine n3 ?_
  refine rt (vb false) ?_
  refine ⟨p.keep0, ?_⟩
  simp only [i_NoteOk, b, d, e, f, g, h, i, j, k, cond_true, cond_false]
  exact rfl
 have aM := dT k
 refine pu (vp l 8) (wS k) ?_
 refine ld (vs x a.Key.length y) (wS k) isAgg_22 D ?_
 refine cl (wS k) (ciemptyOr a1 _ a.Key (mR_22 (am.from0 p) an) 32) ?_
 rintro _ a2 ⟨ac, rfl⟩
 have ad := p.extk ac
 refine pk (vb (i_emptyOr a.Key 32)) wN k ?_
 refine mw (vb (i_emptyOr a.Key 32)) ?_
 rcases bf (i_emptyOr a.Key 32) with m | m
 ·iterate 3 refine sk m ?_
  refine pf (vb false) wN m ?_
  refine aw (vb false) ?_
  refine n3 ?_
  refine rt (vb false) ?_
  refine ⟨ad.keep0, ?_⟩
  simp only [i_NoteOk, b, d, e, f, g, h, i, j, k, m, cond_true, cond_false]
  exact rfl
 refine pu (vp l 9) (wS m) ?_
 have a3 := (D.kp ac)
 refine lN (L_29 a.A) (wS m) isAgg_29 sizeOf_29 a3 ?_
 refine cl (wS m) (ciAddrOk a2 _ a.A (mR_29)) ?_
 rintro _ aN ⟨a4, rfl⟩
 have a5 := ad.extk a4
 refine pk (vb (i_AddrOk a.A)) wN m ?_
 refine aw (vb (i_AddrOk a.A)) ?_
 refine n3 ?_
 refine rt (vb (i_AddrOk a.A)) ?_
 refine ⟨a5.keep0, ?_⟩
 simp only [i_NoteOk, b, d, e, f, g, h, i, j, k, m, cond_true, cond_false]
 exact rfl

def s_l18Len (a : Int) (b : Int) : (Bool) := bif (decide (a = 0)) then (true) else (decide (a = b))
theorem csl18Len (e : World) (a : Int) (d : Int)  : Fn Try.prog 39 #[(vi a), (vi d)] e (fun v f => Keep e f ∧ O_4 f e.heap.size v (s_l18Len a d)) := by
 refine fn_ofS (n := 12) [(vi a), (vi d)] Try.func39 rfl rfl ?_
 refine sr ?_
 refine aw (vb false) ?_
 refine nx ?_
 refine mw (vi a) ?_
 refine pu (vb (decide (a = 0))) wN ?_
 refine mw (vb (decide (a = 0))) ?_
 rcases bt (decide (a = 0)) with b | b
 ·have g := dT b
  iterate 3 refine sk b ?_
  refine pk (vb true) wN b ?_
  refine aw (vb true) ?_
  refine n3 ?_
  refine rt (vb true) ?_
  refine ⟨Ch.refl _ _, ?_⟩
  simp only [s_l18Len, b, cond_true, cond_false]
  exact rfl
 have h := dF b
 refine mv (vi a) (wS b) ?_
 refine mv (vi d) (wS b) ?_
 refine pu (vb (decide (a = d))) (wS b) ?_
 refine pf (vb (decide (a = d))) wN b ?_
 refine aw (vb (decide (a = d))) ?_
 refine n3 ?_
 refine rt (vb (decide (a = d))) ?_
 refine ⟨Ch.refl _ _, ?_⟩
 simp only [s_l18Len, b, cond_true, cond_false]
 exact rfl

def s_AddrOk (a : PAddr) : (Bool) := bif (s_l1In a.Host 0 4294967295) then ((s_l1In a.Port 0 65535)) else (false)
theorem csAddrOk (d : World) (e : Value) (a : PAddr) (k : R_29 d e a)  : Fn Try.prog 40 #[e] d (fun v f => Keep d f ∧ O_4 f d.heap.size v (s_AddrOk a)) := by
 obtain rfl := k
 refine fn_ofS (n := 11) [(va (L_29 a))] Try.func40 rfl rfl ?_
 refine sr ?_
 refine bx (L_29 a) wN ?_
 intro g l s t m h
 refine aw (vb false) ?_
 refine nx ?_
 refine pu (vp g 0) wN ?_
 refine ld (vi a.Host) wN isAgg_3 h ?_
 refine cl wN (csl1In l a.Host 0 4294967295) ?_
 rintro _ o ⟨i, rfl⟩
 have j := ((Ch.base d).extk m).extk i
 refine mw (vb (s_l1In a.Host 0 4294967295)) ?_
 rcases bf (s_l1In a.Host 0 4294967295) with b | b
 ·have u := spec_l1In_f b
  iterate 3 refine sk b ?_
  refine pf (vb false) wN b ?_
  refine aw (vb false) ?_
  refine n3 ?_
  refine rt (vb false) ?_
  refine ⟨j.keep0, ?_⟩
  simp only [s_AddrOk, b, cond_true, cond_false]
  exact rfl
 have w := spec_l1In_t b
 refine pu (vp g 1) (wS b) ?_
 have p := (h.kp i)
 refine ld (vi a.Port) (wS b) isAgg_3 p ?_
 refine cl (wS b) (csl1In o a.Port 0 65535) ?_
 rintro _ x ⟨q, rfl⟩
 have r := j.extk q
 refine pk (vb (s_l1In a.Port 0 65535)) wN b ?_
 refine aw (vb (s_l1In a.Port 0 65535)) ?_
 refine n3 ?_
 refine rt (vb (s_l1In a.Port 0 65535)) ?_
 refine ⟨r.keep0, ?_⟩
 simp only [s_AddrOk, b, cond_true, cond_false]
 exact rfl

def s_NoteOk (a : PNote) : (Bool) := bif (s_l1In a.Kind 1 17) then (bif (s_l1In a.Id 0 9) then (bif (s_l1In a.Role 0 1) then (bif (s_l18Len (a.Cn.length : Int) 12) then (bif (s_l18Len (a.Sn.length : Int) 12) then (bif (s_l1In a.Epoch 0 4294967295) then (bif (s_l1In a.Seq 0 281474976710655) then (bif (decide ((a.Body.length : Int) ≤ 100)) then (bif (s_l18Len (a.Key.length : Int) 32) then (bif (s_AddrOk a.A) then ((s_l1In a.Now 0 1000000)) else (false)) else (false)) else (false)) else (false)) else (false)) else (false)) else (false)) else (false)) else (false)) else (false)
theorem csNoteOk (o : World) (E : Value) (a : PNote) (ae : R_31 o E a)  : Fn Try.prog 15 #[E] o (fun v F => Keep o F ∧ O_4 F o.heap.size v (s_NoteOk a)) := by
 obtain ⟨q, r, s, t, u, w, x, y, rfl, af, a3, ah, a4, ai, a5, aj, a6⟩ := ae
 refine fn_ofS (n := 60) [(va (L_31 a q r s t u w x y))] Try.func15 rfl rfl ?_
 refine sr ?_
 refine bx (L_31 a q r s t u w x y) wN ?_
 intro k ak a7 a8 am G
 refine aw (vb false) ?_
 refine nx ?_
 refine pu (vp k 0) wN ?_
 refine ld (vi a.Kind) wN isAgg_3 G ?_
 refine cl wN (csl1In ak a.Kind 1 17) ?_
 rintro _ an ⟨H, rfl⟩
 have I := ((Ch.base o).extk am).extk H
 refine mw (vb (s_l1In a.Kind 1 17)) ?_
 rcases bf (s_l1In a.Kind 1 17) with b | b
 ·have a9 := spec_l1In_f b
  iterate 3 refine sk b ?_
  refine pf (vb false) wN b ?_
  refine mw (vb false) ?_
  iterate 3 refine sk (Eq.refl false) ?_
  refine pf (vb false) wN (Eq.refl false) ?_
  refine mw (vb false) ?_
  iterate 4 refine sk (Eq.refl false) ?_
  refine pf (vb false) wN (Eq.refl false) ?_
  refine mw (vb false) ?_
  iterate 4 refine sk (Eq.refl false) ?_
  refine pf (vb false) wN (Eq.refl false) ?_
  refine mw (vb false) ?_
  iterate 3 refine sk (Eq.refl false) ?_
  refine pf (vb false) wN (Eq.refl false) ?_
  refine mw (vb false) ?_
  iterate 3 refine sk (Eq.refl false) ?_
  refine pf (vb false) wN (Eq.refl false) ?_
  refine mw (vb false) ?_
  iterate 4 refine sk (Eq.refl false) ?_
  refine pf (vb false) wN (Eq.refl false) ?_
  refine mw (vb false) ?_
  iterate 4 refine sk (Eq.refl false) ?_
  refine pf (vb false) wN (Eq.refl false) ?_
  refine mw (vb false) ?_
  iterate 3 refine sk (Eq.refl false) ?_
  refine pf (vb false) wN (Eq.refl false) ?_
  refine mw (vb false) ?_
  iterate 3 refine sk (Eq.refl false) ?_
  refine pf (vb false) wN (Eq.refl false) ?_
  refine aw (vb false) ?_
  refine n3 ?_
  refine rt (vb false) ?_
  refine ⟨I.keep0, ?_⟩
  simp only [s_NoteOk, b, cond_true, cond_false]
  exact rfl
 have aA := spec_l1In_t b
 refine pu (vp k 1) (wS b) ?_
 have J := (G.kp H)
 refine ld (vi a.Id) (wS b) isAgg_3 J ?_
 refine cl (wS b) (csl1In an a.Id 0 9) ?_
 rintro _ ao ⟨K, rfl⟩
 have L := I.extk K
 refine pk (vb (s_l1In a.Id 0 9)) wN b ?_
 refine mw (vb (s_l1In a.Id 0 9)) ?_
 rcases bf (s_l1In a.Id 0 9) with d | d
 ·have aB := spec_l1In_f d
  iterate 3 refine sk d ?_
  refine pf (vb false) wN d ?_
  refine mw (vb false) ?_
  iterate 4 refine sk (Eq.refl false) ?_
  refine pf (vb false) wN (Eq.refl false) ?_
  refine mw (vb false) ?_
  iterate 4 refine sk (Eq.refl false) ?_
  refine pf (vb false) wN (Eq.refl false) ?_
  refine mw (vb false) ?_
  iterate 3 refine sk (Eq.refl false) ?_
  refine pf (vb false) wN (Eq.refl false) ?_
  refine mw (vb false) ?_
  iterate 3 refine sk (Eq.refl false) ?_
  refine pf (vb false) wN (Eq.refl false) ?_
  refine mw (vb false) ?_
  iterate 4 refine sk (Eq.refl false) ?_
  refine pf (vb false) wN (Eq.refl false) ?_
  refine mw (vb false) ?_
  iterate 4 refine sk (Eq.refl false) ?_
  refine pf (vb false) wN (Eq.refl false) ?_
  refine mw (vb false) ?_
  iterate 3 refine sk (Eq.refl false) ?_
  refine pf (vb false) wN (Eq.refl false) ?_
  refine mw (vb false) ?_
  iterate 3 refine sk (Eq.refl false) ?_
  refine pf (vb false) wN (Eq.refl false) ?_
  refine aw (vb false) ?_
  refine n3 ?_
  refine rt (vb false) ?_
  refine ⟨L.keep0, ?_⟩
  simp only [s_NoteOk, b, d, cond_true, cond_false]
  exact rfl
 have aC := spec_l1In_t d
 refine pu (vp k 2) (wS d) ?_
 have M := (J.kp K)
 refine ld (vi a.Role) (wS d) isAgg_3 M ?_
 refine cl (wS d) (csl1In ao a.Role 0 1) ?_
 rintro _ ap ⟨N, rfl⟩
 have B := L.extk N
 refine pk (vb (s_l1In a.Role 0 1)) wN d ?_
 refine mw (vb (s_l1In a.Role 0 1)) ?_
 rcases bf (s_l1In a.Role 0 1) with e | e
 ·have aD := spec_l1In_f e
  iterate 4 refine sk e ?_
  refine pf (vb false) wN e ?_
  refine mw (vb false) ?_
  iterate 4 refine sk (Eq.refl false) ?_
  refine pf (vb false) wN (Eq.refl false) ?_
  refine mw (vb false) ?_
  iterate 3 refine sk (Eq.refl false) ?_
  refine pf (vb false) wN (Eq.refl false) ?_
  refine mw (vb false) ?_
  iterate 3 refine sk (Eq.refl false) ?_
  refine pf (vb false) wN (Eq.refl false) ?_
  refine mw (vb false) ?_
  iterate 4 refine sk (Eq.refl false) ?_
  refine pf (vb false) wN (Eq.refl false) ?_
  refine mw (vb false) ?_
  iterate 4 refine sk (Eq.refl false) ?_
  refine pf (vb false) wN (Eq.refl false) ?_
  refine mw (vb false) ?_
  iterate 3 refine sk (Eq.refl false) ?_
  refine pf (vb false) wN (Eq.refl false) ?_
  refine mw (vb false) ?_
  iterate 3 refine sk (Eq.refl false) ?_
  refine pf (vb false) wN (Eq.refl false) ?_
  refine aw (vb false) ?_
  refine n3 ?_
  refine rt (vb false) ?_
  refine ⟨B.keep0, ?_⟩
  simp only [s_NoteOk, b, d, e, cond_true, cond_false]
  exact rfl
 have aE := spec_l1In_t e
 refine pu (vp k 3) (wS e) ?_
 have O := (M.kp N)
 refine ld (vs q a.Cn.length r) (wS e) isAgg_22 O ?_
 refine ln (wS e) slTy_22 (af.from0 B) ?_
 refine cl (wS e) (csl18Len ap (a.Cn.length : Int) 12) ?_
 rintro _ aq ⟨P, rfl⟩
 have C := B.extk P
 refine pk (vb (s_l18Len (a.Cn.length : Int) 12)) wN e ?_
 refine mw (vb (s_l18Len (a.Cn.length : Int) 12)) ?_
 rcases bf (s_l18Len (a.Cn.length : Int) 12) with f | f
 ·iterate 4 refine sk f ?_
  refine pf (vb false) wN f ?_
  refine mw (vb false) ?_
  iterate 3 refine sk (Eq.refl false) ?_
  refine pf (vb false) wN (Eq.refl false) ?_
  refine mw (vb false) ?_
  iterate 3 refine sk (Eq.refl false) ?_
  refine pf (vb false) wN (Eq.refl false) ?_
  refine mw (vb false) ?_
  iterate 4 refine sk (Eq.refl false) ?_
  refine pf (vb false) wN (Eq.refl false) ?_
  refine mw (vb false) ?_
  iterate 4 refine sk (Eq.refl false) ?_
  refine pf (vb false) wN (Eq.refl false) ?_
  refine mw (vb false) ?_
  iterate 3 refine sk (Eq.refl false) ?_
  refine pf (vb false) wN (Eq.refl false) ?_
  refine mw (vb false) ?_
  iterate 3 refine sk (Eq.refl false) ?_
  refine pf (vb false) wN (Eq.refl false) ?_
  refine aw (vb false) ?_
  refine n3 ?_
  refine rt (vb false) ?_
  refine ⟨C.keep0, ?_⟩
  simp only [s_NoteOk, b, d, e, f, cond_true, cond_false]
  exact rfl
 refine pu (vp k 4) (wS f) ?_
 have Q := (O.kp P)
 refine ld (vs s a.Sn.length t) (wS f) isAgg_22 Q ?_
 refine ln (wS f) slTy_22 (ah.from0 C) ?_
 refine cl (wS f) (csl18Len aq (a.Sn.length : Int) 12) ?_
 rintro _ au ⟨R, rfl⟩
 have S := C.extk R
 refine pk (vb (s_l18Len (a.Sn.length : Int) 12)) wN f ?_
 refine mw (vb (s_l18Len (a.Sn.length : Int) 12)) ?_
 rcases bf (s_l18Len (a.Sn.length : Int) 12) with i | i
 ·iterate 3 refine sk i ?_
  refine pf (vb false) wN i ?_
  refine mw (vb false) ?_
  iterate 3 refine sk (Eq.refl false) ?_
  refine pf (vb false) wN (Eq.refl false) ?_
  refine mw (vb false) ?_
  iterate 4 refine sk (Eq.refl false) ?_
  refine pf (vb false) wN (Eq.refl false) ?_
  refine mw (vb false) ?_
  iterate 4 refine sk (Eq.refl false) ?_
  refine pf (vb false) wN (Eq.refl false) ?_
  refine mw (vb false) ?_
  iterate 3 refine sk (Eq.refl false) ?_
  refine pf (vb false) wN (Eq.refl false) ?_
  refine mw (vb false) ?_
  iterate 3 refine sk (Eq.refl false) ?_
  refine pf (vb false) wN (Eq.refl false) ?_
  refine aw (vb false) ?_
  refine n3 ?_
  refine rt (vb false) ?_
  refine ⟨S.keep0, ?_⟩
  simp only [s_NoteOk, b, d, e, f, i, cond_true, cond_false]
  exact rfl
 refine pu (vp k 5) (wS i) ?_
 have T := (Q.kp R)
 refine ld (vi a.Epoch) (wS i) isAgg_3 T ?_
 refine cl (wS i) (csl1In au a.Epoch 0 4294967295) ?_
 rintro _ av ⟨V, rfl⟩
 have W := S.extk V
 refine pk (vb (s_l1In a.Epoch 0 4294967295)) wN i ?_
 refine mw (vb (s_l1In a.Epoch 0 4294967295)) ?_
 rcases bf (s_l1In a.Epoch 0 4294967295) with g | g
 ·have aF := spec_l1In_f g
  iterate 3 refine sk g ?_
  refine pf (vb false) wN g ?_
  refine mw (vb false) ?_
  iterate 4 refine sk (Eq.refl false) ?_
  refine pf (vb false) wN (Eq.refl false) ?_
  refine mw (vb false) ?_
  iterate 4 refine sk (Eq.refl false) ?_
  refine pf (vb false) wN (Eq.refl false) ?_
  refine mw (vb false) ?_
  iterate 3 refine sk (Eq.refl false) ?_
  refine pf (vb false) wN (Eq.refl false) ?_
  refine mw (vb false) ?_
  iterate 3 refine sk (Eq.refl false) ?_
  refine pf (vb false) wN (Eq.refl false) ?_
  refine aw (vb false) ?_
  refine n3 ?_
  refine rt (vb false) ?_
  refine ⟨W.keep0, ?_⟩
  simp only [s_NoteOk, b, d, e, f, i, g, cond_true, cond_false]
  exact rfl
 have aG := spec_l1In_t g
 refine pu (vp k 6) (wS g) ?_
 have X := (T.kp V)
 refine ld (vi a.Seq) (wS g) isAgg_3 X ?_
 refine cl (wS g) (csl1In av a.Seq 0 281474976710655) ?_
 rintro _ ax ⟨Y, rfl⟩
 have p := W.extk Y
 refine pk (vb (s_l1In a.Seq 0 281474976710655)) wN g ?_
 refine mw (vb (s_l1In a.Seq 0 281474976710655)) ?_
 rcases bf (s_l1In a.Seq 0 281474976710655) with h | h
 ·have aH := spec_l1In_f h
  iterate 4 refine sk h ?_
  refine pf (vb false) wN h ?_
  refine mw (vb false) ?_
  iterate 4 refine sk (Eq.refl false) ?_
  refine pf (vb false) wN (Eq.refl false) ?_
  refine mw (vb false) ?_
  iterate 3 refine sk (Eq.refl false) ?_
  refine pf (vb false) wN (Eq.refl false) ?_
  refine mw (vb false) ?_
  iterate 3 refine sk (Eq.refl false) ?_
  refine pf (vb false) wN (Eq.refl false) ?_
  refine aw (vb false) ?_
  refine n3 ?_
  refine rt (vb false) ?_
  refine ⟨p.keep0, ?_⟩
  simp only [s_NoteOk, b, d, e, f, i, g, h, cond_true, cond_false]
  exact rfl
 have aI := spec_l1In_t h
 refine pu (vp k 7) (wS h) ?_
 have D := (X.kp Y)
 refine ld (vs u a.Body.length w) (wS h) isAgg_22 D ?_
 refine ln (wS h) slTy_22 (ai.from0 p) ?_
 refine pu (vb (decide ((a.Body.length : Int) ≤ 100))) (wS h) ?_
 refine pk (vb (decide ((a.Body.length : Int) ≤ 100))) wN h ?_
 refine mw (vb (decide ((a.Body.length : Int) ≤ 100))) ?_
 rcases bf (decide ((a.Body.length : Int) ≤ 100)) with j | j
 ·have aJ := dF j
  iterate 4 refine sk j ?_
  refine pf (vb false) wN j ?_
  refine mw (vb false) ?_
  iterate 3 refine sk (Eq.refl false) ?_
  refine pf (vb false) wN (Eq.refl false) ?_
  refine mw (vb false) ?_
  iterate 3 refine sk (Eq.refl false) ?_
  refine pf (vb false) wN (Eq.refl false) ?_
  refine aw (vb false) ?_
  refine n3 ?_
  refine rt (vb false) ?_
  refine ⟨p.keep0, ?_⟩
  simp only [s_NoteOk, b, d, e, f, i, g, h, j, cond_true, cond_false]
  exact rfl
 have aK := dT j
 refine pu (vp k 8) (wS j) ?_
 refine ld (vs x a.Key.length y) (wS j) isAgg_22 D ?_
 refine ln (wS j) slTy_22 (aj.from0 p) ?_
 refine cl (wS j) (csl18Len ax (a.Key.length : Int) 32) ?_
 rintro _ ay ⟨Z, rfl⟩
 have aa := p.extk Z
 refine pk (vb (s_l18Len (a.Key.length : Int) 32)) wN j ?_
 refine mw (vb (s_l18Len (a.Key.length : Int) 32)) ?_
 rcases bf (s_l18Len (a.Key.length : Int) 32) with l | l
 ·iterate 3 refine sk l ?_
  refine pf (vb false) wN l ?_
  refine mw (vb false) ?_
  iterate 3 refine sk (Eq.refl false) ?_
  refine pf (vb false) wN (Eq.refl false) ?_
  refine aw (vb false) ?_
  refine n3 ?_
  refine rt (vb false) ?_
  refine ⟨aa.keep0, ?_⟩
  simp only [s_NoteOk, b, d, e, f, i, g, h, j, l, cond_true, cond_false]
  exact rfl
 refine pu (vp k 9) (wS l) ?_
 have ab := (D.kp Z)
 refine lN (L_29 a.A) (wS l) isAgg_29 sizeOf_29 ab ?_
 refine cl (wS l) (csAddrOk ay _ a.A (mR_29)) ?_
 rintro _ az ⟨ac, rfl⟩
 have ad := aa.extk ac
 refine pk (vb (s_AddrOk a.A)) wN l ?_
 refine mw (vb (s_AddrOk a.A)) ?_
 rcases bf (s_AddrOk a.A) with m | m
 ·iterate 3 refine sk m ?_
  refine pf (vb false) wN m ?_
  refine aw (vb false) ?_
  refine n3 ?_
  refine rt (vb false) ?_
  refine ⟨ad.keep0, ?_⟩
  simp only [s_NoteOk, b, d, e, f, i, g, h, j, l, m, cond_true, cond_false]
  exact rfl
 refine pu (vp k 11) (wS m) ?_
 have a0 := (ab.kp ac)
 refine ld (vi a.Now) (wS m) isAgg_3 a0 ?_
 refine cl (wS m) (csl1In az a.Now 0 1000000) ?_
 rintro _ aL ⟨a1, rfl⟩
 have a2 := ad.extk a1
 refine pk (vb (s_l1In a.Now 0 1000000)) wN m ?_
 refine aw (vb (s_l1In a.Now 0 1000000)) ?_
 refine n3 ?_
 refine rt (vb (s_l1In a.Now 0 1000000)) ?_
 refine ⟨a2.keep0, ?_⟩
 simp only [s_NoteOk, b, d, e, f, i, g, h, j, l, m, cond_true, cond_false]
 exact rfl
end Go.Proofs.Ytfnagaidikejjaa.K
