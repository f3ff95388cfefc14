import Derived.Test.YtkmhmejednjkoaaGreatCore
import Derived.Test.YtkmhmejednjkoaaGreatProg
import Derived.Test.YtkmhmejednjkoaaGreatHeld
import Derived.Test.YtkmhmejednjkoaaGreatFun
import Derived.Test.YtkmhmejednjkoaaGreatFunZ
import Derived.Test.YtkmhmejednjkoaaGreatSqz
import Derived.Test.YtkmhmejednjkoaaGreatHash
import Derived.Test.YtkmhmejednjkoaaGreatAead
import Derived.Test.YtkmhmejednjkoaaGreatWk5
namespace Go.Proofs.YtkmhmejednjkoaaGreat.K
open Go.RowKit
set_option linter.unusedVariables false
set_option linter.unusedSimpArgs false
set_option maxRecDepth 100000
set_option maxHeartbeats 4000000
def s_RekeyBody (a : Int) : (List UInt8) := bif (s_l1In a 0 4294967295) then ((putN [] a 4)) else ([])
theorem csRekeyBody (d : World) (a : Int)  : Fn Tryz.prog 55 #[(vi a)] d (fun v f => Keep d f ∧ O_22 f d.heap.size v (s_RekeyBody a)) := by
 refine fn_ofS (n := 10) [(vi a)] Tryz.func55 rfl rfl ?_
 refine sr ?_
 refine aw (vs none 0 0) ?_
 refine n4 ?_
 refine mw (vi a) ?_
 refine cl wN (csl1In d a 0 4294967295) ?_
 rintro _ x ⟨e, rfl⟩
 have g := (Ch.base d).extk e
 refine pu (vb (!(s_l1In a 0 4294967295))) wN ?_
 refine n2 ?_
 rcases bf (s_l1In a 0 4294967295) with b | b
 ·have y := spec_l1In_f b
  refine ct (cA not b) ?_
  refine sr ?_
  refine wl_lit0 wN rfl rfl slTy_22 (fun w => by kernel_rfl) ?_
  intro h i m o
  have p := g.extk m
  refine aw (vs (some h) 0 0) ?_
  refine n1 ?_
  refine rt (vs (some h) 0 0) ?_
  refine ⟨p.keep0, ?_⟩
  simp only [s_RekeyBody, b, cond_true, cond_false]
  exact ⟨_, _, rfl, (own_lo o e.size), (by simp), ⟨trivial, trivial⟩⟩
 have A := spec_l1In_t b
 refine cf (cA not b) ?_
 refine y1 ?_
 refine wl_lit0 wN rfl rfl slTy_22 (fun w => by kernel_rfl) ?_
 intro B i j q
 refine mw (vi a) ?_
 refine cl wN (csPutN i _ [] (mR_22 (Rd.of_own q) (by simp)) a 4 (by first | omega | (simp; done) | (simp; omega) | (simp only [List.length_append, List.length_cons, List.length_nil] at *; omega))) ?_
 rintro _ C ⟨r, ⟨k, l, rfl, s, t, D⟩⟩
 have u := (g.extk j).extk r
 have E := putN_len0 a 4
 refine aw (vs k (putN [] a 4).length l) ?_
 refine n3 ?_
 refine rt (vs k (putN [] a 4).length l) ?_
 refine ⟨u.keep0, ?_⟩
 simp only [s_RekeyBody, b, cond_true, cond_false]
 exact ⟨_, _, rfl, (own_lo s (z2 e j)), t, ⟨trivial, trivial⟩⟩

def i_RekeyBody (a : Int) : (List UInt8) := bif (i_within a 0 4294967295) then ((putN [] a 4)) else ([])
theorem ciRekeyBody (d : World) (a : Int)  : Fn Tryz.prog 56 #[(vi a)] d (fun v e => Keep d e ∧ O_22 e d.heap.size v (i_RekeyBody a)) := by
 refine fn_ofS (n := 8) [(vi a)] Tryz.func56 rfl rfl ?_
 refine sr ?_
 refine aw (vs none 0 0) ?_
 refine n4 ?_
 refine mw (vi a) ?_
 refine cl wN (ciwithin d a 0 4294967295) ?_
 rintro _ f ⟨g, rfl⟩
 have h := (Ch.base d).extk g
 refine pu (vb (!(i_within a 0 4294967295))) wN ?_
 refine n2 ?_
 rcases bf (i_within a 0 4294967295) with b | b
 ·have p := impl_within_f b
  refine ct (cA not b) ?_
  refine sr ?_
  refine aw (vs none 0 0) ?_
  refine n1 ?_
  refine rt (vs none 0 0) ?_
  refine ⟨h.keep0, ?_⟩
  simp only [i_RekeyBody, b, cond_true, cond_false]
  exact ⟨_, _, rfl, (by first | exact own_nil _ _ _ _ | exact OLv.nil _ _ _ _), (by simp), ⟨trivial, trivial⟩⟩
 have q := impl_within_t b
 refine cf (cA not b) ?_
 refine y1 ?_
 refine mw (vi a) ?_
 refine cl wN (ciPutN f _ _ (show R_22 f (vs none 0 0) [] from ⟨_, _, rfl, (Rd.nil _ _), (by simp)⟩) a 4 (by first | omega | (simp; done) | (simp; omega) | (simp only [List.length_append, List.length_cons, List.length_nil] at *; omega))) ?_
 rintro _ r ⟨k, ⟨i, j, rfl, l, m, s⟩⟩
 have o := h.extk k
 have t := putN_len0 a 4
 refine aw (vs i (putN [] a 4).length j) ?_
 refine n3 ?_
 refine rt (vs i (putN [] a 4).length j) ?_
 refine ⟨o.keep0, ?_⟩
 simp only [i_RekeyBody, b, cond_true, cond_false]
 exact ⟨_, _, rfl, (own_lo l g.size), m, ⟨trivial, trivial⟩⟩
end Go.Proofs.YtkmhmejednjkoaaGreat.K
