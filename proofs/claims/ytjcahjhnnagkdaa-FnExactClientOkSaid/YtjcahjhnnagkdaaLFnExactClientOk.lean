/- The law FnExactClientOk of the given program returns true for every input, and changes none of its arguments. No condition. -/
import Derived.Test.YtjcahjhnnagkdaaRows
import Derived.Test.YtjcahjhnnagkdaaLawK
import Derived.Test.YtjcahjhnnagkdaaCame
import Derived.WalkKit
import Derived.ProofKit
import Derived.OpenShut
import Derived.ShutString
import Derived.ChangeOld
import Derived.Below
namespace Go.Proofs.Ytjcahjhnnagkdaa.fnExactClientOk
open Go.ChangeShapes Go.WideShapes Go.ChangeAt Go.RowKit
open Go.ChangeMaps (open_string shut_string)
open Go.Proofs.Ytjcahjhnnagkdaa.K
set_option linter.unusedVariables false
set_option maxRecDepth 100000
theorem own : ownKnob Try.prog.godebug = none := by kernel_rfl
theorem laidOut : laidOutB Try.prog = true := by kernel_rfl
theorem opn_3 {w : World} {H : Type} {enc : TypeId × Value → H} {base fuel : Nat} {spare : Nat → Bool} {held : Bool} {cs : List Value} {y : DataW H × List MemPlace} (h : DataW.trod enc Try.prog w base spare held fuel 3 cs = some y) :
    ∃ (x : Int) , cs = [.int .i64 x] := came_int Try.underlying3 h
theorem opn_22 {w : World} {H : Type} {enc : TypeId × Value → H} {base fuel : Nat} {spare : Nat → Bool} {held : Bool} {cs : List Value} {y : DataW H × List MemPlace} (h : DataW.trod enc Try.prog w base spare held fuel 22 cs = some y) :
    ∃ (x : List UInt8) (a1 : Option Addr) (c1 : Nat), cs = [.slice a1 x.length c1] ∧ Rd w 1 (.slice a1 x.length c1) x.length (x.map bV) := came_B Try.underlying22 Try.underlying5 (by kernel_rfl) h
theorem opn_48 {w : World} {H : Type} {enc : TypeId × Value → H} {base fuel : Nat} {spare : Nat → Bool} {held : Bool} {cs : List Value} {y : DataW H × List MemPlace} (h : DataW.trod enc Try.prog w base spare held fuel 48 cs = some y) :
    ∃ (x : PAddr) , cs = [.int .i64 x.Host, .int .i64 x.Port] := by
  obtain ⟨xs, n, _, _, hl, hx, hf⟩ := DataW.trod_struct Try.underlying48 h
  have hl1 : cs.length = 2 := hl.trans (by kernel_rfl)
  have hx1 : xs.length = 2 := hx
  match cs, hl1 with
  | [c0, c1], _ =>
    have f0 := hf 0 _ rfl
    rw [List.getElem?_eq_getElem (show 0 < xs.length by omega)] at f0
    have g0 : DataW.trod enc Try.prog w base spare held n 3 [c0] = some xs[0] := f0
    obtain ⟨z0, e0⟩ := opn_3 g0
    obtain rfl : c0 = Value.int .i64 z0 := by simpa using e0
    have f1 := hf 1 _ rfl
    rw [List.getElem?_eq_getElem (show 1 < xs.length by omega)] at f1
    have g1 : DataW.trod enc Try.prog w base spare held n 3 [c1] = some xs[1] := f1
    obtain ⟨z1, e1⟩ := opn_3 g1
    obtain rfl : c1 = Value.int .i64 z1 := by simpa using e1
    exact ⟨{ Host := z0, Port := z1 }, rfl⟩
theorem opn_103 {w : World} {H : Type} {enc : TypeId × Value → H} {base fuel : Nat} {spare : Nat → Bool} {held : Bool} {cs : List Value} {y : DataW H × List MemPlace} (h : DataW.trod enc Try.prog w base spare held fuel 103 cs = some y) :
    ∃ (x : PFrame) (a1 : Option Addr) (c1 : Nat) (a2 : Option Addr) (c2 : Nat) (a3 : Option Addr) (c3 : Nat) (a4 : Option Addr) (c4 : Nat) (a5 : Option Addr) (c5 : Nat) (a6 : Option Addr) (c6 : Nat), cs = [.int .i64 x.Kind, .int .i64 x.Id, .slice a1 x.Cn.length c1, .slice a2 x.Sn.length c2, .int .i64 x.Tick, .slice a3 x.Cookie.length c3, .slice a4 x.Proof.length c4, .int .i64 x.Epoch, .int .i64 x.Seq, .slice a5 x.Body.length c5, .slice a6 x.Tag.length c6] ∧ Rd w 1 (.slice a1 x.Cn.length c1) x.Cn.length (x.Cn.map bV) ∧ Rd w 1 (.slice a2 x.Sn.length c2) x.Sn.length (x.Sn.map bV) ∧ Rd w 1 (.slice a3 x.Cookie.length c3) x.Cookie.length (x.Cookie.map bV) ∧ Rd w 1 (.slice a4 x.Proof.length c4) x.Proof.length (x.Proof.map bV) ∧ Rd w 1 (.slice a5 x.Body.length c5) x.Body.length (x.Body.map bV) ∧ Rd w 1 (.slice a6 x.Tag.length c6) x.Tag.length (x.Tag.map bV) := by
  obtain ⟨xs, n, _, _, hl, hx, hf⟩ := DataW.trod_struct Try.underlying103 h
  have hl1 : cs.length = 11 := hl.trans (by kernel_rfl)
  have hx1 : xs.length = 11 := hx
  match cs, hl1 with
  | [c0, c1, c2, c3, c4, c5, c6, c7, c8, c9, c10], _ =>
    have f0 := hf 0 _ rfl
    rw [List.getElem?_eq_getElem (show 0 < xs.length by omega)] at f0
    have g0 : DataW.trod enc Try.prog w base spare held n 3 [c0] = some xs[0] := f0
    obtain ⟨z0, e0⟩ := opn_3 g0
    obtain rfl : c0 = Value.int .i64 z0 := by simpa using e0
    have f1 := hf 1 _ rfl
    rw [List.getElem?_eq_getElem (show 1 < xs.length by omega)] at f1
    have g1 : DataW.trod enc Try.prog w base spare held n 3 [c1] = some xs[1] := f1
    obtain ⟨z1, e1⟩ := opn_3 g1
    obtain rfl : c1 = Value.int .i64 z1 := by simpa using e1
    have f2 := hf 2 _ rfl
    rw [List.getElem?_eq_getElem (show 2 < xs.length by omega)] at f2
    have g2 : DataW.trod enc Try.prog w base spare held n 22 [c2] = some xs[2] := f2
    obtain ⟨z2, a2q0, c2q0, e2, r2q0⟩ := opn_22 g2
    obtain rfl : c2 = Value.slice a2q0 z2.length c2q0 := by simpa using e2
    have f3 := hf 3 _ rfl
    rw [List.getElem?_eq_getElem (show 3 < xs.length by omega)] at f3
    have g3 : DataW.trod enc Try.prog w base spare held n 22 [c3] = some xs[3] := f3
    obtain ⟨z3, a3q0, c3q0, e3, r3q0⟩ := opn_22 g3
    obtain rfl : c3 = Value.slice a3q0 z3.length c3q0 := by simpa using e3
    have f4 := hf 4 _ rfl
    rw [List.getElem?_eq_getElem (show 4 < xs.length by omega)] at f4
    have g4 : DataW.trod enc Try.prog w base spare held n 3 [c4] = some xs[4] := f4
    obtain ⟨z4, e4⟩ := opn_3 g4
    obtain rfl : c4 = Value.int .i64 z4 := by simpa using e4
    have f5 := hf 5 _ rfl
    rw [List.getElem?_eq_getElem (show 5 < xs.length by omega)] at f5
    have g5 : DataW.trod enc Try.prog w base spare held n 22 [c5] = some xs[5] := f5
    obtain ⟨z5, a5q0, c5q0, e5, r5q0⟩ := opn_22 g5
    obtain rfl : c5 = Value.slice a5q0 z5.length c5q0 := by simpa using e5
    have f6 := hf 6 _ rfl
    rw [List.getElem?_eq_getElem (show 6 < xs.length by omega)] at f6
    have g6 : DataW.trod enc Try.prog w base spare held n 22 [c6] = some xs[6] := f6
    obtain ⟨z6, a6q0, c6q0, e6, r6q0⟩ := opn_22 g6
    obtain rfl : c6 = Value.slice a6q0 z6.length c6q0 := by simpa using e6
    have f7 := hf 7 _ rfl
    rw [List.getElem?_eq_getElem (show 7 < xs.length by omega)] at f7
    have g7 : DataW.trod enc Try.prog w base spare held n 3 [c7] = some xs[7] := f7
    obtain ⟨z7, e7⟩ := opn_3 g7
    obtain rfl : c7 = Value.int .i64 z7 := by simpa using e7
    have f8 := hf 8 _ rfl
    rw [List.getElem?_eq_getElem (show 8 < xs.length by omega)] at f8
    have g8 : DataW.trod enc Try.prog w base spare held n 3 [c8] = some xs[8] := f8
    obtain ⟨z8, e8⟩ := opn_3 g8
    obtain rfl : c8 = Value.int .i64 z8 := by simpa using e8
    have f9 := hf 9 _ rfl
    rw [List.getElem?_eq_getElem (show 9 < xs.length by omega)] at f9
    have g9 : DataW.trod enc Try.prog w base spare held n 22 [c9] = some xs[9] := f9
    obtain ⟨z9, a9q0, c9q0, e9, r9q0⟩ := opn_22 g9
    obtain rfl : c9 = Value.slice a9q0 z9.length c9q0 := by simpa using e9
    have f10 := hf 10 _ rfl
    rw [List.getElem?_eq_getElem (show 10 < xs.length by omega)] at f10
    have g10 : DataW.trod enc Try.prog w base spare held n 22 [c10] = some xs[10] := f10
    obtain ⟨z10, a10q0, c10q0, e10, r10q0⟩ := opn_22 g10
    obtain rfl : c10 = Value.slice a10q0 z10.length c10q0 := by simpa using e10
    exact ⟨{ Kind := z0, Id := z1, Cn := z2, Sn := z3, Tick := z4, Cookie := z5, Proof := z6, Epoch := z7, Seq := z8, Body := z9, Tag := z10 }, a2q0, c2q0, a3q0, c3q0, a5q0, c5q0, a6q0, c6q0, a9q0, c9q0, a10q0, c10q0, rfl, r2q0, r3q0, r5q0, r6q0, r9q0, r10q0⟩
theorem opn_88 {w : World} {H : Type} {enc : TypeId × Value → H} {base fuel : Nat} {spare : Nat → Bool} {held : Bool} {cs : List Value} {y : DataW H × List MemPlace} (h : DataW.trod enc Try.prog w base spare held fuel 88 cs = some y) :
    ∃ (x : List Int) (a1 : Option Addr) (c1 : Nat), cs = [.slice a1 x.length c1] ∧ Rd w 1 (.slice a1 x.length c1) x.length (x.map iV) := came_I Try.underlying88 Try.underlying3 (by kernel_rfl) h
theorem opn_104 {w : World} {H : Type} {enc : TypeId × Value → H} {base fuel : Nat} {spare : Nat → Bool} {held : Bool} {cs : List Value} {y : DataW H × List MemPlace} (h : DataW.trod enc Try.prog w base spare held fuel 104 cs = some y) :
    ∃ (x : PWin) (a1 : Option Addr) (c1 : Nat), cs = [.int .i64 x.Top, .slice a1 x.Bits.length c1] ∧ Rd w 1 (.slice a1 x.Bits.length c1) x.Bits.length (x.Bits.map iV) := by
  obtain ⟨xs, n, _, _, hl, hx, hf⟩ := DataW.trod_struct Try.underlying104 h
  have hl1 : cs.length = 2 := hl.trans (by kernel_rfl)
  have hx1 : xs.length = 2 := hx
  match cs, hl1 with
  | [c0, c1], _ =>
    have f0 := hf 0 _ rfl
    rw [List.getElem?_eq_getElem (show 0 < xs.length by omega)] at f0
    have g0 : DataW.trod enc Try.prog w base spare held n 3 [c0] = some xs[0] := f0
    obtain ⟨z0, e0⟩ := opn_3 g0
    obtain rfl : c0 = Value.int .i64 z0 := by simpa using e0
    have f1 := hf 1 _ rfl
    rw [List.getElem?_eq_getElem (show 1 < xs.length by omega)] at f1
    have g1 : DataW.trod enc Try.prog w base spare held n 88 [c1] = some xs[1] := f1
    obtain ⟨z1, a1q0, c1q0, e1, r1q0⟩ := opn_88 g1
    obtain rfl : c1 = Value.slice a1q0 z1.length c1q0 := by simpa using e1
    exact ⟨{ Top := z0, Bits := z1 }, a1q0, c1q0, rfl, r1q0⟩
theorem opn_106 {w : World} {H : Type} {enc : TypeId × Value → H} {base fuel : Nat} {spare : Nat → Bool} {held : Bool} {cs : List Value} {y : DataW H × List MemPlace} (h : DataW.trod enc Try.prog w base spare held fuel 106 cs = some y) :
    ∃ (x : PEp) (a1 : Option Addr) (c1 : Nat) (a2 : Option Addr) (c2 : Nat), cs = [.int .i64 x.N, .slice a1 x.Key.length c1, .int .i64 x.Seq, .int .i64 x.Win.Top, .slice a2 x.Win.Bits.length c2] ∧ Rd w 1 (.slice a1 x.Key.length c1) x.Key.length (x.Key.map bV) ∧ Rd w 1 (.slice a2 x.Win.Bits.length c2) x.Win.Bits.length (x.Win.Bits.map iV) := by
  obtain ⟨xs, n, _, _, hl, hx, hf⟩ := DataW.trod_struct Try.underlying106 h
  have hl1 : cs.length = 5 := hl.trans (by kernel_rfl)
  have hx1 : xs.length = 4 := hx
  match cs, hl1 with
  | [c0, c1, c2, c3, c4], _ =>
    have f0 := hf 0 _ rfl
    rw [List.getElem?_eq_getElem (show 0 < xs.length by omega)] at f0
    have g0 : DataW.trod enc Try.prog w base spare held n 3 [c0] = some xs[0] := f0
    obtain ⟨z0, e0⟩ := opn_3 g0
    obtain rfl : c0 = Value.int .i64 z0 := by simpa using e0
    have f1 := hf 1 _ rfl
    rw [List.getElem?_eq_getElem (show 1 < xs.length by omega)] at f1
    have g1 : DataW.trod enc Try.prog w base spare held n 22 [c1] = some xs[1] := f1
    obtain ⟨z1, a1q0, c1q0, e1, r1q0⟩ := opn_22 g1
    obtain rfl : c1 = Value.slice a1q0 z1.length c1q0 := by simpa using e1
    have f2 := hf 2 _ rfl
    rw [List.getElem?_eq_getElem (show 2 < xs.length by omega)] at f2
    have g2 : DataW.trod enc Try.prog w base spare held n 3 [c2] = some xs[2] := f2
    obtain ⟨z2, e2⟩ := opn_3 g2
    obtain rfl : c2 = Value.int .i64 z2 := by simpa using e2
    have f3 := hf 3 _ rfl
    rw [List.getElem?_eq_getElem (show 3 < xs.length by omega)] at f3
    have g3 : DataW.trod enc Try.prog w base spare held n 104 [c3, c4] = some xs[3] := f3
    obtain ⟨z3, a3q0, c3q0, e3, r3q0⟩ := opn_104 g3
    obtain ⟨rfl, rfl⟩ : c3 = Value.int .i64 z3.Top ∧ c4 = Value.slice a3q0 z3.Bits.length c3q0 := by simpa using e3
    exact ⟨{ N := z0, Key := z1, Seq := z2, Win := z3 }, a1q0, c1q0, a3q0, c3q0, rfl, r1q0, r3q0⟩
theorem opn_4 {w : World} {H : Type} {enc : TypeId × Value → H} {base fuel : Nat} {spare : Nat → Bool} {held : Bool} {cs : List Value} {y : DataW H × List MemPlace} (h : DataW.trod enc Try.prog w base spare held fuel 4 cs = some y) :
    ∃ (x : Bool) , cs = [.bool x] := came_bool Try.underlying4 h
theorem opn_108 {w : World} {H : Type} {enc : TypeId × Value → H} {base fuel : Nat} {spare : Nat → Bool} {held : Bool} {cs : List Value} {y : DataW H × List MemPlace} (h : DataW.trod enc Try.prog w base spare held fuel 108 cs = some y) :
    ∃ (x : PChan) (a1 : Option Addr) (c1 : Nat) (a2 : Option Addr) (c2 : Nat) (a3 : Option Addr) (c3 : Nat) (a4 : Option Addr) (c4 : Nat) (a5 : Option Addr) (c5 : Nat) (a6 : Option Addr) (c6 : Nat), cs = [.int .i64 x.Role, .slice a1 x.Sn.length c1, .int .i64 x.Cur.N, .slice a2 x.Cur.Key.length c2, .int .i64 x.Cur.Seq, .int .i64 x.Cur.Win.Top, .slice a3 x.Cur.Win.Bits.length c3, .int .i64 x.Old.N, .slice a4 x.Old.Key.length c4, .int .i64 x.Old.Seq, .int .i64 x.Old.Win.Top, .slice a5 x.Old.Win.Bits.length c5, .bool x.HasOld, .int .i64 x.Until, .slice a6 x.Next.length c6] ∧ Rd w 1 (.slice a1 x.Sn.length c1) x.Sn.length (x.Sn.map bV) ∧ Rd w 1 (.slice a2 x.Cur.Key.length c2) x.Cur.Key.length (x.Cur.Key.map bV) ∧ Rd w 1 (.slice a3 x.Cur.Win.Bits.length c3) x.Cur.Win.Bits.length (x.Cur.Win.Bits.map iV) ∧ Rd w 1 (.slice a4 x.Old.Key.length c4) x.Old.Key.length (x.Old.Key.map bV) ∧ Rd w 1 (.slice a5 x.Old.Win.Bits.length c5) x.Old.Win.Bits.length (x.Old.Win.Bits.map iV) ∧ Rd w 1 (.slice a6 x.Next.length c6) x.Next.length (x.Next.map bV) := by
  obtain ⟨xs, n, _, _, hl, hx, hf⟩ := DataW.trod_struct Try.underlying108 h
  have hl1 : cs.length = 15 := hl.trans (by kernel_rfl)
  have hx1 : xs.length = 7 := hx
  match cs, hl1 with
  | [c0, c1, c2, c3, c4, c5, c6, c7, c8, c9, c10, c11, c12, c13, c14], _ =>
    have f0 := hf 0 _ rfl
    rw [List.getElem?_eq_getElem (show 0 < xs.length by omega)] at f0
    have g0 : DataW.trod enc Try.prog w base spare held n 3 [c0] = some xs[0] := f0
    obtain ⟨z0, e0⟩ := opn_3 g0
    obtain rfl : c0 = Value.int .i64 z0 := by simpa using e0
    have f1 := hf 1 _ rfl
    rw [List.getElem?_eq_getElem (show 1 < xs.length by omega)] at f1
    have g1 : DataW.trod enc Try.prog w base spare held n 22 [c1] = some xs[1] := f1
    obtain ⟨z1, a1q0, c1q0, e1, r1q0⟩ := opn_22 g1
    obtain rfl : c1 = Value.slice a1q0 z1.length c1q0 := by simpa using e1
    have f2 := hf 2 _ rfl
    rw [List.getElem?_eq_getElem (show 2 < xs.length by omega)] at f2
    have g2 : DataW.trod enc Try.prog w base spare held n 106 [c2, c3, c4, c5, c6] = some xs[2] := f2
    obtain ⟨z2, a2q0, c2q0, a2q1, c2q1, e2, r2q0, r2q1⟩ := opn_106 g2
    obtain ⟨rfl, rfl, rfl, rfl, rfl⟩ : c2 = Value.int .i64 z2.N ∧ c3 = Value.slice a2q0 z2.Key.length c2q0 ∧ c4 = Value.int .i64 z2.Seq ∧ c5 = Value.int .i64 z2.Win.Top ∧ c6 = Value.slice a2q1 z2.Win.Bits.length c2q1 := by simpa using e2
    have f3 := hf 3 _ rfl
    rw [List.getElem?_eq_getElem (show 3 < xs.length by omega)] at f3
    have g3 : DataW.trod enc Try.prog w base spare held n 106 [c7, c8, c9, c10, c11] = some xs[3] := f3
    obtain ⟨z3, a3q0, c3q0, a3q1, c3q1, e3, r3q0, r3q1⟩ := opn_106 g3
    obtain ⟨rfl, rfl, rfl, rfl, rfl⟩ : c7 = Value.int .i64 z3.N ∧ c8 = Value.slice a3q0 z3.Key.length c3q0 ∧ c9 = Value.int .i64 z3.Seq ∧ c10 = Value.int .i64 z3.Win.Top ∧ c11 = Value.slice a3q1 z3.Win.Bits.length c3q1 := by simpa using e3
    have f4 := hf 4 _ rfl
    rw [List.getElem?_eq_getElem (show 4 < xs.length by omega)] at f4
    have g4 : DataW.trod enc Try.prog w base spare held n 4 [c12] = some xs[4] := f4
    obtain ⟨z4, e4⟩ := opn_4 g4
    obtain rfl : c12 = Value.bool z4 := by simpa using e4
    have f5 := hf 5 _ rfl
    rw [List.getElem?_eq_getElem (show 5 < xs.length by omega)] at f5
    have g5 : DataW.trod enc Try.prog w base spare held n 3 [c13] = some xs[5] := f5
    obtain ⟨z5, e5⟩ := opn_3 g5
    obtain rfl : c13 = Value.int .i64 z5 := by simpa using e5
    have f6 := hf 6 _ rfl
    rw [List.getElem?_eq_getElem (show 6 < xs.length by omega)] at f6
    have g6 : DataW.trod enc Try.prog w base spare held n 22 [c14] = some xs[6] := f6
    obtain ⟨z6, a6q0, c6q0, e6, r6q0⟩ := opn_22 g6
    obtain rfl : c14 = Value.slice a6q0 z6.length c6q0 := by simpa using e6
    exact ⟨{ Role := z0, Sn := z1, Cur := z2, Old := z3, HasOld := z4, Until := z5, Next := z6 }, a1q0, c1q0, a2q0, c2q0, a2q1, c2q1, a3q0, c3q0, a3q1, c3q1, a6q0, c6q0, rfl, r1q0, r2q0, r2q1, r3q0, r3q1, r6q0⟩
theorem opn_109 {w : World} {H : Type} {enc : TypeId × Value → H} {base fuel : Nat} {spare : Nat → Bool} {held : Bool} {cs : List Value} {y : DataW H × List MemPlace} (h : DataW.trod enc Try.prog w base spare held fuel 109 cs = some y) :
    ∃ (x : PTimer) , cs = [.bool x.On, .int .i64 x.Due, .int .i64 x.Wait, .int .i64 x.Tries] := by
  obtain ⟨xs, n, _, _, hl, hx, hf⟩ := DataW.trod_struct Try.underlying109 h
  have hl1 : cs.length = 4 := hl.trans (by kernel_rfl)
  have hx1 : xs.length = 4 := hx
  match cs, hl1 with
  | [c0, c1, c2, c3], _ =>
    have f0 := hf 0 _ rfl
    rw [List.getElem?_eq_getElem (show 0 < xs.length by omega)] at f0
    have g0 : DataW.trod enc Try.prog w base spare held n 4 [c0] = some xs[0] := f0
    obtain ⟨z0, e0⟩ := opn_4 g0
    obtain rfl : c0 = Value.bool z0 := by simpa using e0
    have f1 := hf 1 _ rfl
    rw [List.getElem?_eq_getElem (show 1 < xs.length by omega)] at f1
    have g1 : DataW.trod enc Try.prog w base spare held n 3 [c1] = some xs[1] := f1
    obtain ⟨z1, e1⟩ := opn_3 g1
    obtain rfl : c1 = Value.int .i64 z1 := by simpa using e1
    have f2 := hf 2 _ rfl
    rw [List.getElem?_eq_getElem (show 2 < xs.length by omega)] at f2
    have g2 : DataW.trod enc Try.prog w base spare held n 3 [c2] = some xs[2] := f2
    obtain ⟨z2, e2⟩ := opn_3 g2
    obtain rfl : c2 = Value.int .i64 z2 := by simpa using e2
    have f3 := hf 3 _ rfl
    rw [List.getElem?_eq_getElem (show 3 < xs.length by omega)] at f3
    have g3 : DataW.trod enc Try.prog w base spare held n 3 [c3] = some xs[3] := f3
    obtain ⟨z3, e3⟩ := opn_3 g3
    obtain rfl : c3 = Value.int .i64 z3 := by simpa using e3
    exact ⟨{ On := z0, Due := z1, Wait := z2, Tries := z3 }, rfl⟩
theorem opn_111 {w : World} {H : Type} {enc : TypeId × Value → H} {base fuel : Nat} {spare : Nat → Bool} {held : Bool} {cs : List Value} {y : DataW H × List MemPlace} (h : DataW.trod enc Try.prog w base spare held fuel 111 cs = some y) :
    ∃ (x : PClient) (a1 : Option Addr) (c1 : Nat) (a2 : Option Addr) (c2 : Nat) (a3 : Option Addr) (c3 : Nat) (a4 : Option Addr) (c4 : Nat) (a5 : Option Addr) (c5 : Nat) (a6 : Option Addr) (c6 : Nat) (a7 : Option Addr) (c7 : Nat) (a8 : Option Addr) (c8 : Nat) (a9 : Option Addr) (c9 : Nat) (a10 : Option Addr) (c10 : Nat) (a11 : Option Addr) (c11 : Nat) (a12 : Option Addr) (c12 : Nat) (a13 : Option Addr) (c13 : Nat) (a14 : Option Addr) (c14 : Nat), cs = [.int .i64 x.Id, .slice a1 x.Psk.length c1, .int .i64 x.At.Host, .int .i64 x.At.Port, .int .i64 x.St, .slice a2 x.Cn.length c2, .int .i64 x.Fin.Kind, .int .i64 x.Fin.Id, .slice a3 x.Fin.Cn.length c3, .slice a4 x.Fin.Sn.length c4, .int .i64 x.Fin.Tick, .slice a5 x.Fin.Cookie.length c5, .slice a6 x.Fin.Proof.length c6, .int .i64 x.Fin.Epoch, .int .i64 x.Fin.Seq, .slice a7 x.Fin.Body.length c7, .slice a8 x.Fin.Tag.length c8, .int .i64 x.C.Role, .slice a9 x.C.Sn.length c9, .int .i64 x.C.Cur.N, .slice a10 x.C.Cur.Key.length c10, .int .i64 x.C.Cur.Seq, .int .i64 x.C.Cur.Win.Top, .slice a11 x.C.Cur.Win.Bits.length c11, .int .i64 x.C.Old.N, .slice a12 x.C.Old.Key.length c12, .int .i64 x.C.Old.Seq, .int .i64 x.C.Old.Win.Top, .slice a13 x.C.Old.Win.Bits.length c13, .bool x.C.HasOld, .int .i64 x.C.Until, .slice a14 x.C.Next.length c14, .bool x.T.On, .int .i64 x.T.Due, .int .i64 x.T.Wait, .int .i64 x.T.Tries, .bool x.R.On, .int .i64 x.R.Due, .int .i64 x.R.Wait, .int .i64 x.R.Tries, .int .i64 x.Last] ∧ Rd w 1 (.slice a1 x.Psk.length c1) x.Psk.length (x.Psk.map bV) ∧ Rd w 1 (.slice a2 x.Cn.length c2) x.Cn.length (x.Cn.map bV) ∧ Rd w 1 (.slice a3 x.Fin.Cn.length c3) x.Fin.Cn.length (x.Fin.Cn.map bV) ∧ Rd w 1 (.slice a4 x.Fin.Sn.length c4) x.Fin.Sn.length (x.Fin.Sn.map bV) ∧ Rd w 1 (.slice a5 x.Fin.Cookie.length c5) x.Fin.Cookie.length (x.Fin.Cookie.map bV) ∧ Rd w 1 (.slice a6 x.Fin.Proof.length c6) x.Fin.Proof.length (x.Fin.Proof.map bV) ∧ Rd w 1 (.slice a7 x.Fin.Body.length c7) x.Fin.Body.length (x.Fin.Body.map bV) ∧ Rd w 1 (.slice a8 x.Fin.Tag.length c8) x.Fin.Tag.length (x.Fin.Tag.map bV) ∧ Rd w 1 (.slice a9 x.C.Sn.length c9) x.C.Sn.length (x.C.Sn.map bV) ∧ Rd w 1 (.slice a10 x.C.Cur.Key.length c10) x.C.Cur.Key.length (x.C.Cur.Key.map bV) ∧ Rd w 1 (.slice a11 x.C.Cur.Win.Bits.length c11) x.C.Cur.Win.Bits.length (x.C.Cur.Win.Bits.map iV) ∧ Rd w 1 (.slice a12 x.C.Old.Key.length c12) x.C.Old.Key.length (x.C.Old.Key.map bV) ∧ Rd w 1 (.slice a13 x.C.Old.Win.Bits.length c13) x.C.Old.Win.Bits.length (x.C.Old.Win.Bits.map iV) ∧ Rd w 1 (.slice a14 x.C.Next.length c14) x.C.Next.length (x.C.Next.map bV) := by
  obtain ⟨xs, n, _, _, hl, hx, hf⟩ := DataW.trod_struct Try.underlying111 h
  have hl1 : cs.length = 41 := hl.trans (by kernel_rfl)
  have hx1 : xs.length = 10 := hx
  match cs, hl1 with
  | c0 :: c1 :: c2 :: c3 :: c4 :: c5 :: c6 :: c7 :: c8 :: c9 :: c10 :: c11 :: c12 :: c13 :: c14 :: c15 :: c16 :: c17 :: c18 :: c19 :: c20 :: c21 :: c22 :: c23 :: c24 :: c25 :: c26 :: c27 :: c28 :: c29 :: c30 :: c31 :: c32 :: c33 :: c34 :: c35 :: c36 :: c37 :: c38 :: c39 :: c40 :: [], _ =>
    have f0 := hf 0 _ rfl
    rw [List.getElem?_eq_getElem (show 0 < xs.length by omega)] at f0
    have g0 : DataW.trod enc Try.prog w base spare held n 3 [c0] = some xs[0] := f0
    obtain ⟨z0, e0⟩ := opn_3 g0
    obtain rfl : c0 = Value.int .i64 z0 := by simpa using e0
    have f1 := hf 1 _ rfl
    rw [List.getElem?_eq_getElem (show 1 < xs.length by omega)] at f1
    have g1 : DataW.trod enc Try.prog w base spare held n 22 [c1] = some xs[1] := f1
    obtain ⟨z1, a1q0, c1q0, e1, r1q0⟩ := opn_22 g1
    obtain rfl : c1 = Value.slice a1q0 z1.length c1q0 := by simpa using e1
    have f2 := hf 2 _ rfl
    rw [List.getElem?_eq_getElem (show 2 < xs.length by omega)] at f2
    have g2 : DataW.trod enc Try.prog w base spare held n 48 [c2, c3] = some xs[2] := f2
    obtain ⟨z2, e2⟩ := opn_48 g2
    obtain ⟨rfl, rfl⟩ : c2 = Value.int .i64 z2.Host ∧ c3 = Value.int .i64 z2.Port := by simpa using e2
    have f3 := hf 3 _ rfl
    rw [List.getElem?_eq_getElem (show 3 < xs.length by omega)] at f3
    have g3 : DataW.trod enc Try.prog w base spare held n 3 [c4] = some xs[3] := f3
    obtain ⟨z3, e3⟩ := opn_3 g3
    obtain rfl : c4 = Value.int .i64 z3 := by simpa using e3
    have f4 := hf 4 _ rfl
    rw [List.getElem?_eq_getElem (show 4 < xs.length by omega)] at f4
    have g4 : DataW.trod enc Try.prog w base spare held n 22 [c5] = some xs[4] := f4
    obtain ⟨z4, a4q0, c4q0, e4, r4q0⟩ := opn_22 g4
    obtain rfl : c5 = Value.slice a4q0 z4.length c4q0 := by simpa using e4
    have f5 := hf 5 _ rfl
    rw [List.getElem?_eq_getElem (show 5 < xs.length by omega)] at f5
    have g5 : DataW.trod enc Try.prog w base spare held n 103 [c6, c7, c8, c9, c10, c11, c12, c13, c14, c15, c16] = some xs[5] := f5
    obtain ⟨z5, a5q0, c5q0, a5q1, c5q1, a5q2, c5q2, a5q3, c5q3, a5q4, c5q4, a5q5, c5q5, e5, r5q0, r5q1, r5q2, r5q3, r5q4, r5q5⟩ := opn_103 g5
    obtain ⟨rfl, rfl, rfl, rfl, rfl, rfl, rfl, rfl, rfl, rfl, rfl⟩ : c6 = Value.int .i64 z5.Kind ∧ c7 = Value.int .i64 z5.Id ∧ c8 = Value.slice a5q0 z5.Cn.length c5q0 ∧ c9 = Value.slice a5q1 z5.Sn.length c5q1 ∧ c10 = Value.int .i64 z5.Tick ∧ c11 = Value.slice a5q2 z5.Cookie.length c5q2 ∧ c12 = Value.slice a5q3 z5.Proof.length c5q3 ∧ c13 = Value.int .i64 z5.Epoch ∧ c14 = Value.int .i64 z5.Seq ∧ c15 = Value.slice a5q4 z5.Body.length c5q4 ∧ c16 = Value.slice a5q5 z5.Tag.length c5q5 := by simpa using e5
    have f6 := hf 6 _ rfl
    rw [List.getElem?_eq_getElem (show 6 < xs.length by omega)] at f6
    have g6 : DataW.trod enc Try.prog w base spare held n 108 [c17, c18, c19, c20, c21, c22, c23, c24, c25, c26, c27, c28, c29, c30, c31] = some xs[6] := f6
    obtain ⟨z6, a6q0, c6q0, a6q1, c6q1, a6q2, c6q2, a6q3, c6q3, a6q4, c6q4, a6q5, c6q5, e6, r6q0, r6q1, r6q2, r6q3, r6q4, r6q5⟩ := opn_108 g6
    obtain ⟨rfl, rfl, rfl, rfl, rfl, rfl, rfl, rfl, rfl, rfl, rfl, rfl, rfl, rfl, rfl⟩ : c17 = Value.int .i64 z6.Role ∧ c18 = Value.slice a6q0 z6.Sn.length c6q0 ∧ c19 = Value.int .i64 z6.Cur.N ∧ c20 = Value.slice a6q1 z6.Cur.Key.length c6q1 ∧ c21 = Value.int .i64 z6.Cur.Seq ∧ c22 = Value.int .i64 z6.Cur.Win.Top ∧ c23 = Value.slice a6q2 z6.Cur.Win.Bits.length c6q2 ∧ c24 = Value.int .i64 z6.Old.N ∧ c25 = Value.slice a6q3 z6.Old.Key.length c6q3 ∧ c26 = Value.int .i64 z6.Old.Seq ∧ c27 = Value.int .i64 z6.Old.Win.Top ∧ c28 = Value.slice a6q4 z6.Old.Win.Bits.length c6q4 ∧ c29 = Value.bool z6.HasOld ∧ c30 = Value.int .i64 z6.Until ∧ c31 = Value.slice a6q5 z6.Next.length c6q5 := by simpa using e6
    have f7 := hf 7 _ rfl
    rw [List.getElem?_eq_getElem (show 7 < xs.length by omega)] at f7
    have g7 : DataW.trod enc Try.prog w base spare held n 109 [c32, c33, c34, c35] = some xs[7] := f7
    obtain ⟨z7, e7⟩ := opn_109 g7
    obtain ⟨rfl, rfl, rfl, rfl⟩ : c32 = Value.bool z7.On ∧ c33 = Value.int .i64 z7.Due ∧ c34 = Value.int .i64 z7.Wait ∧ c35 = Value.int .i64 z7.Tries := by simpa using e7
    have f8 := hf 8 _ rfl
    rw [List.getElem?_eq_getElem (show 8 < xs.length by omega)] at f8
    have g8 : DataW.trod enc Try.prog w base spare held n 109 [c36, c37, c38, c39] = some xs[8] := f8
    obtain ⟨z8, e8⟩ := opn_109 g8
    obtain ⟨rfl, rfl, rfl, rfl⟩ : c36 = Value.bool z8.On ∧ c37 = Value.int .i64 z8.Due ∧ c38 = Value.int .i64 z8.Wait ∧ c39 = Value.int .i64 z8.Tries := by simpa using e8
    have f9 := hf 9 _ rfl
    rw [List.getElem?_eq_getElem (show 9 < xs.length by omega)] at f9
    have g9 : DataW.trod enc Try.prog w base spare held n 3 [c40] = some xs[9] := f9
    obtain ⟨z9, e9⟩ := opn_3 g9
    obtain rfl : c40 = Value.int .i64 z9 := by simpa using e9
    exact ⟨{ Id := z0, Psk := z1, At := z2, St := z3, Cn := z4, Fin := z5, C := z6, T := z7, R := z8, Last := z9 }, a1q0, c1q0, a4q0, c4q0, a5q0, c5q0, a5q1, c5q1, a5q2, c5q2, a5q3, c5q3, a5q4, c5q4, a5q5, c5q5, a6q0, c6q0, a6q1, c6q1, a6q2, c6q2, a6q3, c6q3, a6q4, c6q4, a6q5, c6q5, rfl, r1q0, r4q0, r5q0, r5q1, r5q2, r5q3, r5q4, r5q5, r6q0, r6q1, r6q2, r6q3, r6q4, r6q5⟩
theorem lifted (os : Os) (started : os.Started) (H : Type) (enc : TypeId × Value → H) :
    ReturnsInHanded {} Try.checked os 13 .any (Rows.fnExactClientOkSpec.pre6 enc Try.prog Try.f13 Rows.fnExactClientOkRow.domain false) (Rows.fnExactClientOkSpec.post enc Try.prog Try.f13 false true false false) := by
  refine returnsInHanded_of_change (C := Try.checked) own started (by kernel_rfl) Try.func13
    (ChangeSpec.witness6 (enc := enc) (C := Try.checked) false ⟨#[], #[(va [(vi 0), (vs none 0 0), (vi 0), (vi 0), (vi 0), (vs none 0 0), (vi 0), (vi 0), (vs none 0 0), (vs none 0 0), (vi 0), (vs none 0 0), (vs none 0 0), (vi 0), (vi 0), (vs none 0 0), (vs none 0 0), (vi 0), (vs none 0 0), (vi 0), (vs none 0 0), (vi 0), (vi 0), (vs none 0 0), (vi 0), (vs none 0 0), (vi 0), (vi 0), (vs none 0 0), (vb false), (vi 0), (vs none 0 0), (vb false), (vi 0), (vi 0), (vi 0), (vb false), (vi 0), (vi 0), (vi 0), (vi 0)])], []⟩ 8 (by kernel_rfl) (by kernel_rfl) (by kernel_rfl) (by kernel_rfl)) ?_
  intro W base args ds gs before hval0 hW hcnd _
  have hval : ∀ (j : Nat) t v, Try.f13.params[j]? = some t → args[j]? = some v → Value.okWide Try.prog W .any base t v := hval0
  have hW' := hW
  obtain ⟨p, q, hA0, hV, rfl, hfz, hnd⟩ := hW
  have hA : DataW.TrodAll enc Try.prog W 0 (fun _ => true) true Try.f13.params.toList args.toList ds p := hA0
  rw [Try.params13] at hA hval
  obtain ⟨v0, vs0, d0, ds0, p0, q0, hargs, rfl, rfl, h0, r0⟩ := trodAll_cons hA
  obtain ⟨rfl, rfl, rfl⟩ := trodAll_nil r0
  obtain rfl : args = #[v0] := by cases args; simp_all
  obtain ⟨rfl, rfl⟩ := trodVars_none hV
  have k0 := h0
  have lt0 : ∀ x ∈ p0, x.block < W.heap.size := by obtain ⟨m, hm⟩ := k0; exact DataW.trod_lt m _ _ _ hm
  obtain ⟨cs0, rfl, _⟩ := okWide_struct Try.underlying111 (hval 0 111 v0 rfl rfl)
  obtain ⟨fu0, hf0⟩ := h0
  obtain ⟨x0, a0q0, c0q0, a0q1, c0q1, a0q2, c0q2, a0q3, c0q3, a0q4, c0q4, a0q5, c0q5, a0q6, c0q6, a0q7, c0q7, a0q8, c0q8, a0q9, c0q9, a0q10, c0q10, a0q11, c0q11, a0q12, c0q12, a0q13, c0q13, hc0, g0q0, g0q1, g0q2, g0q3, g0q4, g0q5, g0q6, g0q7, g0q8, g0q9, g0q10, g0q11, g0q12, g0q13⟩ := opn_111 hf0
  have he0 : cs0 = #[.int .i64 x0.Id, .slice a0q0 x0.Psk.length c0q0, .int .i64 x0.At.Host, .int .i64 x0.At.Port, .int .i64 x0.St, .slice a0q1 x0.Cn.length c0q1, .int .i64 x0.Fin.Kind, .int .i64 x0.Fin.Id, .slice a0q2 x0.Fin.Cn.length c0q2, .slice a0q3 x0.Fin.Sn.length c0q3, .int .i64 x0.Fin.Tick, .slice a0q4 x0.Fin.Cookie.length c0q4, .slice a0q5 x0.Fin.Proof.length c0q5, .int .i64 x0.Fin.Epoch, .int .i64 x0.Fin.Seq, .slice a0q6 x0.Fin.Body.length c0q6, .slice a0q7 x0.Fin.Tag.length c0q7, .int .i64 x0.C.Role, .slice a0q8 x0.C.Sn.length c0q8, .int .i64 x0.C.Cur.N, .slice a0q9 x0.C.Cur.Key.length c0q9, .int .i64 x0.C.Cur.Seq, .int .i64 x0.C.Cur.Win.Top, .slice a0q10 x0.C.Cur.Win.Bits.length c0q10, .int .i64 x0.C.Old.N, .slice a0q11 x0.C.Old.Key.length c0q11, .int .i64 x0.C.Old.Seq, .int .i64 x0.C.Old.Win.Top, .slice a0q12 x0.C.Old.Win.Bits.length c0q12, .bool x0.C.HasOld, .int .i64 x0.C.Until, .slice a0q13 x0.C.Next.length c0q13, .bool x0.T.On, .int .i64 x0.T.Due, .int .i64 x0.T.Wait, .int .i64 x0.T.Tries, .bool x0.R.On, .int .i64 x0.R.Due, .int .i64 x0.R.Wait, .int .i64 x0.R.Tries, .int .i64 x0.Last] := by simpa [Value.cells] using congrArg List.toArray hc0
  subst he0
  have hC := law_of ((Go.Proofs.Ytjcahjhnnagkdaa.K.C_laws_FnExactClientOk W (.agg #[.int .i64 x0.Id, .slice a0q0 x0.Psk.length c0q0, .int .i64 x0.At.Host, .int .i64 x0.At.Port, .int .i64 x0.St, .slice a0q1 x0.Cn.length c0q1, .int .i64 x0.Fin.Kind, .int .i64 x0.Fin.Id, .slice a0q2 x0.Fin.Cn.length c0q2, .slice a0q3 x0.Fin.Sn.length c0q3, .int .i64 x0.Fin.Tick, .slice a0q4 x0.Fin.Cookie.length c0q4, .slice a0q5 x0.Fin.Proof.length c0q5, .int .i64 x0.Fin.Epoch, .int .i64 x0.Fin.Seq, .slice a0q6 x0.Fin.Body.length c0q6, .slice a0q7 x0.Fin.Tag.length c0q7, .int .i64 x0.C.Role, .slice a0q8 x0.C.Sn.length c0q8, .int .i64 x0.C.Cur.N, .slice a0q9 x0.C.Cur.Key.length c0q9, .int .i64 x0.C.Cur.Seq, .int .i64 x0.C.Cur.Win.Top, .slice a0q10 x0.C.Cur.Win.Bits.length c0q10, .int .i64 x0.C.Old.N, .slice a0q11 x0.C.Old.Key.length c0q11, .int .i64 x0.C.Old.Seq, .int .i64 x0.C.Old.Win.Top, .slice a0q12 x0.C.Old.Win.Bits.length c0q12, .bool x0.C.HasOld, .int .i64 x0.C.Until, .slice a0q13 x0.C.Next.length c0q13, .bool x0.T.On, .int .i64 x0.T.Due, .int .i64 x0.T.Wait, .int .i64 x0.T.Tries, .bool x0.R.On, .int .i64 x0.R.Due, .int .i64 x0.R.Wait, .int .i64 x0.R.Tries, .int .i64 x0.Last]) x0 ⟨_, _, _, _, _, _, _, _, _, _, _, _, _, _, _, _, _, _, _, _, _, _, _, _, _, _, _, _, rfl, g0q0, (by obtain ⟨_, _, _, q1, q2, _⟩ := g0q0; simp only [maxLen] at q2; omega), g0q1, (by obtain ⟨_, _, _, q1, q2, _⟩ := g0q1; simp only [maxLen] at q2; omega), g0q2, (by obtain ⟨_, _, _, q1, q2, _⟩ := g0q2; simp only [maxLen] at q2; omega), g0q3, (by obtain ⟨_, _, _, q1, q2, _⟩ := g0q3; simp only [maxLen] at q2; omega), g0q4, (by obtain ⟨_, _, _, q1, q2, _⟩ := g0q4; simp only [maxLen] at q2; omega), g0q5, (by obtain ⟨_, _, _, q1, q2, _⟩ := g0q5; simp only [maxLen] at q2; omega), g0q6, (by obtain ⟨_, _, _, q1, q2, _⟩ := g0q6; simp only [maxLen] at q2; omega), g0q7, (by obtain ⟨_, _, _, q1, q2, _⟩ := g0q7; simp only [maxLen] at q2; omega), g0q8, (by obtain ⟨_, _, _, q1, q2, _⟩ := g0q8; simp only [maxLen] at q2; omega), g0q9, (by obtain ⟨_, _, _, q1, q2, _⟩ := g0q9; simp only [maxLen] at q2; omega), g0q10, (by obtain ⟨_, _, _, q1, q2, _⟩ := g0q10; simp only [maxLen] at q2; omega), g0q11, (by obtain ⟨_, _, _, q1, q2, _⟩ := g0q11; simp only [maxLen] at q2; omega), g0q12, (by obtain ⟨_, _, _, q1, q2, _⟩ := g0q12; simp only [maxLen] at q2; omega), g0q13, (by obtain ⟨_, _, _, q1, q2, _⟩ := g0q13; simp only [maxLen] at q2; omega)⟩).mono fun v w' hr => ⟨hr.1, hr.2.trans (congrArg Value.bool (law_ClientOk x0))⟩)
  refine Calls.mono hC fun e W' hb => ?_
  obtain ⟨he, bel⟩ := hb
  subst he
  exact ⟨_, rfl, _, _, _, [], _, [], hW', trodAll_mk1 (shut_bool Try.underlying4 _), (trodAll_cons_mk (Below.trod laidOut (by kernel_rfl) (of_decide_eq_true (by kernel_rfl)) k0 bel lt0) trodAll_mk0), rfl, bel.frame _, fun h => by cases h⟩
theorem over : Rows.fnExactClientOkRow.holds Try.pinned (OpenSpec.ofChange Rows.fnExactClientOkSpec) :=
  OpenClaim.holds_of_wide 13 Try.f13 rfl rfl rfl rfl rfl rfl rfl ⟨rfl, rfl, rfl, rfl, rfl⟩ rfl rfl rfl rfl rfl (by kernel_rfl) Try.func13 (by kernel_rfl)
    (of_decide_eq_true (by kernel_rfl)) (by unfold Func.isWrapper; first | (rw [if_pos (by decide +kernel)]; kernel_rfl) | (rw [if_neg (by decide +kernel)]; exact ⟨rfl, rfl⟩))
    (fun os started H enc _ => lifted os started H enc)
theorem proved : Rows.FnExactClientOkSaid := over
end Go.Proofs.Ytjcahjhnnagkdaa.fnExactClientOk
