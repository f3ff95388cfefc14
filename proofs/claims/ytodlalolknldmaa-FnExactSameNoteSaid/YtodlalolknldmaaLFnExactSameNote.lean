/- The law FnExactSameNote of the given program returns true for every input, and changes none of its arguments. No condition. -/
import Derived.Test.YtodlalolknldmaaRows
import Derived.Test.YtodlalolknldmaaLawN
import Derived.WalkKit
import Derived.ProofKit
import Derived.OpenShut
import Derived.ShutString
import Derived.ChangeOld
import Derived.Below
namespace Go.Proofs.Ytodlalolknldmaa.fnExactSameNote
open Go.ChangeShapes Go.WideShapes Go.ChangeAt Go.RowKit
open Go.ChangeMaps (open_string shut_string)
open Go.Proofs.Ytodlalolknldmaa.K
set_option linter.unusedVariables false
set_option maxRecDepth 100000
theorem own : ownKnob Try.prog.godebug = none := by kernel_rfl
theorem laidOut : laidOutB Try.prog = true := by kernel_rfl
theorem opn_3 {w : World} {H : Type} {enc : TypeId × Value → H} {base fuel : Nat} {spare : Nat → Bool} {held : Bool} {cs : List Value} {y : DataW H × List MemPlace} (h : DataW.trod enc Try.prog w base spare held fuel 3 cs = some y) :
    ∃ (x : Int) , cs = [.int .i64 x] := came_int Try.underlying3 h
theorem opn_22 {w : World} {H : Type} {enc : TypeId × Value → H} {base fuel : Nat} {spare : Nat → Bool} {held : Bool} {cs : List Value} {y : DataW H × List MemPlace} (h : DataW.trod enc Try.prog w base spare held fuel 22 cs = some y) :
    ∃ (x : List UInt8) (a1 : Option Addr) (c1 : Nat), cs = [.slice a1 x.length c1] ∧ Rd w 1 (.slice a1 x.length c1) x.length (x.map bV) := came_B Try.underlying22 Try.underlying5 (by kernel_rfl) h
theorem opn_56 {w : World} {H : Type} {enc : TypeId × Value → H} {base fuel : Nat} {spare : Nat → Bool} {held : Bool} {cs : List Value} {y : DataW H × List MemPlace} (h : DataW.trod enc Try.prog w base spare held fuel 56 cs = some y) :
    ∃ (x : PAddr) , cs = [.int .i64 x.Host, .int .i64 x.Port] := by
  obtain ⟨xs, n, _, _, hl, hx, hf⟩ := DataW.trod_struct Try.underlying56 h
  have hl1 : cs.length = 2 := hl.trans (by kernel_rfl)
  have hx1 : xs.length = 2 := hx
  match cs, hl1 with
  | [c0, c1], _ =>
    have f0 := hf 0 _ rfl
    rw [List.getElem?_eq_getElem (show 0 < xs.length by omega)] at f0
    have g0 : DataW.trod enc Try.prog w base spare held n 3 [c0] = some xs[0] := f0
    obtain ⟨z0, e0⟩ := opn_3 g0
    obtain rfl : c0 = Value.int .i64 z0 := by simpa using e0
    have f1 := hf 1 _ rfl
    rw [List.getElem?_eq_getElem (show 1 < xs.length by omega)] at f1
    have g1 : DataW.trod enc Try.prog w base spare held n 3 [c1] = some xs[1] := f1
    obtain ⟨z1, e1⟩ := opn_3 g1
    obtain rfl : c1 = Value.int .i64 z1 := by simpa using e1
    exact ⟨{ Host := z0, Port := z1 }, rfl⟩
theorem opn_58 {w : World} {H : Type} {enc : TypeId × Value → H} {base fuel : Nat} {spare : Nat → Bool} {held : Bool} {cs : List Value} {y : DataW H × List MemPlace} (h : DataW.trod enc Try.prog w base spare held fuel 58 cs = some y) :
    ∃ (x : PNote) (a1 : Option Addr) (c1 : Nat) (a2 : Option Addr) (c2 : Nat) (a3 : Option Addr) (c3 : Nat) (a4 : Option Addr) (c4 : Nat), cs = [.int .i64 x.Kind, .int .i64 x.Id, .int .i64 x.Role, .slice a1 x.Cn.length c1, .slice a2 x.Sn.length c2, .int .i64 x.Epoch, .int .i64 x.Seq, .slice a3 x.Body.length c3, .slice a4 x.Key.length c4, .int .i64 x.A.Host, .int .i64 x.A.Port, .int .i64 x.Now] ∧ Rd w 1 (.slice a1 x.Cn.length c1) x.Cn.length (x.Cn.map bV) ∧ Rd w 1 (.slice a2 x.Sn.length c2) x.Sn.length (x.Sn.map bV) ∧ Rd w 1 (.slice a3 x.Body.length c3) x.Body.length (x.Body.map bV) ∧ Rd w 1 (.slice a4 x.Key.length c4) x.Key.length (x.Key.map bV) := by
  obtain ⟨xs, n, _, _, hl, hx, hf⟩ := DataW.trod_struct Try.underlying58 h
  have hl1 : cs.length = 12 := hl.trans (by kernel_rfl)
  have hx1 : xs.length = 11 := hx
  match cs, hl1 with
  | [c0, c1, c2, c3, c4, c5, c6, c7, c8, c9, c10, c11], _ =>
    have f0 := hf 0 _ rfl
    rw [List.getElem?_eq_getElem (show 0 < xs.length by omega)] at f0
    have g0 : DataW.trod enc Try.prog w base spare held n 3 [c0] = some xs[0] := f0
    obtain ⟨z0, e0⟩ := opn_3 g0
    obtain rfl : c0 = Value.int .i64 z0 := by simpa using e0
    have f1 := hf 1 _ rfl
    rw [List.getElem?_eq_getElem (show 1 < xs.length by omega)] at f1
    have g1 : DataW.trod enc Try.prog w base spare held n 3 [c1] = some xs[1] := f1
    obtain ⟨z1, e1⟩ := opn_3 g1
    obtain rfl : c1 = Value.int .i64 z1 := by simpa using e1
    have f2 := hf 2 _ rfl
    rw [List.getElem?_eq_getElem (show 2 < xs.length by omega)] at f2
    have g2 : DataW.trod enc Try.prog w base spare held n 3 [c2] = some xs[2] := f2
    obtain ⟨z2, e2⟩ := opn_3 g2
    obtain rfl : c2 = Value.int .i64 z2 := by simpa using e2
    have f3 := hf 3 _ rfl
    rw [List.getElem?_eq_getElem (show 3 < xs.length by omega)] at f3
    have g3 : DataW.trod enc Try.prog w base spare held n 22 [c3] = some xs[3] := f3
    obtain ⟨z3, a3q0, c3q0, e3, r3q0⟩ := opn_22 g3
    obtain rfl : c3 = Value.slice a3q0 z3.length c3q0 := by simpa using e3
    have f4 := hf 4 _ rfl
    rw [List.getElem?_eq_getElem (show 4 < xs.length by omega)] at f4
    have g4 : DataW.trod enc Try.prog w base spare held n 22 [c4] = some xs[4] := f4
    obtain ⟨z4, a4q0, c4q0, e4, r4q0⟩ := opn_22 g4
    obtain rfl : c4 = Value.slice a4q0 z4.length c4q0 := by simpa using e4
    have f5 := hf 5 _ rfl
    rw [List.getElem?_eq_getElem (show 5 < xs.length by omega)] at f5
    have g5 : DataW.trod enc Try.prog w base spare held n 3 [c5] = some xs[5] := f5
    obtain ⟨z5, e5⟩ := opn_3 g5
    obtain rfl : c5 = Value.int .i64 z5 := by simpa using e5
    have f6 := hf 6 _ rfl
    rw [List.getElem?_eq_getElem (show 6 < xs.length by omega)] at f6
    have g6 : DataW.trod enc Try.prog w base spare held n 3 [c6] = some xs[6] := f6
    obtain ⟨z6, e6⟩ := opn_3 g6
    obtain rfl : c6 = Value.int .i64 z6 := by simpa using e6
    have f7 := hf 7 _ rfl
    rw [List.getElem?_eq_getElem (show 7 < xs.length by omega)] at f7
    have g7 : DataW.trod enc Try.prog w base spare held n 22 [c7] = some xs[7] := f7
    obtain ⟨z7, a7q0, c7q0, e7, r7q0⟩ := opn_22 g7
    obtain rfl : c7 = Value.slice a7q0 z7.length c7q0 := by simpa using e7
    have f8 := hf 8 _ rfl
    rw [List.getElem?_eq_getElem (show 8 < xs.length by omega)] at f8
    have g8 : DataW.trod enc Try.prog w base spare held n 22 [c8] = some xs[8] := f8
    obtain ⟨z8, a8q0, c8q0, e8, r8q0⟩ := opn_22 g8
    obtain rfl : c8 = Value.slice a8q0 z8.length c8q0 := by simpa using e8
    have f9 := hf 9 _ rfl
    rw [List.getElem?_eq_getElem (show 9 < xs.length by omega)] at f9
    have g9 : DataW.trod enc Try.prog w base spare held n 56 [c9, c10] = some xs[9] := f9
    obtain ⟨z9, e9⟩ := opn_56 g9
    obtain ⟨rfl, rfl⟩ : c9 = Value.int .i64 z9.Host ∧ c10 = Value.int .i64 z9.Port := by simpa using e9
    have f10 := hf 10 _ rfl
    rw [List.getElem?_eq_getElem (show 10 < xs.length by omega)] at f10
    have g10 : DataW.trod enc Try.prog w base spare held n 3 [c11] = some xs[10] := f10
    obtain ⟨z10, e10⟩ := opn_3 g10
    obtain rfl : c11 = Value.int .i64 z10 := by simpa using e10
    exact ⟨{ Kind := z0, Id := z1, Role := z2, Cn := z3, Sn := z4, Epoch := z5, Seq := z6, Body := z7, Key := z8, A := z9, Now := z10 }, a3q0, c3q0, a4q0, c4q0, a7q0, c7q0, a8q0, c8q0, rfl, r3q0, r4q0, r7q0, r8q0⟩
theorem lifted (os : Os) (started : os.Started) (H : Type) (enc : TypeId × Value → H) :
    ReturnsInHanded {} Try.checked os 9 .any (Rows.fnExactSameNoteSpec.pre6 enc Try.prog Try.f9 Rows.fnExactSameNoteRow.domain false) (Rows.fnExactSameNoteSpec.post enc Try.prog Try.f9 false true false false) := by
  refine returnsInHanded_of_change (C := Try.checked) own started (by kernel_rfl) Try.func9
    (ChangeSpec.witness6 (enc := enc) (C := Try.checked) false ⟨#[], #[(.agg #[(.int .i64 0), (.int .i64 0), (.int .i64 0), (.slice none 0 0), (.slice none 0 0), (.int .i64 0), (.int .i64 0), (.slice none 0 0), (.slice none 0 0), (.int .i64 0), (.int .i64 0), (.int .i64 0)]), (.agg #[(.int .i64 0), (.int .i64 0), (.int .i64 0), (.slice none 0 0), (.slice none 0 0), (.int .i64 0), (.int .i64 0), (.slice none 0 0), (.slice none 0 0), (.int .i64 0), (.int .i64 0), (.int .i64 0)])], []⟩ 8 (by kernel_rfl) (by kernel_rfl) (by kernel_rfl) (by kernel_rfl)) ?_
  intro W base args ds gs before hval0 hW hcnd _
  have hval : ∀ (j : Nat) t v, Try.f9.params[j]? = some t → args[j]? = some v → Value.okWide Try.prog W .any base t v := hval0
  have hW' := hW
  obtain ⟨p, q, hA0, hV, rfl, hfz, hnd⟩ := hW
  have hA : DataW.TrodAll enc Try.prog W 0 (fun _ => true) true Try.f9.params.toList args.toList ds p := hA0
  rw [Try.params9] at hA hval
  obtain ⟨v0, vs0, d0, ds0, p0, q0, hargs, rfl, rfl, h0, r0⟩ := trodAll_cons hA
  obtain ⟨v1, vs1, d1, ds1, p1, q1, rfl, rfl, rfl, h1, r1⟩ := trodAll_cons r0
  obtain ⟨rfl, rfl, rfl⟩ := trodAll_nil r1
  obtain rfl : args = #[v0, v1] := by cases args; simp_all
  obtain ⟨rfl, rfl⟩ := trodVars_none hV
  have k0 := h0
  have lt0 : ∀ x ∈ p0, x.block < W.heap.size := by obtain ⟨m, hm⟩ := k0; exact DataW.trod_lt m _ _ _ hm
  obtain ⟨cs0, rfl, _⟩ := okWide_struct Try.underlying58 (hval 0 58 v0 rfl rfl)
  obtain ⟨fu0, hf0⟩ := h0
  obtain ⟨x0, a0q0, c0q0, a0q1, c0q1, a0q2, c0q2, a0q3, c0q3, hc0, g0q0, g0q1, g0q2, g0q3⟩ := opn_58 hf0
  have he0 : cs0 = #[.int .i64 x0.Kind, .int .i64 x0.Id, .int .i64 x0.Role, .slice a0q0 x0.Cn.length c0q0, .slice a0q1 x0.Sn.length c0q1, .int .i64 x0.Epoch, .int .i64 x0.Seq, .slice a0q2 x0.Body.length c0q2, .slice a0q3 x0.Key.length c0q3, .int .i64 x0.A.Host, .int .i64 x0.A.Port, .int .i64 x0.Now] := by simpa [Value.cells] using congrArg List.toArray hc0
  subst he0
  have k1 := h1
  have lt1 : ∀ x ∈ p1, x.block < W.heap.size := by obtain ⟨m, hm⟩ := k1; exact DataW.trod_lt m _ _ _ hm
  obtain ⟨cs1, rfl, _⟩ := okWide_struct Try.underlying58 (hval 1 58 v1 rfl rfl)
  obtain ⟨fu1, hf1⟩ := h1
  obtain ⟨x1, a1q0, c1q0, a1q1, c1q1, a1q2, c1q2, a1q3, c1q3, hc1, g1q0, g1q1, g1q2, g1q3⟩ := opn_58 hf1
  have he1 : cs1 = #[.int .i64 x1.Kind, .int .i64 x1.Id, .int .i64 x1.Role, .slice a1q0 x1.Cn.length c1q0, .slice a1q1 x1.Sn.length c1q1, .int .i64 x1.Epoch, .int .i64 x1.Seq, .slice a1q2 x1.Body.length c1q2, .slice a1q3 x1.Key.length c1q3, .int .i64 x1.A.Host, .int .i64 x1.A.Port, .int .i64 x1.Now] := by simpa [Value.cells] using congrArg List.toArray hc1
  subst he1
  have hC := law_of ((Go.Proofs.Ytodlalolknldmaa.K.C_laws_FnExactSameNote W (.agg #[.int .i64 x0.Kind, .int .i64 x0.Id, .int .i64 x0.Role, .slice a0q0 x0.Cn.length c0q0, .slice a0q1 x0.Sn.length c0q1, .int .i64 x0.Epoch, .int .i64 x0.Seq, .slice a0q2 x0.Body.length c0q2, .slice a0q3 x0.Key.length c0q3, .int .i64 x0.A.Host, .int .i64 x0.A.Port, .int .i64 x0.Now]) x0 ⟨_, _, _, _, _, _, _, _, rfl, g0q0, (by obtain ⟨_, _, _, q1, q2, _⟩ := g0q0; simp only [maxLen] at q2; omega), g0q1, (by obtain ⟨_, _, _, q1, q2, _⟩ := g0q1; simp only [maxLen] at q2; omega), g0q2, (by obtain ⟨_, _, _, q1, q2, _⟩ := g0q2; simp only [maxLen] at q2; omega), g0q3, (by obtain ⟨_, _, _, q1, q2, _⟩ := g0q3; simp only [maxLen] at q2; omega)⟩ (.agg #[.int .i64 x1.Kind, .int .i64 x1.Id, .int .i64 x1.Role, .slice a1q0 x1.Cn.length c1q0, .slice a1q1 x1.Sn.length c1q1, .int .i64 x1.Epoch, .int .i64 x1.Seq, .slice a1q2 x1.Body.length c1q2, .slice a1q3 x1.Key.length c1q3, .int .i64 x1.A.Host, .int .i64 x1.A.Port, .int .i64 x1.Now]) x1 ⟨_, _, _, _, _, _, _, _, rfl, g1q0, (by obtain ⟨_, _, _, q1, q2, _⟩ := g1q0; simp only [maxLen] at q2; omega), g1q1, (by obtain ⟨_, _, _, q1, q2, _⟩ := g1q1; simp only [maxLen] at q2; omega), g1q2, (by obtain ⟨_, _, _, q1, q2, _⟩ := g1q2; simp only [maxLen] at q2; omega), g1q3, (by obtain ⟨_, _, _, q1, q2, _⟩ := g1q3; simp only [maxLen] at q2; omega)⟩).mono fun v w' hr => ⟨hr.1, hr.2.trans (congrArg Value.bool (law_SameNote x0 x1))⟩)
  refine Calls.mono hC fun e W' hb => ?_
  obtain ⟨he, bel⟩ := hb
  subst he
  exact ⟨_, rfl, _, _, _, [], _, [], hW', trodAll_mk1 (shut_bool Try.underlying4 _), (trodAll_cons_mk (Below.trod laidOut (by kernel_rfl) (of_decide_eq_true (by kernel_rfl)) k0 bel lt0) (trodAll_cons_mk (Below.trod laidOut (by kernel_rfl) (of_decide_eq_true (by kernel_rfl)) k1 bel lt1) trodAll_mk0)), rfl, bel.frame _, fun h => by cases h⟩
theorem over : Rows.fnExactSameNoteRow.holds Try.pinned (OpenSpec.ofChange Rows.fnExactSameNoteSpec) :=
  OpenClaim.holds_of_wide 9 Try.f9 rfl rfl rfl rfl rfl rfl rfl ⟨rfl, rfl, rfl, rfl, rfl⟩ rfl rfl rfl rfl rfl (by kernel_rfl) Try.func9 (by kernel_rfl)
    (of_decide_eq_true (by kernel_rfl)) (by unfold Func.isWrapper; first | (rw [if_pos (by decide +kernel)]; kernel_rfl) | (rw [if_neg (by decide +kernel)]; exact ⟨rfl, rfl⟩))
    (fun os started H enc _ => lifted os started H enc)
theorem proved : Rows.FnExactSameNoteSaid := over
end Go.Proofs.Ytodlalolknldmaa.fnExactSameNote
