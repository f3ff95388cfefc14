/- The law FnExactTimerNext of the given program returns true for every input, and changes none of its arguments. No condition. -/
import Derived.Test.YtacefhmlgneegaaRows
import Derived.Test.YtacefhmlgneegaaLaw1
import Derived.WalkKit
import Derived.ProofKit
import Derived.OpenShut
import Derived.ShutString
import Derived.ChangeOld
import Derived.Below
namespace Go.Proofs.Ytacefhmlgneegaa.fnExactTimerNext
open Go.ChangeShapes Go.WideShapes Go.ChangeAt Go.RowKit
open Go.ChangeMaps (open_string shut_string)
open Go.Proofs.Ytacefhmlgneegaa.K
set_option linter.unusedVariables false
set_option maxRecDepth 100000
theorem own : ownKnob Try.prog.godebug = none := by kernel_rfl
theorem laidOut : laidOutB Try.prog = true := by kernel_rfl
theorem opn_4 {w : World} {H : Type} {enc : TypeId × Value → H} {base fuel : Nat} {spare : Nat → Bool} {held : Bool} {cs : List Value} {y : DataW H × List MemPlace} (h : DataW.trod enc Try.prog w base spare held fuel 4 cs = some y) :
    ∃ (x : Bool) , cs = [.bool x] := came_bool Try.underlying4 h
theorem opn_3 {w : World} {H : Type} {enc : TypeId × Value → H} {base fuel : Nat} {spare : Nat → Bool} {held : Bool} {cs : List Value} {y : DataW H × List MemPlace} (h : DataW.trod enc Try.prog w base spare held fuel 3 cs = some y) :
    ∃ (x : Int) , cs = [.int .i64 x] := came_int Try.underlying3 h
theorem opn_26 {w : World} {H : Type} {enc : TypeId × Value → H} {base fuel : Nat} {spare : Nat → Bool} {held : Bool} {cs : List Value} {y : DataW H × List MemPlace} (h : DataW.trod enc Try.prog w base spare held fuel 26 cs = some y) :
    ∃ (x : PTimer) , cs = [.bool x.On, .int .i64 x.Due, .int .i64 x.Wait, .int .i64 x.Tries] := by
  obtain ⟨xs, n, _, _, hl, hx, hf⟩ := DataW.trod_struct Try.underlying26 h
  have hl1 : cs.length = 4 := hl.trans (by kernel_rfl)
  have hx1 : xs.length = 4 := hx
  match cs, hl1 with
  | [c0, c1, c2, c3], _ =>
    have f0 := hf 0 _ rfl
    rw [List.getElem?_eq_getElem (show 0 < xs.length by omega)] at f0
    have g0 : DataW.trod enc Try.prog w base spare held n 4 [c0] = some xs[0] := f0
    obtain ⟨z0, e0⟩ := opn_4 g0
    obtain rfl : c0 = Value.bool z0 := by simpa using e0
    have f1 := hf 1 _ rfl
    rw [List.getElem?_eq_getElem (show 1 < xs.length by omega)] at f1
    have g1 : DataW.trod enc Try.prog w base spare held n 3 [c1] = some xs[1] := f1
    obtain ⟨z1, e1⟩ := opn_3 g1
    obtain rfl : c1 = Value.int .i64 z1 := by simpa using e1
    have f2 := hf 2 _ rfl
    rw [List.getElem?_eq_getElem (show 2 < xs.length by omega)] at f2
    have g2 : DataW.trod enc Try.prog w base spare held n 3 [c2] = some xs[2] := f2
    obtain ⟨z2, e2⟩ := opn_3 g2
    obtain rfl : c2 = Value.int .i64 z2 := by simpa using e2
    have f3 := hf 3 _ rfl
    rw [List.getElem?_eq_getElem (show 3 < xs.length by omega)] at f3
    have g3 : DataW.trod enc Try.prog w base spare held n 3 [c3] = some xs[3] := f3
    obtain ⟨z3, e3⟩ := opn_3 g3
    obtain rfl : c3 = Value.int .i64 z3 := by simpa using e3
    exact ⟨{ On := z0, Due := z1, Wait := z2, Tries := z3 }, rfl⟩
theorem lifted (os : Os) (started : os.Started) (H : Type) (enc : TypeId × Value → H) :
    ReturnsInHanded {} Try.checked os 9 .any (Rows.fnExactTimerNextSpec.pre6 enc Try.prog Try.f9 Rows.fnExactTimerNextRow.domain false) (Rows.fnExactTimerNextSpec.post enc Try.prog Try.f9 false true false false) := by
  refine returnsInHanded_of_change (C := Try.checked) own started (by kernel_rfl) Try.func9
    (ChangeSpec.witness6 (enc := enc) (C := Try.checked) false ⟨#[], #[(.agg #[(.bool false), (.int .i64 0), (.int .i64 0), (.int .i64 0)]), (.int .i64 0)], []⟩ 8 (by kernel_rfl) (by kernel_rfl) (by kernel_rfl) (by kernel_rfl)) ?_
  intro W base args ds gs before hval0 hW hcnd _
  have hval : ∀ (j : Nat) t v, Try.f9.params[j]? = some t → args[j]? = some v → Value.okWide Try.prog W .any base t v := hval0
  have hW' := hW
  obtain ⟨p, q, hA0, hV, rfl, hfz, hnd⟩ := hW
  have hA : DataW.TrodAll enc Try.prog W 0 (fun _ => true) true Try.f9.params.toList args.toList ds p := hA0
  rw [Try.params9] at hA hval
  obtain ⟨v0, vs0, d0, ds0, p0, q0, hargs, rfl, rfl, h0, r0⟩ := trodAll_cons hA
  obtain ⟨v1, vs1, d1, ds1, p1, q1, rfl, rfl, rfl, h1, r1⟩ := trodAll_cons r0
  obtain ⟨rfl, rfl, rfl⟩ := trodAll_nil r1
  obtain rfl : args = #[v0, v1] := by cases args; simp_all
  obtain ⟨rfl, rfl⟩ := trodVars_none hV
  have k0 := h0
  have lt0 : ∀ x ∈ p0, x.block < W.heap.size := by obtain ⟨m, hm⟩ := k0; exact DataW.trod_lt m _ _ _ hm
  obtain ⟨cs0, rfl, _⟩ := okWide_struct Try.underlying26 (hval 0 26 v0 rfl rfl)
  obtain ⟨fu0, hf0⟩ := h0
  obtain ⟨x0, hc0⟩ := opn_26 hf0
  have he0 : cs0 = #[.bool x0.On, .int .i64 x0.Due, .int .i64 x0.Wait, .int .i64 x0.Tries] := by simpa [Value.cells] using congrArg List.toArray hc0
  subst he0
  have k1 := h1
  have lt1 : ∀ x ∈ p1, x.block < W.heap.size := by obtain ⟨m, hm⟩ := k1; exact DataW.trod_lt m _ _ _ hm
  obtain ⟨n1, rfl, _⟩ := open_int Try.underlying3 (hval 1 3 v1 rfl rfl) h1
  have hC := law_of ((Go.Proofs.Ytacefhmlgneegaa.K.C_laws_FnExactTimerNext W (.agg #[.bool x0.On, .int .i64 x0.Due, .int .i64 x0.Wait, .int .i64 x0.Tries]) x0 rfl n1).mono fun v w' hr => ⟨hr.1, hr.2.trans (congrArg Value.bool (law_TimerNext x0 n1))⟩)
  refine Calls.mono hC fun e W' hb => ?_
  obtain ⟨he, bel⟩ := hb
  subst he
  exact ⟨_, rfl, _, _, _, [], _, [], hW', trodAll_mk1 (shut_bool Try.underlying4 _), (trodAll_cons_mk (Below.trod laidOut (by kernel_rfl) (of_decide_eq_true (by kernel_rfl)) k0 bel lt0) (trodAll_cons_mk (Below.trod laidOut (by kernel_rfl) (of_decide_eq_true (by kernel_rfl)) k1 bel lt1) trodAll_mk0)), rfl, bel.frame _, fun h => by cases h⟩
theorem over : Rows.fnExactTimerNextRow.holds Try.pinned (OpenSpec.ofChange Rows.fnExactTimerNextSpec) :=
  OpenClaim.holds_of_wide 9 Try.f9 rfl rfl rfl rfl rfl rfl rfl ⟨rfl, rfl, rfl, rfl, rfl⟩ rfl rfl rfl rfl rfl (by kernel_rfl) Try.func9 (by kernel_rfl)
    (of_decide_eq_true (by kernel_rfl)) (by unfold Func.isWrapper; first | (rw [if_pos (by decide +kernel)]; kernel_rfl) | (rw [if_neg (by decide +kernel)]; exact ⟨rfl, rfl⟩))
    (fun os started H enc _ => lifted os started H enc)
theorem proved : Rows.FnExactTimerNextSaid := over
end Go.Proofs.Ytacefhmlgneegaa.fnExactTimerNext
