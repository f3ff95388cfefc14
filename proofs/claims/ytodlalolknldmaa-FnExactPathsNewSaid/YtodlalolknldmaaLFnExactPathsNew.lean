/- The law FnExactPathsNew of the given program returns true for every input, and changes none of its arguments. No condition. -/
import Derived.Test.YtodlalolknldmaaRows
import Derived.Test.YtodlalolknldmaaLawP
import Derived.Test.YtodlalolknldmaaCame
import Derived.WalkKit
import Derived.ProofKit
import Derived.OpenShut
import Derived.ShutString
import Derived.ChangeOld
import Derived.Below
namespace Go.Proofs.Ytodlalolknldmaa.fnExactPathsNew
open Go.ChangeShapes Go.WideShapes Go.ChangeAt Go.RowKit
open Go.ChangeMaps (open_string shut_string)
open Go.Proofs.Ytodlalolknldmaa.K
set_option linter.unusedVariables false
set_option maxRecDepth 100000
theorem own : ownKnob Try.prog.godebug = none := by kernel_rfl
theorem laidOut : laidOutB Try.prog = true := by kernel_rfl
theorem opn_3 {w : World} {H : Type} {enc : TypeId × Value → H} {base fuel : Nat} {spare : Nat → Bool} {held : Bool} {cs : List Value} {y : DataW H × List MemPlace} (h : DataW.trod enc Try.prog w base spare held fuel 3 cs = some y) :
    ∃ (x : Int) , cs = [.int .i64 x] := came_int Try.underlying3 h
theorem opn_56 {w : World} {H : Type} {enc : TypeId × Value → H} {base fuel : Nat} {spare : Nat → Bool} {held : Bool} {cs : List Value} {y : DataW H × List MemPlace} (h : DataW.trod enc Try.prog w base spare held fuel 56 cs = some y) :
    ∃ (x : PAddr) , cs = [.int .i64 x.Host, .int .i64 x.Port] := by
  obtain ⟨xs, n, _, _, hl, hx, hf⟩ := DataW.trod_struct Try.underlying56 h
  have hl1 : cs.length = 2 := hl.trans (by kernel_rfl)
  have hx1 : xs.length = 2 := hx
  match cs, hl1 with
  | [c0, c1], _ =>
    have f0 := hf 0 _ rfl
    rw [List.getElem?_eq_getElem (show 0 < xs.length by omega)] at f0
    have g0 : DataW.trod enc Try.prog w base spare held n 3 [c0] = some xs[0] := f0
    obtain ⟨z0, e0⟩ := opn_3 g0
    obtain rfl : c0 = Value.int .i64 z0 := by simpa using e0
    have f1 := hf 1 _ rfl
    rw [List.getElem?_eq_getElem (show 1 < xs.length by omega)] at f1
    have g1 : DataW.trod enc Try.prog w base spare held n 3 [c1] = some xs[1] := f1
    obtain ⟨z1, e1⟩ := opn_3 g1
    obtain rfl : c1 = Value.int .i64 z1 := by simpa using e1
    exact ⟨{ Host := z0, Port := z1 }, rfl⟩
theorem lifted (os : Os) (started : os.Started) (H : Type) (enc : TypeId × Value → H) :
    ReturnsInHanded {} Try.checked os 14 .any (Rows.fnExactPathsNewSpec.pre6 enc Try.prog Try.f14 Rows.fnExactPathsNewRow.domain false) (Rows.fnExactPathsNewSpec.post enc Try.prog Try.f14 false true false false) := by
  refine returnsInHanded_of_change (C := Try.checked) own started (by kernel_rfl) Try.func14
    (ChangeSpec.witness6 (enc := enc) (C := Try.checked) false ⟨#[], #[(va [(vi 0), (vi 0)])], []⟩ 8 (by kernel_rfl) (by kernel_rfl) (by kernel_rfl) (by kernel_rfl)) ?_
  intro W base args ds gs before hval0 hW hcnd _
  have hval : ∀ (j : Nat) t v, Try.f14.params[j]? = some t → args[j]? = some v → Value.okWide Try.prog W .any base t v := hval0
  have hW' := hW
  obtain ⟨p, q, hA0, hV, rfl, hfz, hnd⟩ := hW
  have hA : DataW.TrodAll enc Try.prog W 0 (fun _ => true) true Try.f14.params.toList args.toList ds p := hA0
  rw [Try.params14] at hA hval
  obtain ⟨v0, vs0, d0, ds0, p0, q0, hargs, rfl, rfl, h0, r0⟩ := trodAll_cons hA
  obtain ⟨rfl, rfl, rfl⟩ := trodAll_nil r0
  obtain rfl : args = #[v0] := by cases args; simp_all
  obtain ⟨rfl, rfl⟩ := trodVars_none hV
  have k0 := h0
  have lt0 : ∀ x ∈ p0, x.block < W.heap.size := by obtain ⟨m, hm⟩ := k0; exact DataW.trod_lt m _ _ _ hm
  obtain ⟨cs0, rfl, _⟩ := okWide_struct Try.underlying56 (hval 0 56 v0 rfl rfl)
  obtain ⟨fu0, hf0⟩ := h0
  obtain ⟨x0, hc0⟩ := opn_56 hf0
  have he0 : cs0 = #[.int .i64 x0.Host, .int .i64 x0.Port] := by simpa [Value.cells] using congrArg List.toArray hc0
  subst he0
  have hC := law_of ((Go.Proofs.Ytodlalolknldmaa.K.C_laws_FnExactPathsNew W (.agg #[.int .i64 x0.Host, .int .i64 x0.Port]) x0 rfl).mono fun v w' hr => ⟨hr.1, hr.2.trans (congrArg Value.bool (law_PathsNew x0))⟩)
  refine Calls.mono hC fun e W' hb => ?_
  obtain ⟨he, bel⟩ := hb
  subst he
  exact ⟨_, rfl, _, _, _, [], _, [], hW', trodAll_mk1 (shut_bool Try.underlying4 _), (trodAll_cons_mk (Below.trod laidOut (by kernel_rfl) (of_decide_eq_true (by kernel_rfl)) k0 bel lt0) trodAll_mk0), rfl, bel.frame _, fun h => by cases h⟩
theorem over : Rows.fnExactPathsNewRow.holds Try.pinned (OpenSpec.ofChange Rows.fnExactPathsNewSpec) :=
  OpenClaim.holds_of_wide 14 Try.f14 rfl rfl rfl rfl rfl rfl rfl ⟨rfl, rfl, rfl, rfl, rfl⟩ rfl rfl rfl rfl rfl (by kernel_rfl) Try.func14 (by kernel_rfl)
    (of_decide_eq_true (by kernel_rfl)) (by unfold Func.isWrapper; first | (rw [if_pos (by decide +kernel)]; kernel_rfl) | (rw [if_neg (by decide +kernel)]; exact ⟨rfl, rfl⟩))
    (fun os started H enc _ => lifted os started H enc)
theorem proved : Rows.FnExactPathsNewSaid := over
end Go.Proofs.Ytodlalolknldmaa.fnExactPathsNew
