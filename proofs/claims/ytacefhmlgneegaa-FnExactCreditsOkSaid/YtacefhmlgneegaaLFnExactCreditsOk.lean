/- The law FnExactCreditsOk of the given program returns true for every input, and changes none of its arguments. No condition. -/
import Derived.Test.YtacefhmlgneegaaRows
import Derived.Test.YtacefhmlgneegaaLawGc
import Derived.Test.YtacefhmlgneegaaCame
import Derived.WalkKit
import Derived.ProofKit
import Derived.OpenShut
import Derived.ShutString
import Derived.ChangeOld
import Derived.Below
namespace Go.Proofs.Ytacefhmlgneegaa.fnExactCreditsOk
open Go.ChangeShapes Go.WideShapes Go.ChangeAt Go.RowKit
open Go.ChangeMaps (open_string shut_string)
open Go.Proofs.Ytacefhmlgneegaa.K
set_option linter.unusedVariables false
set_option maxRecDepth 100000
theorem own : ownKnob Try.prog.godebug = none := by kernel_rfl
theorem laidOut : laidOutB Try.prog = true := by kernel_rfl
theorem opn_3 {w : World} {H : Type} {enc : TypeId × Value → H} {base fuel : Nat} {spare : Nat → Bool} {held : Bool} {cs : List Value} {y : DataW H × List MemPlace} (h : DataW.trod enc Try.prog w base spare held fuel 3 cs = some y) :
    ∃ (x : Int) , cs = [.int .i64 x] := came_int Try.underlying3 h
theorem opn_69 {w : World} {H : Type} {enc : TypeId × Value → H} {base fuel : Nat} {spare : Nat → Bool} {held : Bool} {cs : List Value} {y : DataW H × List MemPlace} (h : DataW.trod enc Try.prog w base spare held fuel 69 cs = some y) :
    ∃ (x : PAddr) , cs = [.int .i64 x.Host, .int .i64 x.Port] := by
  obtain ⟨xs, n, _, _, hl, hx, hf⟩ := DataW.trod_struct Try.underlying69 h
  have hl1 : cs.length = 2 := hl.trans (by kernel_rfl)
  have hx1 : xs.length = 2 := hx
  match cs, hl1 with
  | [c0, c1], _ =>
    have f0 := hf 0 _ rfl
    rw [List.getElem?_eq_getElem (show 0 < xs.length by omega)] at f0
    have g0 : DataW.trod enc Try.prog w base spare held n 3 [c0] = some xs[0] := f0
    obtain ⟨z0, e0⟩ := opn_3 g0
    obtain rfl : c0 = Value.int .i64 z0 := by simpa using e0
    have f1 := hf 1 _ rfl
    rw [List.getElem?_eq_getElem (show 1 < xs.length by omega)] at f1
    have g1 : DataW.trod enc Try.prog w base spare held n 3 [c1] = some xs[1] := f1
    obtain ⟨z1, e1⟩ := opn_3 g1
    obtain rfl : c1 = Value.int .i64 z1 := by simpa using e1
    exact ⟨{ Host := z0, Port := z1 }, rfl⟩
theorem opn_71 {w : World} {H : Type} {enc : TypeId × Value → H} {base fuel : Nat} {spare : Nat → Bool} {held : Bool} {cs : List Value} {y : DataW H × List MemPlace} (h : DataW.trod enc Try.prog w base spare held fuel 71 cs = some y) :
    ∃ (x : PCredit) , cs = [.int .i64 x.A.Host, .int .i64 x.A.Port, .int .i64 x.Got, .int .i64 x.Sent] := by
  obtain ⟨xs, n, _, _, hl, hx, hf⟩ := DataW.trod_struct Try.underlying71 h
  have hl1 : cs.length = 4 := hl.trans (by kernel_rfl)
  have hx1 : xs.length = 3 := hx
  match cs, hl1 with
  | [c0, c1, c2, c3], _ =>
    have f0 := hf 0 _ rfl
    rw [List.getElem?_eq_getElem (show 0 < xs.length by omega)] at f0
    have g0 : DataW.trod enc Try.prog w base spare held n 69 [c0, c1] = some xs[0] := f0
    obtain ⟨z0, e0⟩ := opn_69 g0
    obtain ⟨rfl, rfl⟩ : c0 = Value.int .i64 z0.Host ∧ c1 = Value.int .i64 z0.Port := by simpa using e0
    have f1 := hf 1 _ rfl
    rw [List.getElem?_eq_getElem (show 1 < xs.length by omega)] at f1
    have g1 : DataW.trod enc Try.prog w base spare held n 3 [c2] = some xs[1] := f1
    obtain ⟨z1, e1⟩ := opn_3 g1
    obtain rfl : c2 = Value.int .i64 z1 := by simpa using e1
    have f2 := hf 2 _ rfl
    rw [List.getElem?_eq_getElem (show 2 < xs.length by omega)] at f2
    have g2 : DataW.trod enc Try.prog w base spare held n 3 [c3] = some xs[2] := f2
    obtain ⟨z2, e2⟩ := opn_3 g2
    obtain rfl : c3 = Value.int .i64 z2 := by simpa using e2
    exact ⟨{ A := z0, Got := z1, Sent := z2 }, rfl⟩
theorem opn_41 {w : World} {H : Type} {enc : TypeId × Value → H} {base fuel : Nat} {spare : Nat → Bool} {held : Bool} {cs : List Value} {y : DataW H × List MemPlace} (h : DataW.trod enc Try.prog w base spare held fuel 41 cs = some y) :
    ∃ (x : List PCredit) (a1 : Option Addr) (c1 : Nat), cs = [.slice a1 x.length c1] ∧ Rd w 4 (.slice a1 x.length c1) x.length (x.flatMap enc_PCredit) := by
  obtain ⟨x, a, c, h1, h2, -⟩ := came_L (Φ := fun _ => True) enc_PCredit_len Try.underlying41 (by kernel_rfl) (by decide) (fun n cs y hy => by obtain ⟨x, hx⟩ := opn_71 hy; exact ⟨x, hx, trivial⟩) h
  exact ⟨x, a, c, h1, h2⟩
theorem lifted (os : Os) (started : os.Started) (H : Type) (enc : TypeId × Value → H) :
    ReturnsInHanded {} Try.checked os 10 .any (Rows.fnExactCreditsOkSpec.pre6 enc Try.prog Try.f10 Rows.fnExactCreditsOkRow.domain false) (Rows.fnExactCreditsOkSpec.post enc Try.prog Try.f10 false true false false) := by
  refine returnsInHanded_of_change (C := Try.checked) own started (by kernel_rfl) Try.func10
    (ChangeSpec.witness6 (enc := enc) (C := Try.checked) false ⟨#[], #[(vs none 0 0)], []⟩ 8 (by kernel_rfl) (by kernel_rfl) (by kernel_rfl) (by kernel_rfl)) ?_
  intro W base args ds gs before hval0 hW hcnd _
  have hval : ∀ (j : Nat) t v, Try.f10.params[j]? = some t → args[j]? = some v → Value.okWide Try.prog W .any base t v := hval0
  have hW' := hW
  obtain ⟨p, q, hA0, hV, rfl, hfz, hnd⟩ := hW
  have hA : DataW.TrodAll enc Try.prog W 0 (fun _ => true) true Try.f10.params.toList args.toList ds p := hA0
  rw [Try.params10] at hA hval
  obtain ⟨v0, vs0, d0, ds0, p0, q0, hargs, rfl, rfl, h0, r0⟩ := trodAll_cons hA
  obtain ⟨rfl, rfl, rfl⟩ := trodAll_nil r0
  obtain rfl : args = #[v0] := by cases args; simp_all
  obtain ⟨rfl, rfl⟩ := trodVars_none hV
  have k0 := h0
  have lt0 : ∀ x ∈ p0, x.block < W.heap.size := by obtain ⟨m, hm⟩ := k0; exact DataW.trod_lt m _ _ _ hm
  obtain ⟨sa0, sl0, sc0, rfl⟩ := okWide_slice Try.underlying41 (hval 0 41 v0 rfl rfl)
  obtain ⟨fu0, hf0⟩ := h0
  obtain ⟨x0, a0q0, c0q0, hc0, g0q0⟩ := opn_41 hf0
  have he0 : Value.slice sa0 sl0 sc0 = .slice a0q0 x0.length c0q0 := by simpa [Value.cells] using hc0
  injection he0 with he0a he0b he0c
  subst he0a he0b he0c
  have hC := law_of ((Go.Proofs.Ytacefhmlgneegaa.K.C_laws_FnExactCreditsOk W (.slice sa0 x0.length sc0) x0 ⟨_, _, rfl, g0q0, (by obtain ⟨_, _, _, q1, q2, _⟩ := g0q0; simp only [maxLen] at q2; omega)⟩).mono fun v w' hr => ⟨hr.1, hr.2.trans (congrArg Value.bool (law_CreditsOk x0))⟩)
  refine Calls.mono hC fun e W' hb => ?_
  obtain ⟨he, bel⟩ := hb
  subst he
  exact ⟨_, rfl, _, _, _, [], _, [], hW', trodAll_mk1 (shut_bool Try.underlying4 _), (trodAll_cons_mk (Below.trod laidOut (by kernel_rfl) (of_decide_eq_true (by kernel_rfl)) k0 bel lt0) trodAll_mk0), rfl, bel.frame _, fun h => by cases h⟩
theorem over : Rows.fnExactCreditsOkRow.holds Try.pinned (OpenSpec.ofChange Rows.fnExactCreditsOkSpec) :=
  OpenClaim.holds_of_wide 10 Try.f10 rfl rfl rfl rfl rfl rfl rfl ⟨rfl, rfl, rfl, rfl, rfl⟩ rfl rfl rfl rfl rfl (by kernel_rfl) Try.func10 (by kernel_rfl)
    (of_decide_eq_true (by kernel_rfl)) (by unfold Func.isWrapper; first | (rw [if_pos (by decide +kernel)]; kernel_rfl) | (rw [if_neg (by decide +kernel)]; exact ⟨rfl, rfl⟩))
    (fun os started H enc _ => lifted os started H enc)
theorem proved : Rows.FnExactCreditsOkSaid := over
end Go.Proofs.Ytacefhmlgneegaa.fnExactCreditsOk
