/- The law FnExactCandOf of the given program returns true for every input, and changes none of its arguments. No condition. -/
import Derived.Test.YtcbdmamfmcdlaaaRows
import Derived.Test.YtcbdmamfmcdlaaaLawPd
import Derived.Test.YtcbdmamfmcdlaaaCame
import Derived.WalkKit
import Derived.ProofKit
import Derived.OpenShut
import Derived.ShutString
import Derived.ChangeOld
import Derived.Below
namespace Go.Proofs.Ytcbdmamfmcdlaaa.fnExactCandOf
open Go.ChangeShapes Go.WideShapes Go.ChangeAt Go.RowKit
open Go.ChangeMaps (open_string shut_string)
open Go.Proofs.Ytcbdmamfmcdlaaa.K
set_option linter.unusedVariables false
set_option maxRecDepth 100000
theorem own : ownKnob Try.prog.godebug = none := by kernel_rfl
theorem laidOut : laidOutB Try.prog = true := by kernel_rfl
theorem opn_3 {w : World} {H : Type} {enc : TypeId × Value → H} {base fuel : Nat} {spare : Nat → Bool} {held : Bool} {cs : List Value} {y : DataW H × List MemPlace} (h : DataW.trod enc Try.prog w base spare held fuel 3 cs = some y) :
    ∃ (x : Int) , cs = [.int .i64 x] := came_int Try.underlying3 h
theorem opn_36 {w : World} {H : Type} {enc : TypeId × Value → H} {base fuel : Nat} {spare : Nat → Bool} {held : Bool} {cs : List Value} {y : DataW H × List MemPlace} (h : DataW.trod enc Try.prog w base spare held fuel 36 cs = some y) :
    ∃ (x : PAddr) , cs = [.int .i64 x.Host, .int .i64 x.Port] := by
  obtain ⟨xs, n, _, _, hl, hx, hf⟩ := DataW.trod_struct Try.underlying36 h
  have hl1 : cs.length = 2 := hl.trans (by kernel_rfl)
  have hx1 : xs.length = 2 := hx
  match cs, hl1 with
  | [c0, c1], _ =>
    have f0 := hf 0 _ rfl
    rw [List.getElem?_eq_getElem (show 0 < xs.length by omega)] at f0
    have g0 : DataW.trod enc Try.prog w base spare held n 3 [c0] = some xs[0] := f0
    obtain ⟨z0, e0⟩ := opn_3 g0
    obtain rfl : c0 = Value.int .i64 z0 := by simpa using e0
    have f1 := hf 1 _ rfl
    rw [List.getElem?_eq_getElem (show 1 < xs.length by omega)] at f1
    have g1 : DataW.trod enc Try.prog w base spare held n 3 [c1] = some xs[1] := f1
    obtain ⟨z1, e1⟩ := opn_3 g1
    obtain rfl : c1 = Value.int .i64 z1 := by simpa using e1
    exact ⟨{ Host := z0, Port := z1 }, rfl⟩
theorem opn_22 {w : World} {H : Type} {enc : TypeId × Value → H} {base fuel : Nat} {spare : Nat → Bool} {held : Bool} {cs : List Value} {y : DataW H × List MemPlace} (h : DataW.trod enc Try.prog w base spare held fuel 22 cs = some y) :
    ∃ (x : List UInt8) (a1 : Option Addr) (c1 : Nat), cs = [.slice a1 x.length c1] ∧ Rd w 1 (.slice a1 x.length c1) x.length (x.map bV) := came_B Try.underlying22 Try.underlying5 (by kernel_rfl) h
theorem opn_143 {w : World} {H : Type} {enc : TypeId × Value → H} {base fuel : Nat} {spare : Nat → Bool} {held : Bool} {cs : List Value} {y : DataW H × List MemPlace} (h : DataW.trod enc Try.prog w base spare held fuel 143 cs = some y) :
    ∃ (x : PCand) (a1 : Option Addr) (c1 : Nat), cs = [.int .i64 x.A.Host, .int .i64 x.A.Port, .slice a1 x.Draw.length c1, .int .i64 x.Until] ∧ Rd w 1 (.slice a1 x.Draw.length c1) x.Draw.length (x.Draw.map bV) := by
  obtain ⟨xs, n, _, _, hl, hx, hf⟩ := DataW.trod_struct Try.underlying143 h
  have hl1 : cs.length = 4 := hl.trans (by kernel_rfl)
  have hx1 : xs.length = 3 := hx
  match cs, hl1 with
  | [c0, c1, c2, c3], _ =>
    have f0 := hf 0 _ rfl
    rw [List.getElem?_eq_getElem (show 0 < xs.length by omega)] at f0
    have g0 : DataW.trod enc Try.prog w base spare held n 36 [c0, c1] = some xs[0] := f0
    obtain ⟨z0, e0⟩ := opn_36 g0
    obtain ⟨rfl, rfl⟩ : c0 = Value.int .i64 z0.Host ∧ c1 = Value.int .i64 z0.Port := by simpa using e0
    have f1 := hf 1 _ rfl
    rw [List.getElem?_eq_getElem (show 1 < xs.length by omega)] at f1
    have g1 : DataW.trod enc Try.prog w base spare held n 22 [c2] = some xs[1] := f1
    obtain ⟨z1, a1q0, c1q0, e1, r1q0⟩ := opn_22 g1
    obtain rfl : c2 = Value.slice a1q0 z1.length c1q0 := by simpa using e1
    have f2 := hf 2 _ rfl
    rw [List.getElem?_eq_getElem (show 2 < xs.length by omega)] at f2
    have g2 : DataW.trod enc Try.prog w base spare held n 3 [c3] = some xs[2] := f2
    obtain ⟨z2, e2⟩ := opn_3 g2
    obtain rfl : c3 = Value.int .i64 z2 := by simpa using e2
    exact ⟨{ A := z0, Draw := z1, Until := z2 }, a1q0, c1q0, rfl, r1q0⟩
theorem opn_37 {w : World} {H : Type} {enc : TypeId × Value → H} {base fuel : Nat} {spare : Nat → Bool} {held : Bool} {cs : List Value} {y : DataW H × List MemPlace} (h : DataW.trod enc Try.prog w base spare held fuel 37 cs = some y) :
    ∃ (x : List PCand) (a1 : Option Addr) (c1 : Nat), cs = [.slice a1 x.length c1] ∧ RLv LT_143 w 9223372036854775807 a1 x.length c1 x := by
  obtain ⟨y, a, c, h1, h2, h3⟩ := came_L (Φ := fun e : El (PCand) => SubR w 9223372036854775807 e.2 (LT_143.bs e.1)) LT_143.len Try.underlying37 (by kernel_rfl) LT_143.pos (fun n cs y hy => by obtain ⟨x, a1, c1, e1, r1⟩ := opn_143 hy; exact ⟨(x, [(a1, c1)]), e1, ⟨⟨r1, show x.Draw.length ≤ 9223372036854775807 by obtain ⟨_, _, _, q1, q2, _⟩ := r1; simp only [maxLen] at q2; omega⟩, trivial⟩⟩) h
  have hl : y.length = (y.map Prod.fst).length := by simp
  rw [hl] at h1 h2
  exact ⟨y.map Prod.fst, a, c, h1, y, rfl, rfl, h2, h3, by obtain ⟨_, _, _, q1, q2, _⟩ := h2; simp only [maxLen] at q2; omega⟩
theorem opn_39 {w : World} {H : Type} {enc : TypeId × Value → H} {base fuel : Nat} {spare : Nat → Bool} {held : Bool} {cs : List Value} {y : DataW H × List MemPlace} (h : DataW.trod enc Try.prog w base spare held fuel 39 cs = some y) :
    ∃ (x : PPaths) (a1 : Option Addr) (c1 : Nat), cs = [.int .i64 x.At.Host, .int .i64 x.At.Port, .slice a1 x.Cands.length c1] ∧ RLv LT_143 w 9223372036854775807 a1 x.Cands.length c1 x.Cands := by
  obtain ⟨xs, n, _, _, hl, hx, hf⟩ := DataW.trod_struct Try.underlying39 h
  have hl1 : cs.length = 3 := hl.trans (by kernel_rfl)
  have hx1 : xs.length = 2 := hx
  match cs, hl1 with
  | [c0, c1, c2], _ =>
    have f0 := hf 0 _ rfl
    rw [List.getElem?_eq_getElem (show 0 < xs.length by omega)] at f0
    have g0 : DataW.trod enc Try.prog w base spare held n 36 [c0, c1] = some xs[0] := f0
    obtain ⟨z0, e0⟩ := opn_36 g0
    obtain ⟨rfl, rfl⟩ : c0 = Value.int .i64 z0.Host ∧ c1 = Value.int .i64 z0.Port := by simpa using e0
    have f1 := hf 1 _ rfl
    rw [List.getElem?_eq_getElem (show 1 < xs.length by omega)] at f1
    have g1 : DataW.trod enc Try.prog w base spare held n 37 [c2] = some xs[1] := f1
    obtain ⟨z1, a1q0, c1q0, e1, r1q0⟩ := opn_37 g1
    obtain rfl : c2 = Value.slice a1q0 z1.length c1q0 := by simpa using e1
    exact ⟨{ At := z0, Cands := z1 }, a1q0, c1q0, rfl, r1q0⟩
theorem lifted (os : Os) (started : os.Started) (H : Type) (enc : TypeId × Value → H) :
    ReturnsInHanded {} Try.checked os 4 .any (Rows.fnExactCandOfSpec.pre6 enc Try.prog Try.f4 Rows.fnExactCandOfRow.domain false) (Rows.fnExactCandOfSpec.post enc Try.prog Try.f4 false true false false) := by
  refine returnsInHanded_of_change (C := Try.checked) own started (by kernel_rfl) Try.func4
    (ChangeSpec.witness6 (enc := enc) (C := Try.checked) false ⟨#[], #[(va [(vi 0), (vi 0), (vs none 0 0)]), (va [(vi 0), (vi 0)])], []⟩ 8 (by kernel_rfl) (by kernel_rfl) (by kernel_rfl) (by kernel_rfl)) ?_
  intro W base args ds gs before hval0 hW hcnd _
  have hval : ∀ (j : Nat) t v, Try.f4.params[j]? = some t → args[j]? = some v → Value.okWide Try.prog W .any base t v := hval0
  have hW' := hW
  obtain ⟨p, q, hA0, hV, rfl, hfz, hnd⟩ := hW
  have hA : DataW.TrodAll enc Try.prog W 0 (fun _ => true) true Try.f4.params.toList args.toList ds p := hA0
  rw [Try.params4] at hA hval
  obtain ⟨v0, vs0, d0, ds0, p0, q0, hargs, rfl, rfl, h0, r0⟩ := trodAll_cons hA
  obtain ⟨v1, vs1, d1, ds1, p1, q1, rfl, rfl, rfl, h1, r1⟩ := trodAll_cons r0
  obtain ⟨rfl, rfl, rfl⟩ := trodAll_nil r1
  obtain rfl : args = #[v0, v1] := by cases args; simp_all
  obtain ⟨rfl, rfl⟩ := trodVars_none hV
  have k0 := h0
  have lt0 : ∀ x ∈ p0, x.block < W.heap.size := by obtain ⟨m, hm⟩ := k0; exact DataW.trod_lt m _ _ _ hm
  obtain ⟨cs0, rfl, _⟩ := okWide_struct Try.underlying39 (hval 0 39 v0 rfl rfl)
  obtain ⟨fu0, hf0⟩ := h0
  obtain ⟨x0, a0q0, c0q0, hc0, g0q0L⟩ := opn_39 hf0
  have he0 : cs0 = #[.int .i64 x0.At.Host, .int .i64 x0.At.Port, .slice a0q0 x0.Cands.length c0q0] := by simpa [Value.cells] using congrArg List.toArray hc0
  subst he0
  have k1 := h1
  have lt1 : ∀ x ∈ p1, x.block < W.heap.size := by obtain ⟨m, hm⟩ := k1; exact DataW.trod_lt m _ _ _ hm
  obtain ⟨cs1, rfl, _⟩ := okWide_struct Try.underlying36 (hval 1 36 v1 rfl rfl)
  obtain ⟨fu1, hf1⟩ := h1
  obtain ⟨x1, hc1⟩ := opn_36 hf1
  have he1 : cs1 = #[.int .i64 x1.Host, .int .i64 x1.Port] := by simpa [Value.cells] using congrArg List.toArray hc1
  subst he1
  have hC := law_of ((Go.Proofs.Ytcbdmamfmcdlaaa.K.C_laws_FnExactCandOf W (.agg #[.int .i64 x0.At.Host, .int .i64 x0.At.Port, .slice a0q0 x0.Cands.length c0q0]) x0 ⟨_, _, rfl, g0q0L, (RLv.small g0q0L)⟩ (.agg #[.int .i64 x1.Host, .int .i64 x1.Port]) x1 rfl).mono fun v w' hr => ⟨hr.1, hr.2.trans (congrArg Value.bool (law_CandOf x0 x1))⟩)
  refine Calls.mono hC fun e W' hb => ?_
  obtain ⟨he, bel⟩ := hb
  subst he
  exact ⟨_, rfl, _, _, _, [], _, [], hW', trodAll_mk1 (shut_bool Try.underlying4 _), (trodAll_cons_mk (Below.trod laidOut (by kernel_rfl) (of_decide_eq_true (by kernel_rfl)) k0 bel lt0) (trodAll_cons_mk (Below.trod laidOut (by kernel_rfl) (of_decide_eq_true (by kernel_rfl)) k1 bel lt1) trodAll_mk0)), rfl, bel.frame _, fun h => by cases h⟩
theorem over : Rows.fnExactCandOfRow.holds Try.pinned (OpenSpec.ofChange Rows.fnExactCandOfSpec) :=
  OpenClaim.holds_of_wide 4 Try.f4 rfl rfl rfl rfl rfl rfl rfl ⟨rfl, rfl, rfl, rfl, rfl⟩ rfl rfl rfl rfl rfl (by kernel_rfl) Try.func4 (by kernel_rfl)
    (of_decide_eq_true (by kernel_rfl)) (by unfold Func.isWrapper; first | (rw [if_pos (by decide +kernel)]; kernel_rfl) | (rw [if_neg (by decide +kernel)]; exact ⟨rfl, rfl⟩))
    (fun os started H enc _ => lifted os started H enc)
theorem proved : Rows.FnExactCandOfSaid := over
end Go.Proofs.Ytcbdmamfmcdlaaa.fnExactCandOf
