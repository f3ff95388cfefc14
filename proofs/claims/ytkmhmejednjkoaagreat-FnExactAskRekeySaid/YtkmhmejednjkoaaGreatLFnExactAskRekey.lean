/- The law FnExactAskRekey of the given program returns true for every input, and changes none of its arguments. No condition. -/
import Derived.Test.YtkmhmejednjkoaaGreatRows
import Derived.Test.YtkmhmejednjkoaaGreatLawQc
import Derived.Test.YtkmhmejednjkoaaGreatCame
import Derived.WalkKit
import Derived.ProofKit
import Derived.OpenShut
import Derived.ShutString
import Derived.ChangeOld
import Derived.Below
namespace Go.Proofs.YtkmhmejednjkoaaGreat.fnExactAskRekey
open Go.ChangeShapes Go.WideShapes Go.ChangeAt Go.RowKit
open Go.ChangeMaps (open_string shut_string)
open Go.Proofs.YtkmhmejednjkoaaGreat.K
set_option linter.unusedVariables false
set_option maxRecDepth 100000
theorem own : ownKnob Tryz.prog.godebug = none := by kernel_rfl
theorem laidOut : laidOutB Tryz.prog = true := by kernel_rfl
theorem opn_3 {w : World} {H : Type} {enc : TypeId × Value → H} {base fuel : Nat} {spare : Nat → Bool} {held : Bool} {cs : List Value} {y : DataW H × List MemPlace} (h : DataW.trod enc Tryz.prog w base spare held fuel 3 cs = some y) :
    ∃ (x : Int) , cs = [.int .i64 x] := came_int Tryz.underlying3 h
theorem opn_22 {w : World} {H : Type} {enc : TypeId × Value → H} {base fuel : Nat} {spare : Nat → Bool} {held : Bool} {cs : List Value} {y : DataW H × List MemPlace} (h : DataW.trod enc Tryz.prog w base spare held fuel 22 cs = some y) :
    ∃ (x : List UInt8) (a1 : Option Addr) (c1 : Nat), cs = [.slice a1 x.length c1] ∧ Rd w 1 (.slice a1 x.length c1) x.length (x.map bV) := came_B Tryz.underlying22 Tryz.underlying5 (by kernel_rfl) h
theorem opn_23 {w : World} {H : Type} {enc : TypeId × Value → H} {base fuel : Nat} {spare : Nat → Bool} {held : Bool} {cs : List Value} {y : DataW H × List MemPlace} (h : DataW.trod enc Tryz.prog w base spare held fuel 23 cs = some y) :
    ∃ (x : List Int) (a1 : Option Addr) (c1 : Nat), cs = [.slice a1 x.length c1] ∧ Rd w 1 (.slice a1 x.length c1) x.length (x.map iV) := came_I Tryz.underlying23 Tryz.underlying3 (by kernel_rfl) h
theorem opn_25 {w : World} {H : Type} {enc : TypeId × Value → H} {base fuel : Nat} {spare : Nat → Bool} {held : Bool} {cs : List Value} {y : DataW H × List MemPlace} (h : DataW.trod enc Tryz.prog w base spare held fuel 25 cs = some y) :
    ∃ (x : PWin) (a1 : Option Addr) (c1 : Nat), cs = [.int .i64 x.Top, .slice a1 x.Bits.length c1] ∧ Rd w 1 (.slice a1 x.Bits.length c1) x.Bits.length (x.Bits.map iV) := by
  obtain ⟨xs, n, _, _, hl, hx, hf⟩ := DataW.trod_struct Tryz.underlying25 h
  have hl1 : cs.length = 2 := hl.trans (by kernel_rfl)
  have hx1 : xs.length = 2 := hx
  match cs, hl1 with
  | [c0, c1], _ =>
    have f0 := hf 0 _ rfl
    rw [List.getElem?_eq_getElem (show 0 < xs.length by omega)] at f0
    have g0 : DataW.trod enc Tryz.prog w base spare held n 3 [c0] = some xs[0] := f0
    obtain ⟨z0, e0⟩ := opn_3 g0
    obtain rfl : c0 = Value.int .i64 z0 := by simpa using e0
    have f1 := hf 1 _ rfl
    rw [List.getElem?_eq_getElem (show 1 < xs.length by omega)] at f1
    have g1 : DataW.trod enc Tryz.prog w base spare held n 23 [c1] = some xs[1] := f1
    obtain ⟨z1, a1q0, c1q0, e1, r1q0⟩ := opn_23 g1
    obtain rfl : c1 = Value.slice a1q0 z1.length c1q0 := by simpa using e1
    exact ⟨{ Top := z0, Bits := z1 }, a1q0, c1q0, rfl, r1q0⟩
theorem opn_27 {w : World} {H : Type} {enc : TypeId × Value → H} {base fuel : Nat} {spare : Nat → Bool} {held : Bool} {cs : List Value} {y : DataW H × List MemPlace} (h : DataW.trod enc Tryz.prog w base spare held fuel 27 cs = some y) :
    ∃ (x : PEp) (a1 : Option Addr) (c1 : Nat) (a2 : Option Addr) (c2 : Nat), cs = [.int .i64 x.N, .slice a1 x.Key.length c1, .int .i64 x.Seq, .int .i64 x.Win.Top, .slice a2 x.Win.Bits.length c2] ∧ Rd w 1 (.slice a1 x.Key.length c1) x.Key.length (x.Key.map bV) ∧ Rd w 1 (.slice a2 x.Win.Bits.length c2) x.Win.Bits.length (x.Win.Bits.map iV) := by
  obtain ⟨xs, n, _, _, hl, hx, hf⟩ := DataW.trod_struct Tryz.underlying27 h
  have hl1 : cs.length = 5 := hl.trans (by kernel_rfl)
  have hx1 : xs.length = 4 := hx
  match cs, hl1 with
  | [c0, c1, c2, c3, c4], _ =>
    have f0 := hf 0 _ rfl
    rw [List.getElem?_eq_getElem (show 0 < xs.length by omega)] at f0
    have g0 : DataW.trod enc Tryz.prog w base spare held n 3 [c0] = some xs[0] := f0
    obtain ⟨z0, e0⟩ := opn_3 g0
    obtain rfl : c0 = Value.int .i64 z0 := by simpa using e0
    have f1 := hf 1 _ rfl
    rw [List.getElem?_eq_getElem (show 1 < xs.length by omega)] at f1
    have g1 : DataW.trod enc Tryz.prog w base spare held n 22 [c1] = some xs[1] := f1
    obtain ⟨z1, a1q0, c1q0, e1, r1q0⟩ := opn_22 g1
    obtain rfl : c1 = Value.slice a1q0 z1.length c1q0 := by simpa using e1
    have f2 := hf 2 _ rfl
    rw [List.getElem?_eq_getElem (show 2 < xs.length by omega)] at f2
    have g2 : DataW.trod enc Tryz.prog w base spare held n 3 [c2] = some xs[2] := f2
    obtain ⟨z2, e2⟩ := opn_3 g2
    obtain rfl : c2 = Value.int .i64 z2 := by simpa using e2
    have f3 := hf 3 _ rfl
    rw [List.getElem?_eq_getElem (show 3 < xs.length by omega)] at f3
    have g3 : DataW.trod enc Tryz.prog w base spare held n 25 [c3, c4] = some xs[3] := f3
    obtain ⟨z3, a3q0, c3q0, e3, r3q0⟩ := opn_25 g3
    obtain ⟨rfl, rfl⟩ : c3 = Value.int .i64 z3.Top ∧ c4 = Value.slice a3q0 z3.Bits.length c3q0 := by simpa using e3
    exact ⟨{ N := z0, Key := z1, Seq := z2, Win := z3 }, a1q0, c1q0, a3q0, c3q0, rfl, r1q0, r3q0⟩
theorem opn_4 {w : World} {H : Type} {enc : TypeId × Value → H} {base fuel : Nat} {spare : Nat → Bool} {held : Bool} {cs : List Value} {y : DataW H × List MemPlace} (h : DataW.trod enc Tryz.prog w base spare held fuel 4 cs = some y) :
    ∃ (x : Bool) , cs = [.bool x] := came_bool Tryz.underlying4 h
theorem opn_29 {w : World} {H : Type} {enc : TypeId × Value → H} {base fuel : Nat} {spare : Nat → Bool} {held : Bool} {cs : List Value} {y : DataW H × List MemPlace} (h : DataW.trod enc Tryz.prog w base spare held fuel 29 cs = some y) :
    ∃ (x : PChan) (a1 : Option Addr) (c1 : Nat) (a2 : Option Addr) (c2 : Nat) (a3 : Option Addr) (c3 : Nat) (a4 : Option Addr) (c4 : Nat) (a5 : Option Addr) (c5 : Nat) (a6 : Option Addr) (c6 : Nat), cs = [.int .i64 x.Role, .slice a1 x.Sn.length c1, .int .i64 x.Cur.N, .slice a2 x.Cur.Key.length c2, .int .i64 x.Cur.Seq, .int .i64 x.Cur.Win.Top, .slice a3 x.Cur.Win.Bits.length c3, .int .i64 x.Old.N, .slice a4 x.Old.Key.length c4, .int .i64 x.Old.Seq, .int .i64 x.Old.Win.Top, .slice a5 x.Old.Win.Bits.length c5, .bool x.HasOld, .int .i64 x.Until, .slice a6 x.Next.length c6] ∧ Rd w 1 (.slice a1 x.Sn.length c1) x.Sn.length (x.Sn.map bV) ∧ Rd w 1 (.slice a2 x.Cur.Key.length c2) x.Cur.Key.length (x.Cur.Key.map bV) ∧ Rd w 1 (.slice a3 x.Cur.Win.Bits.length c3) x.Cur.Win.Bits.length (x.Cur.Win.Bits.map iV) ∧ Rd w 1 (.slice a4 x.Old.Key.length c4) x.Old.Key.length (x.Old.Key.map bV) ∧ Rd w 1 (.slice a5 x.Old.Win.Bits.length c5) x.Old.Win.Bits.length (x.Old.Win.Bits.map iV) ∧ Rd w 1 (.slice a6 x.Next.length c6) x.Next.length (x.Next.map bV) := by
  obtain ⟨xs, n, _, _, hl, hx, hf⟩ := DataW.trod_struct Tryz.underlying29 h
  have hl1 : cs.length = 15 := hl.trans (by kernel_rfl)
  have hx1 : xs.length = 7 := hx
  match cs, hl1 with
  | [c0, c1, c2, c3, c4, c5, c6, c7, c8, c9, c10, c11, c12, c13, c14], _ =>
    have f0 := hf 0 _ rfl
    rw [List.getElem?_eq_getElem (show 0 < xs.length by omega)] at f0
    have g0 : DataW.trod enc Tryz.prog w base spare held n 3 [c0] = some xs[0] := f0
    obtain ⟨z0, e0⟩ := opn_3 g0
    obtain rfl : c0 = Value.int .i64 z0 := by simpa using e0
    have f1 := hf 1 _ rfl
    rw [List.getElem?_eq_getElem (show 1 < xs.length by omega)] at f1
    have g1 : DataW.trod enc Tryz.prog w base spare held n 22 [c1] = some xs[1] := f1
    obtain ⟨z1, a1q0, c1q0, e1, r1q0⟩ := opn_22 g1
    obtain rfl : c1 = Value.slice a1q0 z1.length c1q0 := by simpa using e1
    have f2 := hf 2 _ rfl
    rw [List.getElem?_eq_getElem (show 2 < xs.length by omega)] at f2
    have g2 : DataW.trod enc Tryz.prog w base spare held n 27 [c2, c3, c4, c5, c6] = some xs[2] := f2
    obtain ⟨z2, a2q0, c2q0, a2q1, c2q1, e2, r2q0, r2q1⟩ := opn_27 g2
    obtain ⟨rfl, rfl, rfl, rfl, rfl⟩ : c2 = Value.int .i64 z2.N ∧ c3 = Value.slice a2q0 z2.Key.length c2q0 ∧ c4 = Value.int .i64 z2.Seq ∧ c5 = Value.int .i64 z2.Win.Top ∧ c6 = Value.slice a2q1 z2.Win.Bits.length c2q1 := by simpa using e2
    have f3 := hf 3 _ rfl
    rw [List.getElem?_eq_getElem (show 3 < xs.length by omega)] at f3
    have g3 : DataW.trod enc Tryz.prog w base spare held n 27 [c7, c8, c9, c10, c11] = some xs[3] := f3
    obtain ⟨z3, a3q0, c3q0, a3q1, c3q1, e3, r3q0, r3q1⟩ := opn_27 g3
    obtain ⟨rfl, rfl, rfl, rfl, rfl⟩ : c7 = Value.int .i64 z3.N ∧ c8 = Value.slice a3q0 z3.Key.length c3q0 ∧ c9 = Value.int .i64 z3.Seq ∧ c10 = Value.int .i64 z3.Win.Top ∧ c11 = Value.slice a3q1 z3.Win.Bits.length c3q1 := by simpa using e3
    have f4 := hf 4 _ rfl
    rw [List.getElem?_eq_getElem (show 4 < xs.length by omega)] at f4
    have g4 : DataW.trod enc Tryz.prog w base spare held n 4 [c12] = some xs[4] := f4
    obtain ⟨z4, e4⟩ := opn_4 g4
    obtain rfl : c12 = Value.bool z4 := by simpa using e4
    have f5 := hf 5 _ rfl
    rw [List.getElem?_eq_getElem (show 5 < xs.length by omega)] at f5
    have g5 : DataW.trod enc Tryz.prog w base spare held n 3 [c13] = some xs[5] := f5
    obtain ⟨z5, e5⟩ := opn_3 g5
    obtain rfl : c13 = Value.int .i64 z5 := by simpa using e5
    have f6 := hf 6 _ rfl
    rw [List.getElem?_eq_getElem (show 6 < xs.length by omega)] at f6
    have g6 : DataW.trod enc Tryz.prog w base spare held n 22 [c14] = some xs[6] := f6
    obtain ⟨z6, a6q0, c6q0, e6, r6q0⟩ := opn_22 g6
    obtain rfl : c14 = Value.slice a6q0 z6.length c6q0 := by simpa using e6
    exact ⟨{ Role := z0, Sn := z1, Cur := z2, Old := z3, HasOld := z4, Until := z5, Next := z6 }, a1q0, c1q0, a2q0, c2q0, a2q1, c2q1, a3q0, c3q0, a3q1, c3q1, a6q0, c6q0, rfl, r1q0, r2q0, r2q1, r3q0, r3q1, r6q0⟩
theorem lifted (os : Os) (started : os.Started) (H : Type) (enc : TypeId × Value → H) :
    ReturnsInHanded {} Tryz.checked os 5 .any (Rows.fnExactAskRekeySpec.pre6 enc Tryz.prog Tryz.f5 Rows.fnExactAskRekeyRow.domain false) (Rows.fnExactAskRekeySpec.post enc Tryz.prog Tryz.f5 false true false false) := by
  refine returnsInHanded_of_change (C := Tryz.checked) own started (by kernel_rfl) Tryz.func5
    (ChangeSpec.witness6 (enc := enc) (C := Tryz.checked) false ⟨#[], #[(va Z_35)], []⟩ 8 (by kernel_rfl) (by kernel_rfl) (by kernel_rfl) (by kernel_rfl)) ?_
  intro W base args ds gs before hval0 hW hcnd _
  have hval : ∀ (j : Nat) t v, Tryz.f5.params[j]? = some t → args[j]? = some v → Value.okWide Tryz.prog W .any base t v := hval0
  have hW' := hW
  obtain ⟨p, q, hA0, hV, rfl, hfz, hnd⟩ := hW
  have hA : DataW.TrodAll enc Tryz.prog W 0 (fun _ => true) true Tryz.f5.params.toList args.toList ds p := hA0
  rw [Tryz.params5] at hA hval
  obtain ⟨v0, vs0, d0, ds0, p0, q0, hargs, rfl, rfl, h0, r0⟩ := trodAll_cons hA
  obtain ⟨rfl, rfl, rfl⟩ := trodAll_nil r0
  obtain rfl : args = #[v0] := by cases args; simp_all
  obtain ⟨rfl, rfl⟩ := trodVars_none hV
  have k0 := h0
  have lt0 : ∀ x ∈ p0, x.block < W.heap.size := by obtain ⟨m, hm⟩ := k0; exact DataW.trod_lt m _ _ _ hm
  obtain ⟨cs0, rfl, _⟩ := okWide_struct Tryz.underlying29 (hval 0 29 v0 rfl rfl)
  obtain ⟨fu0, hf0⟩ := h0
  obtain ⟨x0, a0q0, c0q0, a0q1, c0q1, a0q2, c0q2, a0q3, c0q3, a0q4, c0q4, a0q5, c0q5, hc0, g0q0, g0q1, g0q2, g0q3, g0q4, g0q5⟩ := opn_29 hf0
  have he0 : cs0 = #[.int .i64 x0.Role, .slice a0q0 x0.Sn.length c0q0, .int .i64 x0.Cur.N, .slice a0q1 x0.Cur.Key.length c0q1, .int .i64 x0.Cur.Seq, .int .i64 x0.Cur.Win.Top, .slice a0q2 x0.Cur.Win.Bits.length c0q2, .int .i64 x0.Old.N, .slice a0q3 x0.Old.Key.length c0q3, .int .i64 x0.Old.Seq, .int .i64 x0.Old.Win.Top, .slice a0q4 x0.Old.Win.Bits.length c0q4, .bool x0.HasOld, .int .i64 x0.Until, .slice a0q5 x0.Next.length c0q5] := by simpa [Value.cells] using congrArg List.toArray hc0
  subst he0
  have hC := law_of ((Go.Proofs.YtkmhmejednjkoaaGreat.K.clFnExactAskRekey W (.agg #[.int .i64 x0.Role, .slice a0q0 x0.Sn.length c0q0, .int .i64 x0.Cur.N, .slice a0q1 x0.Cur.Key.length c0q1, .int .i64 x0.Cur.Seq, .int .i64 x0.Cur.Win.Top, .slice a0q2 x0.Cur.Win.Bits.length c0q2, .int .i64 x0.Old.N, .slice a0q3 x0.Old.Key.length c0q3, .int .i64 x0.Old.Seq, .int .i64 x0.Old.Win.Top, .slice a0q4 x0.Old.Win.Bits.length c0q4, .bool x0.HasOld, .int .i64 x0.Until, .slice a0q5 x0.Next.length c0q5]) x0 ⟨_, _, _, _, _, _, _, _, _, _, _, _, rfl, g0q0, (by obtain ⟨_, _, _, q1, q2, _⟩ := g0q0; simp only [maxLen] at q2; omega), g0q1, (by obtain ⟨_, _, _, q1, q2, _⟩ := g0q1; simp only [maxLen] at q2; omega), g0q2, (by obtain ⟨_, _, _, q1, q2, _⟩ := g0q2; simp only [maxLen] at q2; omega), g0q3, (by obtain ⟨_, _, _, q1, q2, _⟩ := g0q3; simp only [maxLen] at q2; omega), g0q4, (by obtain ⟨_, _, _, q1, q2, _⟩ := g0q4; simp only [maxLen] at q2; omega), g0q5, (by obtain ⟨_, _, _, q1, q2, _⟩ := g0q5; simp only [maxLen] at q2; omega)⟩).mono fun v w' hr => ⟨hr.1, hr.2.trans (congrArg Value.bool (law_AskRekey x0))⟩)
  refine Calls.mono hC fun e W' hb => ?_
  obtain ⟨he, bel⟩ := hb
  subst he
  exact ⟨_, rfl, _, _, _, [], _, [], hW', trodAll_mk1 (shut_bool Tryz.underlying4 _), (trodAll_cons_mk (Below.trod laidOut (by kernel_rfl) (of_decide_eq_true (by kernel_rfl)) k0 bel lt0) trodAll_mk0), rfl, bel.frame _, fun h => by cases h⟩
theorem over : Rows.fnExactAskRekeyRow.holds Tryz.pinned (OpenSpec.ofChange Rows.fnExactAskRekeySpec) :=
  OpenClaim.holds_of_wide 5 Tryz.f5 rfl rfl rfl rfl rfl rfl rfl ⟨rfl, rfl, rfl, rfl, rfl⟩ rfl rfl rfl rfl rfl (by kernel_rfl) Tryz.func5 (by kernel_rfl)
    (of_decide_eq_true (by kernel_rfl)) (by unfold Func.isWrapper; first | (rw [if_pos (by decide +kernel)]; kernel_rfl) | (rw [if_neg (by decide +kernel)]; exact ⟨rfl, rfl⟩))
    (fun os started H enc _ => lifted os started H enc)
theorem proved : Rows.FnExactAskRekeySaid := over
end Go.Proofs.YtkmhmejednjkoaaGreat.fnExactAskRekey
