/- The law FnExactPick of the given program returns true for every input, and changes none of its arguments. No condition. -/
import Derived.Test.YtjcahjhnnagkdaaRows
import Derived.Test.YtjcahjhnnagkdaaLawPq
import Derived.Test.YtjcahjhnnagkdaaCame
import Derived.WalkKit
import Derived.ProofKit
import Derived.OpenShut
import Derived.ShutString
import Derived.ChangeOld
import Derived.Below
namespace Go.Proofs.Ytjcahjhnnagkdaa.fnExactPick
open Go.ChangeShapes Go.WideShapes Go.ChangeAt Go.RowKit
open Go.ChangeMaps (open_string shut_string)
open Go.Proofs.Ytjcahjhnnagkdaa.K
set_option linter.unusedVariables false
set_option maxRecDepth 100000
theorem own : ownKnob Try.prog.godebug = none := by kernel_rfl
theorem laidOut : laidOutB Try.prog = true := by kernel_rfl
theorem opn_3 {w : World} {H : Type} {enc : TypeId × Value → H} {base fuel : Nat} {spare : Nat → Bool} {held : Bool} {cs : List Value} {y : DataW H × List MemPlace} (h : DataW.trod enc Try.prog w base spare held fuel 3 cs = some y) :
    ∃ (x : Int) , cs = [.int .i64 x] := came_int Try.underlying3 h
theorem opn_22 {w : World} {H : Type} {enc : TypeId × Value → H} {base fuel : Nat} {spare : Nat → Bool} {held : Bool} {cs : List Value} {y : DataW H × List MemPlace} (h : DataW.trod enc Try.prog w base spare held fuel 22 cs = some y) :
    ∃ (x : List UInt8) (a1 : Option Addr) (c1 : Nat), cs = [.slice a1 x.length c1] ∧ Rd w 1 (.slice a1 x.length c1) x.length (x.map bV) := came_B Try.underlying22 Try.underlying5 (by kernel_rfl) h
theorem opn_48 {w : World} {H : Type} {enc : TypeId × Value → H} {base fuel : Nat} {spare : Nat → Bool} {held : Bool} {cs : List Value} {y : DataW H × List MemPlace} (h : DataW.trod enc Try.prog w base spare held fuel 48 cs = some y) :
    ∃ (x : PAddr) , cs = [.int .i64 x.Host, .int .i64 x.Port] := by
  obtain ⟨xs, n, _, _, hl, hx, hf⟩ := DataW.trod_struct Try.underlying48 h
  have hl1 : cs.length = 2 := hl.trans (by kernel_rfl)
  have hx1 : xs.length = 2 := hx
  match cs, hl1 with
  | [c0, c1], _ =>
    have f0 := hf 0 _ rfl
    rw [List.getElem?_eq_getElem (show 0 < xs.length by omega)] at f0
    have g0 : DataW.trod enc Try.prog w base spare held n 3 [c0] = some xs[0] := f0
    obtain ⟨z0, e0⟩ := opn_3 g0
    obtain rfl : c0 = Value.int .i64 z0 := by simpa using e0
    have f1 := hf 1 _ rfl
    rw [List.getElem?_eq_getElem (show 1 < xs.length by omega)] at f1
    have g1 : DataW.trod enc Try.prog w base spare held n 3 [c1] = some xs[1] := f1
    obtain ⟨z1, e1⟩ := opn_3 g1
    obtain rfl : c1 = Value.int .i64 z1 := by simpa using e1
    exact ⟨{ Host := z0, Port := z1 }, rfl⟩
theorem opn_144 {w : World} {H : Type} {enc : TypeId × Value → H} {base fuel : Nat} {spare : Nat → Bool} {held : Bool} {cs : List Value} {y : DataW H × List MemPlace} (h : DataW.trod enc Try.prog w base spare held fuel 144 cs = some y) :
    ∃ (x : PNote) (a1 : Option Addr) (c1 : Nat) (a2 : Option Addr) (c2 : Nat) (a3 : Option Addr) (c3 : Nat) (a4 : Option Addr) (c4 : Nat), cs = [.int .i64 x.Kind, .int .i64 x.Id, .int .i64 x.Role, .slice a1 x.Cn.length c1, .slice a2 x.Sn.length c2, .int .i64 x.Epoch, .int .i64 x.Seq, .slice a3 x.Body.length c3, .slice a4 x.Key.length c4, .int .i64 x.A.Host, .int .i64 x.A.Port, .int .i64 x.Now] ∧ Rd w 1 (.slice a1 x.Cn.length c1) x.Cn.length (x.Cn.map bV) ∧ Rd w 1 (.slice a2 x.Sn.length c2) x.Sn.length (x.Sn.map bV) ∧ Rd w 1 (.slice a3 x.Body.length c3) x.Body.length (x.Body.map bV) ∧ Rd w 1 (.slice a4 x.Key.length c4) x.Key.length (x.Key.map bV) := by
  obtain ⟨xs, n, _, _, hl, hx, hf⟩ := DataW.trod_struct Try.underlying144 h
  have hl1 : cs.length = 12 := hl.trans (by kernel_rfl)
  have hx1 : xs.length = 11 := hx
  match cs, hl1 with
  | [c0, c1, c2, c3, c4, c5, c6, c7, c8, c9, c10, c11], _ =>
    have f0 := hf 0 _ rfl
    rw [List.getElem?_eq_getElem (show 0 < xs.length by omega)] at f0
    have g0 : DataW.trod enc Try.prog w base spare held n 3 [c0] = some xs[0] := f0
    obtain ⟨z0, e0⟩ := opn_3 g0
    obtain rfl : c0 = Value.int .i64 z0 := by simpa using e0
    have f1 := hf 1 _ rfl
    rw [List.getElem?_eq_getElem (show 1 < xs.length by omega)] at f1
    have g1 : DataW.trod enc Try.prog w base spare held n 3 [c1] = some xs[1] := f1
    obtain ⟨z1, e1⟩ := opn_3 g1
    obtain rfl : c1 = Value.int .i64 z1 := by simpa using e1
    have f2 := hf 2 _ rfl
    rw [List.getElem?_eq_getElem (show 2 < xs.length by omega)] at f2
    have g2 : DataW.trod enc Try.prog w base spare held n 3 [c2] = some xs[2] := f2
    obtain ⟨z2, e2⟩ := opn_3 g2
    obtain rfl : c2 = Value.int .i64 z2 := by simpa using e2
    have f3 := hf 3 _ rfl
    rw [List.getElem?_eq_getElem (show 3 < xs.length by omega)] at f3
    have g3 : DataW.trod enc Try.prog w base spare held n 22 [c3] = some xs[3] := f3
    obtain ⟨z3, a3q0, c3q0, e3, r3q0⟩ := opn_22 g3
    obtain rfl : c3 = Value.slice a3q0 z3.length c3q0 := by simpa using e3
    have f4 := hf 4 _ rfl
    rw [List.getElem?_eq_getElem (show 4 < xs.length by omega)] at f4
    have g4 : DataW.trod enc Try.prog w base spare held n 22 [c4] = some xs[4] := f4
    obtain ⟨z4, a4q0, c4q0, e4, r4q0⟩ := opn_22 g4
    obtain rfl : c4 = Value.slice a4q0 z4.length c4q0 := by simpa using e4
    have f5 := hf 5 _ rfl
    rw [List.getElem?_eq_getElem (show 5 < xs.length by omega)] at f5
    have g5 : DataW.trod enc Try.prog w base spare held n 3 [c5] = some xs[5] := f5
    obtain ⟨z5, e5⟩ := opn_3 g5
    obtain rfl : c5 = Value.int .i64 z5 := by simpa using e5
    have f6 := hf 6 _ rfl
    rw [List.getElem?_eq_getElem (show 6 < xs.length by omega)] at f6
    have g6 : DataW.trod enc Try.prog w base spare held n 3 [c6] = some xs[6] := f6
    obtain ⟨z6, e6⟩ := opn_3 g6
    obtain rfl : c6 = Value.int .i64 z6 := by simpa using e6
    have f7 := hf 7 _ rfl
    rw [List.getElem?_eq_getElem (show 7 < xs.length by omega)] at f7
    have g7 : DataW.trod enc Try.prog w base spare held n 22 [c7] = some xs[7] := f7
    obtain ⟨z7, a7q0, c7q0, e7, r7q0⟩ := opn_22 g7
    obtain rfl : c7 = Value.slice a7q0 z7.length c7q0 := by simpa using e7
    have f8 := hf 8 _ rfl
    rw [List.getElem?_eq_getElem (show 8 < xs.length by omega)] at f8
    have g8 : DataW.trod enc Try.prog w base spare held n 22 [c8] = some xs[8] := f8
    obtain ⟨z8, a8q0, c8q0, e8, r8q0⟩ := opn_22 g8
    obtain rfl : c8 = Value.slice a8q0 z8.length c8q0 := by simpa using e8
    have f9 := hf 9 _ rfl
    rw [List.getElem?_eq_getElem (show 9 < xs.length by omega)] at f9
    have g9 : DataW.trod enc Try.prog w base spare held n 48 [c9, c10] = some xs[9] := f9
    obtain ⟨z9, e9⟩ := opn_48 g9
    obtain ⟨rfl, rfl⟩ : c9 = Value.int .i64 z9.Host ∧ c10 = Value.int .i64 z9.Port := by simpa using e9
    have f10 := hf 10 _ rfl
    rw [List.getElem?_eq_getElem (show 10 < xs.length by omega)] at f10
    have g10 : DataW.trod enc Try.prog w base spare held n 3 [c11] = some xs[10] := f10
    obtain ⟨z10, e10⟩ := opn_3 g10
    obtain rfl : c11 = Value.int .i64 z10 := by simpa using e10
    exact ⟨{ Kind := z0, Id := z1, Role := z2, Cn := z3, Sn := z4, Epoch := z5, Seq := z6, Body := z7, Key := z8, A := z9, Now := z10 }, a3q0, c3q0, a4q0, c4q0, a7q0, c7q0, a8q0, c8q0, rfl, r3q0, r4q0, r7q0, r8q0⟩
theorem opn_75 {w : World} {H : Type} {enc : TypeId × Value → H} {base fuel : Nat} {spare : Nat → Bool} {held : Bool} {cs : List Value} {y : DataW H × List MemPlace} (h : DataW.trod enc Try.prog w base spare held fuel 75 cs = some y) :
    ∃ (x : List PNote) (a1 : Option Addr) (c1 : Nat), cs = [.slice a1 x.length c1] ∧ RLv LT_144 w 9223372036854775807 a1 x.length c1 x := by
  obtain ⟨y, a, c, h1, h2, h3⟩ := came_L (Φ := fun e : El (PNote) => SubR w 9223372036854775807 e.2 (LT_144.bs e.1)) LT_144.len Try.underlying75 (by kernel_rfl) LT_144.pos (fun n cs y hy => by obtain ⟨x, a1, c1, a2, c2, a3, c3, a4, c4, e1, r1, r2, r3, r4⟩ := opn_144 hy; exact ⟨(x, [(a1, c1), (a2, c2), (a3, c3), (a4, c4)]), e1, ⟨⟨r1, show x.Cn.length ≤ 9223372036854775807 by obtain ⟨_, _, _, q1, q2, _⟩ := r1; simp only [maxLen] at q2; omega⟩, ⟨⟨r2, show x.Sn.length ≤ 9223372036854775807 by obtain ⟨_, _, _, q1, q2, _⟩ := r2; simp only [maxLen] at q2; omega⟩, ⟨⟨r3, show x.Body.length ≤ 9223372036854775807 by obtain ⟨_, _, _, q1, q2, _⟩ := r3; simp only [maxLen] at q2; omega⟩, ⟨⟨r4, show x.Key.length ≤ 9223372036854775807 by obtain ⟨_, _, _, q1, q2, _⟩ := r4; simp only [maxLen] at q2; omega⟩, trivial⟩⟩⟩⟩⟩) h
  have hl : y.length = (y.map Prod.fst).length := by simp
  rw [hl] at h1 h2
  exact ⟨y.map Prod.fst, a, c, h1, y, rfl, rfl, h2, h3, by obtain ⟨_, _, _, q1, q2, _⟩ := h2; simp only [maxLen] at q2; omega⟩
theorem lifted (os : Os) (started : os.Started) (H : Type) (enc : TypeId × Value → H) :
    ReturnsInHanded {} Try.checked os 8 .any (Rows.fnExactPickSpec.pre6 enc Try.prog Try.f8 Rows.fnExactPickRow.domain false) (Rows.fnExactPickSpec.post enc Try.prog Try.f8 false true false false) := by
  refine returnsInHanded_of_change (C := Try.checked) own started (by kernel_rfl) Try.func8
    (ChangeSpec.witness6 (enc := enc) (C := Try.checked) false ⟨#[], #[(vs none 0 0), (vi 0)], []⟩ 8 (by kernel_rfl) (by kernel_rfl) (by kernel_rfl) (by kernel_rfl)) ?_
  intro W base args ds gs before hval0 hW hcnd _
  have hval : ∀ (j : Nat) t v, Try.f8.params[j]? = some t → args[j]? = some v → Value.okWide Try.prog W .any base t v := hval0
  have hW' := hW
  obtain ⟨p, q, hA0, hV, rfl, hfz, hnd⟩ := hW
  have hA : DataW.TrodAll enc Try.prog W 0 (fun _ => true) true Try.f8.params.toList args.toList ds p := hA0
  rw [Try.params8] at hA hval
  obtain ⟨v0, vs0, d0, ds0, p0, q0, hargs, rfl, rfl, h0, r0⟩ := trodAll_cons hA
  obtain ⟨v1, vs1, d1, ds1, p1, q1, rfl, rfl, rfl, h1, r1⟩ := trodAll_cons r0
  obtain ⟨rfl, rfl, rfl⟩ := trodAll_nil r1
  obtain rfl : args = #[v0, v1] := by cases args; simp_all
  obtain ⟨rfl, rfl⟩ := trodVars_none hV
  have k0 := h0
  have lt0 : ∀ x ∈ p0, x.block < W.heap.size := by obtain ⟨m, hm⟩ := k0; exact DataW.trod_lt m _ _ _ hm
  obtain ⟨sa0, sl0, sc0, rfl⟩ := okWide_slice Try.underlying75 (hval 0 75 v0 rfl rfl)
  obtain ⟨fu0, hf0⟩ := h0
  obtain ⟨x0, a0q0, c0q0, hc0, g0q0L⟩ := opn_75 hf0
  have he0 : Value.slice sa0 sl0 sc0 = .slice a0q0 x0.length c0q0 := by simpa [Value.cells] using hc0
  injection he0 with he0a he0b he0c
  subst he0a he0b he0c
  have k1 := h1
  have lt1 : ∀ x ∈ p1, x.block < W.heap.size := by obtain ⟨m, hm⟩ := k1; exact DataW.trod_lt m _ _ _ hm
  obtain ⟨n1, rfl, _⟩ := open_int Try.underlying3 (hval 1 3 v1 rfl rfl) h1
  have hC := law_of ((Go.Proofs.Ytjcahjhnnagkdaa.K.C_laws_FnExactPick W (.slice sa0 x0.length sc0) x0 ⟨_, _, rfl, g0q0L, (RLv.small g0q0L)⟩ n1).mono fun v w' hr => ⟨hr.1, hr.2.trans (congrArg Value.bool (law_Pick x0 n1))⟩)
  refine Calls.mono hC fun e W' hb => ?_
  obtain ⟨he, bel⟩ := hb
  subst he
  exact ⟨_, rfl, _, _, _, [], _, [], hW', trodAll_mk1 (shut_bool Try.underlying4 _), (trodAll_cons_mk (Below.trod laidOut (by kernel_rfl) (of_decide_eq_true (by kernel_rfl)) k0 bel lt0) (trodAll_cons_mk (Below.trod laidOut (by kernel_rfl) (of_decide_eq_true (by kernel_rfl)) k1 bel lt1) trodAll_mk0)), rfl, bel.frame _, fun h => by cases h⟩
theorem over : Rows.fnExactPickRow.holds Try.pinned (OpenSpec.ofChange Rows.fnExactPickSpec) :=
  OpenClaim.holds_of_wide 8 Try.f8 rfl rfl rfl rfl rfl rfl rfl ⟨rfl, rfl, rfl, rfl, rfl⟩ rfl rfl rfl rfl rfl (by kernel_rfl) Try.func8 (by kernel_rfl)
    (of_decide_eq_true (by kernel_rfl)) (by unfold Func.isWrapper; first | (rw [if_pos (by decide +kernel)]; kernel_rfl) | (rw [if_neg (by decide +kernel)]; exact ⟨rfl, rfl⟩))
    (fun os started H enc _ => lifted os started H enc)
theorem proved : Rows.FnExactPickSaid := over
end Go.Proofs.Ytjcahjhnnagkdaa.fnExactPick
