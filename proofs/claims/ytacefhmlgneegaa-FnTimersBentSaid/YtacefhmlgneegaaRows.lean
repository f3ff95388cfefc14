/-
  No cell of these rows narrows 'for every input' (looked for: loops, veiled, ifaces, maps, wideKeys, modest, calm, conditions, laid).
  DERIVED. THE GIVEN ROWS OF THIS SEAT. 12 by the template 'for every input the law returns true; each argument reads behind the call as it read before'; 0 by the template 'total and deterministic' (their statements: YtacefhmlgneegaaTotals.lean).
  GIVEN WITH THE SEED: the statements are not yours to turn. If you find one false, say at which input.
  Laid BY PROGRAM, IN A SANDBOX (cutbox-rows.mjs): the forced cells as the released guide's own fill.sh prints them over the translation 4ae75557a29653d0… (all of the seat's roots in one cut). By AI agents, Wed Nov 11 2026. No macro, syntax, notation, axiom, sorry.
-/
import Derived.Test.YtacefhmlgneegaaChecked
import GoSem.Claim
import GoSem.ClaimJoined
import GoSem.ClaimMapViews
import Derived.JoinedTies
import Derived.KernelRfl
namespace Go.Proofs.Ytacefhmlgneegaa
/- THE CELL 'sum', in the pinned program and in every row, IS THE sha256 OF THE DUMP (.gsa) THAT YtacefhmlgneegaaProg.lean LOADS. Nothing in Lean hashes anything: it is a label: what it is worth is what the hold of that sum in a sandbox is worth. -/
noncomputable def Try.pinned : Pinned := { name := "ytacefhmlgneegaa", sum := "4ae75557a29653d0661df379caeeb8a013051f52204377c3fdcabe7dea89b0b9", checked := Try.checked }
namespace Rows
def none {H : Type} : Left H := { results := [], args := [] }

/-- 'laws.FnExactSpanOf': WHATEVER THE INPUT: true; the input reads as it did. -/
def fnExactSpanOfSpec : ChangeSpec := { name := "fnExactSpanOf", fn := fun _ => fun
  | [d] => { results := [.lit (.bool true)], args := [d] }
  | _ => none }
def fnExactSpanOfRow : OpenClaim := { program := "ytacefhmlgneegaa", sum := "4ae75557a29653d0661df379caeeb8a013051f52204377c3fdcabe7dea89b0b9", func := "loop.example/g00478/laws.FnExactSpanOf", spec := "fnExactSpanOf", apart := false }
def FnExactSpanOfSaid : Prop := fnExactSpanOfRow.holds Try.pinned (OpenSpec.ofChange fnExactSpanOfSpec)

/-- ITS FALSE NEIGHBOUR: 'it returns false'. Refute it at one input. -/
def fnExactSpanOfWrong : ChangeSpec := { name := "fnExactSpanOf", fn := fun _ => fun
  | [d] => { results := [.lit (.bool false)], args := [d] }
  | _ => none }
def FnExactSpanOfWrongFalsely : Prop := fnExactSpanOfRow.holds Try.pinned (OpenSpec.ofChange fnExactSpanOfWrong)

/-- 'laws.FnExactNoteName': WHATEVER THE INPUT: true; the input reads as it did. -/
def fnExactNoteNameSpec : ChangeSpec := { name := "fnExactNoteName", fn := fun _ => fun
  | [d] => { results := [.lit (.bool true)], args := [d] }
  | _ => none }
def fnExactNoteNameRow : OpenClaim := { program := "ytacefhmlgneegaa", sum := "4ae75557a29653d0661df379caeeb8a013051f52204377c3fdcabe7dea89b0b9", func := "loop.example/g00478/laws.FnExactNoteName", spec := "fnExactNoteName", apart := false }
def FnExactNoteNameSaid : Prop := fnExactNoteNameRow.holds Try.pinned (OpenSpec.ofChange fnExactNoteNameSpec)

/-- ITS FALSE NEIGHBOUR: 'it returns false'. Refute it at one input. -/
def fnExactNoteNameWrong : ChangeSpec := { name := "fnExactNoteName", fn := fun _ => fun
  | [d] => { results := [.lit (.bool false)], args := [d] }
  | _ => none }
def FnExactNoteNameWrongFalsely : Prop := fnExactNoteNameRow.holds Try.pinned (OpenSpec.ofChange fnExactNoteNameWrong)

/-- 'laws.FnExactTimerOk': WHATEVER THE INPUT: true; the input reads as it did. -/
def fnExactTimerOkSpec : ChangeSpec := { name := "fnExactTimerOk", fn := fun _ => fun
  | [d] => { results := [.lit (.bool true)], args := [d] }
  | _ => none }
def fnExactTimerOkRow : OpenClaim := { program := "ytacefhmlgneegaa", sum := "4ae75557a29653d0661df379caeeb8a013051f52204377c3fdcabe7dea89b0b9", func := "loop.example/g00478/laws.FnExactTimerOk", spec := "fnExactTimerOk", apart := false }
def FnExactTimerOkSaid : Prop := fnExactTimerOkRow.holds Try.pinned (OpenSpec.ofChange fnExactTimerOkSpec)

/-- ITS FALSE NEIGHBOUR: 'it returns false'. Refute it at one input. -/
def fnExactTimerOkWrong : ChangeSpec := { name := "fnExactTimerOk", fn := fun _ => fun
  | [d] => { results := [.lit (.bool false)], args := [d] }
  | _ => none }
def FnExactTimerOkWrongFalsely : Prop := fnExactTimerOkRow.holds Try.pinned (OpenSpec.ofChange fnExactTimerOkWrong)

/-- 'laws.FnExactTimerSet': WHATEVER THE INPUT: true; the input reads as it did. -/
def fnExactTimerSetSpec : ChangeSpec := { name := "fnExactTimerSet", fn := fun _ => fun
  | [d] => { results := [.lit (.bool true)], args := [d] }
  | _ => none }
def fnExactTimerSetRow : OpenClaim := { program := "ytacefhmlgneegaa", sum := "4ae75557a29653d0661df379caeeb8a013051f52204377c3fdcabe7dea89b0b9", func := "loop.example/g00478/laws.FnExactTimerSet", spec := "fnExactTimerSet", apart := false }
def FnExactTimerSetSaid : Prop := fnExactTimerSetRow.holds Try.pinned (OpenSpec.ofChange fnExactTimerSetSpec)

/-- ITS FALSE NEIGHBOUR: 'it returns false'. Refute it at one input. -/
def fnExactTimerSetWrong : ChangeSpec := { name := "fnExactTimerSet", fn := fun _ => fun
  | [d] => { results := [.lit (.bool false)], args := [d] }
  | _ => none }
def FnExactTimerSetWrongFalsely : Prop := fnExactTimerSetRow.holds Try.pinned (OpenSpec.ofChange fnExactTimerSetWrong)

/-- 'laws.FnExactTimerFires': WHATEVER THE INPUT: true; the input reads as it did. -/
def fnExactTimerFiresSpec : ChangeSpec := { name := "fnExactTimerFires", fn := fun _ => fun
  | [d1, d2] => { results := [.lit (.bool true)], args := [d1, d2] }
  | _ => none }
def fnExactTimerFiresRow : OpenClaim := { program := "ytacefhmlgneegaa", sum := "4ae75557a29653d0661df379caeeb8a013051f52204377c3fdcabe7dea89b0b9", func := "loop.example/g00478/laws.FnExactTimerFires", spec := "fnExactTimerFires", apart := false }
def FnExactTimerFiresSaid : Prop := fnExactTimerFiresRow.holds Try.pinned (OpenSpec.ofChange fnExactTimerFiresSpec)

/-- ITS FALSE NEIGHBOUR: 'it returns false'. Refute it at one input. -/
def fnExactTimerFiresWrong : ChangeSpec := { name := "fnExactTimerFires", fn := fun _ => fun
  | [d1, d2] => { results := [.lit (.bool false)], args := [d1, d2] }
  | _ => none }
def FnExactTimerFiresWrongFalsely : Prop := fnExactTimerFiresRow.holds Try.pinned (OpenSpec.ofChange fnExactTimerFiresWrong)

/-- 'laws.FnExactRekeyBody': WHATEVER THE INPUT: true; the input reads as it did. -/
def fnExactRekeyBodySpec : ChangeSpec := { name := "fnExactRekeyBody", fn := fun _ => fun
  | [d] => { results := [.lit (.bool true)], args := [d] }
  | _ => none }
def fnExactRekeyBodyRow : OpenClaim := { program := "ytacefhmlgneegaa", sum := "4ae75557a29653d0661df379caeeb8a013051f52204377c3fdcabe7dea89b0b9", func := "loop.example/g00478/laws.FnExactRekeyBody", spec := "fnExactRekeyBody", apart := false }
def FnExactRekeyBodySaid : Prop := fnExactRekeyBodyRow.holds Try.pinned (OpenSpec.ofChange fnExactRekeyBodySpec)

/-- ITS FALSE NEIGHBOUR: 'it returns false'. Refute it at one input. -/
def fnExactRekeyBodyWrong : ChangeSpec := { name := "fnExactRekeyBody", fn := fun _ => fun
  | [d] => { results := [.lit (.bool false)], args := [d] }
  | _ => none }
def FnExactRekeyBodyWrongFalsely : Prop := fnExactRekeyBodyRow.holds Try.pinned (OpenSpec.ofChange fnExactRekeyBodyWrong)

/-- 'laws.FnExactTimerNext': WHATEVER THE INPUT: true; the input reads as it did. -/
def fnExactTimerNextSpec : ChangeSpec := { name := "fnExactTimerNext", fn := fun _ => fun
  | [d1, d2] => { results := [.lit (.bool true)], args := [d1, d2] }
  | _ => none }
def fnExactTimerNextRow : OpenClaim := { program := "ytacefhmlgneegaa", sum := "4ae75557a29653d0661df379caeeb8a013051f52204377c3fdcabe7dea89b0b9", func := "loop.example/g00478/laws.FnExactTimerNext", spec := "fnExactTimerNext", apart := false }
def FnExactTimerNextSaid : Prop := fnExactTimerNextRow.holds Try.pinned (OpenSpec.ofChange fnExactTimerNextSpec)

/-- ITS FALSE NEIGHBOUR: 'it returns false'. Refute it at one input. -/
def fnExactTimerNextWrong : ChangeSpec := { name := "fnExactTimerNext", fn := fun _ => fun
  | [d1, d2] => { results := [.lit (.bool false)], args := [d1, d2] }
  | _ => none }
def FnExactTimerNextWrongFalsely : Prop := fnExactTimerNextRow.holds Try.pinned (OpenSpec.ofChange fnExactTimerNextWrong)

/-- 'laws.FnExactCreditsOk': WHATEVER THE INPUT: true; the input reads as it did. -/
def fnExactCreditsOkSpec : ChangeSpec := { name := "fnExactCreditsOk", fn := fun _ => fun
  | [d] => { results := [.lit (.bool true)], args := [d] }
  | _ => none }
def fnExactCreditsOkRow : OpenClaim := { program := "ytacefhmlgneegaa", sum := "4ae75557a29653d0661df379caeeb8a013051f52204377c3fdcabe7dea89b0b9", func := "loop.example/g00478/laws.FnExactCreditsOk", spec := "fnExactCreditsOk", apart := false }
def FnExactCreditsOkSaid : Prop := fnExactCreditsOkRow.holds Try.pinned (OpenSpec.ofChange fnExactCreditsOkSpec)

/-- ITS FALSE NEIGHBOUR: 'it returns false'. Refute it at one input. -/
def fnExactCreditsOkWrong : ChangeSpec := { name := "fnExactCreditsOk", fn := fun _ => fun
  | [d] => { results := [.lit (.bool false)], args := [d] }
  | _ => none }
def FnExactCreditsOkWrongFalsely : Prop := fnExactCreditsOkRow.holds Try.pinned (OpenSpec.ofChange fnExactCreditsOkWrong)

/-- 'laws.FnExactMade': WHATEVER THE INPUT: true; the input reads as it did. -/
def fnExactMadeSpec : ChangeSpec := { name := "fnExactMade", fn := fun _ => fun
  | [d1, d2] => { results := [.lit (.bool true)], args := [d1, d2] }
  | _ => none }
def fnExactMadeRow : OpenClaim := { program := "ytacefhmlgneegaa", sum := "4ae75557a29653d0661df379caeeb8a013051f52204377c3fdcabe7dea89b0b9", func := "loop.example/g00478/laws.FnExactMade", spec := "fnExactMade", apart := false }
def FnExactMadeSaid : Prop := fnExactMadeRow.holds Try.pinned (OpenSpec.ofChange fnExactMadeSpec)

/-- ITS FALSE NEIGHBOUR: 'it returns false'. Refute it at one input. -/
def fnExactMadeWrong : ChangeSpec := { name := "fnExactMade", fn := fun _ => fun
  | [d1, d2] => { results := [.lit (.bool false)], args := [d1, d2] }
  | _ => none }
def FnExactMadeWrongFalsely : Prop := fnExactMadeRow.holds Try.pinned (OpenSpec.ofChange fnExactMadeWrong)

/-- 'laws.FnExactTook': WHATEVER THE INPUT: true; the input reads as it did. -/
def fnExactTookSpec : ChangeSpec := { name := "fnExactTook", fn := fun _ => fun
  | [d1, d2, d3] => { results := [.lit (.bool true)], args := [d1, d2, d3] }
  | _ => none }
def fnExactTookRow : OpenClaim := { program := "ytacefhmlgneegaa", sum := "4ae75557a29653d0661df379caeeb8a013051f52204377c3fdcabe7dea89b0b9", func := "loop.example/g00478/laws.FnExactTook", spec := "fnExactTook", apart := false }
def FnExactTookSaid : Prop := fnExactTookRow.holds Try.pinned (OpenSpec.ofChange fnExactTookSpec)

/-- ITS FALSE NEIGHBOUR: 'it returns false'. Refute it at one input. -/
def fnExactTookWrong : ChangeSpec := { name := "fnExactTook", fn := fun _ => fun
  | [d1, d2, d3] => { results := [.lit (.bool false)], args := [d1, d2, d3] }
  | _ => none }
def FnExactTookWrongFalsely : Prop := fnExactTookRow.holds Try.pinned (OpenSpec.ofChange fnExactTookWrong)

/-- 'laws.FnTimers': WHATEVER THE INPUT: true; the input reads as it did. -/
def fnTimersSpec : ChangeSpec := { name := "fnTimers", fn := fun _ => fun
  | [d] => { results := [.lit (.bool true)], args := [d] }
  | _ => none }
def fnTimersRow : OpenClaim := { program := "ytacefhmlgneegaa", sum := "4ae75557a29653d0661df379caeeb8a013051f52204377c3fdcabe7dea89b0b9", func := "loop.example/g00478/laws.FnTimers", spec := "fnTimers", apart := false }
def FnTimersSaid : Prop := fnTimersRow.holds Try.pinned (OpenSpec.ofChange fnTimersSpec)

/-- ITS FALSE NEIGHBOUR: 'it returns false'. Refute it at one input. -/
def fnTimersWrong : ChangeSpec := { name := "fnTimers", fn := fun _ => fun
  | [d] => { results := [.lit (.bool false)], args := [d] }
  | _ => none }
def FnTimersWrongFalsely : Prop := fnTimersRow.holds Try.pinned (OpenSpec.ofChange fnTimersWrong)

/-- 'laws.FnTimersBent': WHATEVER THE INPUT: true; the input reads as it did. -/
def fnTimersBentSpec : ChangeSpec := { name := "fnTimersBent", fn := fun _ => fun
  | [d] => { results := [.lit (.bool true)], args := [d] }
  | _ => none }
def fnTimersBentRow : OpenClaim := { program := "ytacefhmlgneegaa", sum := "4ae75557a29653d0661df379caeeb8a013051f52204377c3fdcabe7dea89b0b9", func := "loop.example/g00478/laws.FnTimersBent", spec := "fnTimersBent", apart := false }
def FnTimersBentSaid : Prop := fnTimersBentRow.holds Try.pinned (OpenSpec.ofChange fnTimersBentSpec)

/-- ITS FALSE NEIGHBOUR: 'it returns false'. Refute it at one input. -/
def fnTimersBentWrong : ChangeSpec := { name := "fnTimersBent", fn := fun _ => fun
  | [d] => { results := [.lit (.bool false)], args := [d] }
  | _ => none }
def FnTimersBentWrongFalsely : Prop := fnTimersBentRow.holds Try.pinned (OpenSpec.ofChange fnTimersBentWrong)

/- THE SECOND FORM. 'bulk': how many values and letters a reading holds, each counted each time it is reached (what is shared counts as often as it is met; a slice's spare places count too). A statement '..UptoSaid' is the law's where the arguments, and the package variables that the reading takes, are together of bulk at most 1048576: NARROWER than '..Said'. Prove '..Said' where nothing that the law and all that it calls make is longer than what came in: it says more and counts as full. Else prove '..UptoSaid'. A law counts once. -/
mutual
def uptoBulk {H : Type} : DataW H → Nat
  | .lit (.string bytes) => bytes.length + 1
  | .lit _ => 1
  | .nil => 1
  | .ptr d => uptoBulk d + 1
  | .slice elems spare => uptoBulkAll elems + uptoBulkAll spare + 1
  | .agg parts => uptoBulkAll parts + 1
  | .iface _ d => uptoBulk d + 1
  | .map entries => uptoBulkEntries entries + 1
  | .held _ => 1
def uptoBulkAll {H : Type} : List (DataW H) → Nat
  | [] => 0
  | d :: r => uptoBulk d + uptoBulkAll r
def uptoBulkEntries {H : Type} : List (Lit × DataW H) → Nat
  | [] => 0
  | x :: r => uptoBulkEntry x + uptoBulkEntries r
def uptoBulkEntry {H : Type} : Lit × DataW H → Nat
  | (.string bytes, d) => bytes.length + uptoBulk d + 1
  | (_, d) => uptoBulk d + 1
 end
def uptoSmall : (H : Type) → List (DataW H) → Bool := fun _ ds => decide (uptoBulkAll ds ≤ 1048576)
def OpenSpec.upto (s : _root_.Go.ChangeSpec) : _root_.Go.OpenSpec := { _root_.Go.OpenSpec.ofChange s with cond := some uptoSmall }

/-- 'laws.FnExactSpanOf', WHERE WHAT IT READS IS OF BULK AT MOST 1048576: true; the input reads as it did. -/
def fnExactSpanOfUptoRow : OpenClaim := { program := "ytacefhmlgneegaa", sum := "4ae75557a29653d0661df379caeeb8a013051f52204377c3fdcabe7dea89b0b9", func := "loop.example/g00478/laws.FnExactSpanOf", spec := "fnExactSpanOf", apart := false, narrowed := true }
def FnExactSpanOfUptoSaid : Prop := fnExactSpanOfUptoRow.holds Try.pinned (OpenSpec.upto fnExactSpanOfSpec)

/-- 'laws.FnExactNoteName', WHERE WHAT IT READS IS OF BULK AT MOST 1048576: true; the input reads as it did. -/
def fnExactNoteNameUptoRow : OpenClaim := { program := "ytacefhmlgneegaa", sum := "4ae75557a29653d0661df379caeeb8a013051f52204377c3fdcabe7dea89b0b9", func := "loop.example/g00478/laws.FnExactNoteName", spec := "fnExactNoteName", apart := false, narrowed := true }
def FnExactNoteNameUptoSaid : Prop := fnExactNoteNameUptoRow.holds Try.pinned (OpenSpec.upto fnExactNoteNameSpec)

/-- 'laws.FnExactTimerOk', WHERE WHAT IT READS IS OF BULK AT MOST 1048576: true; the input reads as it did. -/
def fnExactTimerOkUptoRow : OpenClaim := { program := "ytacefhmlgneegaa", sum := "4ae75557a29653d0661df379caeeb8a013051f52204377c3fdcabe7dea89b0b9", func := "loop.example/g00478/laws.FnExactTimerOk", spec := "fnExactTimerOk", apart := false, narrowed := true }
def FnExactTimerOkUptoSaid : Prop := fnExactTimerOkUptoRow.holds Try.pinned (OpenSpec.upto fnExactTimerOkSpec)

/-- 'laws.FnExactTimerSet', WHERE WHAT IT READS IS OF BULK AT MOST 1048576: true; the input reads as it did. -/
def fnExactTimerSetUptoRow : OpenClaim := { program := "ytacefhmlgneegaa", sum := "4ae75557a29653d0661df379caeeb8a013051f52204377c3fdcabe7dea89b0b9", func := "loop.example/g00478/laws.FnExactTimerSet", spec := "fnExactTimerSet", apart := false, narrowed := true }
def FnExactTimerSetUptoSaid : Prop := fnExactTimerSetUptoRow.holds Try.pinned (OpenSpec.upto fnExactTimerSetSpec)

/-- 'laws.FnExactTimerFires', WHERE WHAT IT READS IS OF BULK AT MOST 1048576: true; the input reads as it did. -/
def fnExactTimerFiresUptoRow : OpenClaim := { program := "ytacefhmlgneegaa", sum := "4ae75557a29653d0661df379caeeb8a013051f52204377c3fdcabe7dea89b0b9", func := "loop.example/g00478/laws.FnExactTimerFires", spec := "fnExactTimerFires", apart := false, narrowed := true }
def FnExactTimerFiresUptoSaid : Prop := fnExactTimerFiresUptoRow.holds Try.pinned (OpenSpec.upto fnExactTimerFiresSpec)

/-- 'laws.FnExactRekeyBody', WHERE WHAT IT READS IS OF BULK AT MOST 1048576: true; the input reads as it did. -/
def fnExactRekeyBodyUptoRow : OpenClaim := { program := "ytacefhmlgneegaa", sum := "4ae75557a29653d0661df379caeeb8a013051f52204377c3fdcabe7dea89b0b9", func := "loop.example/g00478/laws.FnExactRekeyBody", spec := "fnExactRekeyBody", apart := false, narrowed := true }
def FnExactRekeyBodyUptoSaid : Prop := fnExactRekeyBodyUptoRow.holds Try.pinned (OpenSpec.upto fnExactRekeyBodySpec)

/-- 'laws.FnExactTimerNext', WHERE WHAT IT READS IS OF BULK AT MOST 1048576: true; the input reads as it did. -/
def fnExactTimerNextUptoRow : OpenClaim := { program := "ytacefhmlgneegaa", sum := "4ae75557a29653d0661df379caeeb8a013051f52204377c3fdcabe7dea89b0b9", func := "loop.example/g00478/laws.FnExactTimerNext", spec := "fnExactTimerNext", apart := false, narrowed := true }
def FnExactTimerNextUptoSaid : Prop := fnExactTimerNextUptoRow.holds Try.pinned (OpenSpec.upto fnExactTimerNextSpec)

/-- 'laws.FnExactCreditsOk', WHERE WHAT IT READS IS OF BULK AT MOST 1048576: true; the input reads as it did. -/
def fnExactCreditsOkUptoRow : OpenClaim := { program := "ytacefhmlgneegaa", sum := "4ae75557a29653d0661df379caeeb8a013051f52204377c3fdcabe7dea89b0b9", func := "loop.example/g00478/laws.FnExactCreditsOk", spec := "fnExactCreditsOk", apart := false, narrowed := true }
def FnExactCreditsOkUptoSaid : Prop := fnExactCreditsOkUptoRow.holds Try.pinned (OpenSpec.upto fnExactCreditsOkSpec)

/-- 'laws.FnExactMade', WHERE WHAT IT READS IS OF BULK AT MOST 1048576: true; the input reads as it did. -/
def fnExactMadeUptoRow : OpenClaim := { program := "ytacefhmlgneegaa", sum := "4ae75557a29653d0661df379caeeb8a013051f52204377c3fdcabe7dea89b0b9", func := "loop.example/g00478/laws.FnExactMade", spec := "fnExactMade", apart := false, narrowed := true }
def FnExactMadeUptoSaid : Prop := fnExactMadeUptoRow.holds Try.pinned (OpenSpec.upto fnExactMadeSpec)

/-- 'laws.FnExactTook', WHERE WHAT IT READS IS OF BULK AT MOST 1048576: true; the input reads as it did. -/
def fnExactTookUptoRow : OpenClaim := { program := "ytacefhmlgneegaa", sum := "4ae75557a29653d0661df379caeeb8a013051f52204377c3fdcabe7dea89b0b9", func := "loop.example/g00478/laws.FnExactTook", spec := "fnExactTook", apart := false, narrowed := true }
def FnExactTookUptoSaid : Prop := fnExactTookUptoRow.holds Try.pinned (OpenSpec.upto fnExactTookSpec)

/-- 'laws.FnTimers', WHERE WHAT IT READS IS OF BULK AT MOST 1048576: true; the input reads as it did. -/
def fnTimersUptoRow : OpenClaim := { program := "ytacefhmlgneegaa", sum := "4ae75557a29653d0661df379caeeb8a013051f52204377c3fdcabe7dea89b0b9", func := "loop.example/g00478/laws.FnTimers", spec := "fnTimers", apart := false, narrowed := true }
def FnTimersUptoSaid : Prop := fnTimersUptoRow.holds Try.pinned (OpenSpec.upto fnTimersSpec)

/-- 'laws.FnTimersBent', WHERE WHAT IT READS IS OF BULK AT MOST 1048576: true; the input reads as it did. -/
def fnTimersBentUptoRow : OpenClaim := { program := "ytacefhmlgneegaa", sum := "4ae75557a29653d0661df379caeeb8a013051f52204377c3fdcabe7dea89b0b9", func := "loop.example/g00478/laws.FnTimersBent", spec := "fnTimersBent", apart := false, narrowed := true }
def FnTimersBentUptoSaid : Prop := fnTimersBentUptoRow.holds Try.pinned (OpenSpec.upto fnTimersBentSpec)

end Rows
end Go.Proofs.Ytacefhmlgneegaa
