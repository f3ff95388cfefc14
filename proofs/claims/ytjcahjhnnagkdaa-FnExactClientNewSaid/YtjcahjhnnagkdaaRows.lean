/-
  No cell of these rows narrows 'for every input' (looked for: loops, veiled, ifaces, maps, wideKeys, modest, calm, conditions, laid).
  DERIVED. THE GIVEN ROWS OF THIS SEAT. 11 by the template 'for every input the law returns true; each argument reads behind the call as it read before'; 0 by the template 'total and deterministic' (their statements: YtjcahjhnnagkdaaTotals.lean).
  GIVEN WITH THE SEED: the statements are not yours to turn. If you find one false, say at which input.
  Laid BY PROGRAM, IN A SANDBOX (cutbox-rows.mjs): the forced cells as the released guide's own fill.sh prints them over the translation ed9b28019fc70310… (all of the seat's roots in one cut). By AI agents, Wed Nov 11 2026. No macro, syntax, notation, axiom, sorry.
-/
import Derived.Test.YtjcahjhnnagkdaaChecked
import GoSem.Claim
import GoSem.ClaimJoined
import GoSem.ClaimMapViews
import Derived.JoinedTies
import Derived.KernelRfl
namespace Go.Proofs.Ytjcahjhnnagkdaa
/- THE CELL 'sum', in the pinned program and in every row, IS THE sha256 OF THE DUMP (.gsa) THAT YtjcahjhnnagkdaaProg.lean LOADS. Nothing in Lean hashes anything: it is a label: what it is worth is what the hold of that sum in a sandbox is worth. -/
noncomputable def Try.pinned : Pinned := { name := "ytjcahjhnnagkdaa", sum := "ed9b28019fc70310de45497a248c74b01108d59f98bdef542957b3a4ea69b038", checked := Try.checked }
namespace Rows
def none {H : Type} : Left H := { results := [], args := [] }

/-- 'laws.FnGains': WHATEVER THE INPUT: true; the input reads as it did. -/
def fnGainsSpec : ChangeSpec := { name := "fnGains", fn := fun _ => fun
  | [d] => { results := [.lit (.bool true)], args := [d] }
  | _ => none }
def fnGainsRow : OpenClaim := { program := "ytjcahjhnnagkdaa", sum := "ed9b28019fc70310de45497a248c74b01108d59f98bdef542957b3a4ea69b038", func := "loop.example/g00478/laws.FnGains", spec := "fnGains", apart := false }
def FnGainsSaid : Prop := fnGainsRow.holds Try.pinned (OpenSpec.ofChange fnGainsSpec)

/-- ITS FALSE NEIGHBOUR: 'it returns false'. Refute it at one input. -/
def fnGainsWrong : ChangeSpec := { name := "fnGains", fn := fun _ => fun
  | [d] => { results := [.lit (.bool false)], args := [d] }
  | _ => none }
def FnGainsWrongFalsely : Prop := fnGainsRow.holds Try.pinned (OpenSpec.ofChange fnGainsWrong)

/-- 'laws.FnNotes': WHATEVER THE INPUT: true; the input reads as it did. -/
def fnNotesSpec : ChangeSpec := { name := "fnNotes", fn := fun _ => fun
  | [d] => { results := [.lit (.bool true)], args := [d] }
  | _ => none }
def fnNotesRow : OpenClaim := { program := "ytjcahjhnnagkdaa", sum := "ed9b28019fc70310de45497a248c74b01108d59f98bdef542957b3a4ea69b038", func := "loop.example/g00478/laws.FnNotes", spec := "fnNotes", apart := false }
def FnNotesSaid : Prop := fnNotesRow.holds Try.pinned (OpenSpec.ofChange fnNotesSpec)

/-- ITS FALSE NEIGHBOUR: 'it returns false'. Refute it at one input. -/
def fnNotesWrong : ChangeSpec := { name := "fnNotes", fn := fun _ => fun
  | [d] => { results := [.lit (.bool false)], args := [d] }
  | _ => none }
def FnNotesWrongFalsely : Prop := fnNotesRow.holds Try.pinned (OpenSpec.ofChange fnNotesWrong)

/-- 'laws.FnExactCandOf': WHATEVER THE INPUT: true; the input reads as it did. -/
def fnExactCandOfSpec : ChangeSpec := { name := "fnExactCandOf", fn := fun _ => fun
  | [d1, d2] => { results := [.lit (.bool true)], args := [d1, d2] }
  | _ => none }
def fnExactCandOfRow : OpenClaim := { program := "ytjcahjhnnagkdaa", sum := "ed9b28019fc70310de45497a248c74b01108d59f98bdef542957b3a4ea69b038", func := "loop.example/g00478/laws.FnExactCandOf", spec := "fnExactCandOf", apart := false }
def FnExactCandOfSaid : Prop := fnExactCandOfRow.holds Try.pinned (OpenSpec.ofChange fnExactCandOfSpec)

/-- ITS FALSE NEIGHBOUR: 'it returns false'. Refute it at one input. -/
def fnExactCandOfWrong : ChangeSpec := { name := "fnExactCandOf", fn := fun _ => fun
  | [d1, d2] => { results := [.lit (.bool false)], args := [d1, d2] }
  | _ => none }
def FnExactCandOfWrongFalsely : Prop := fnExactCandOfRow.holds Try.pinned (OpenSpec.ofChange fnExactCandOfWrong)

/-- 'laws.FnPaths': WHATEVER THE INPUT: true; the input reads as it did. -/
def fnPathsSpec : ChangeSpec := { name := "fnPaths", fn := fun _ => fun
  | [d] => { results := [.lit (.bool true)], args := [d] }
  | _ => none }
def fnPathsRow : OpenClaim := { program := "ytjcahjhnnagkdaa", sum := "ed9b28019fc70310de45497a248c74b01108d59f98bdef542957b3a4ea69b038", func := "loop.example/g00478/laws.FnPaths", spec := "fnPaths", apart := false }
def FnPathsSaid : Prop := fnPathsRow.holds Try.pinned (OpenSpec.ofChange fnPathsSpec)

/-- ITS FALSE NEIGHBOUR: 'it returns false'. Refute it at one input. -/
def fnPathsWrong : ChangeSpec := { name := "fnPaths", fn := fun _ => fun
  | [d] => { results := [.lit (.bool false)], args := [d] }
  | _ => none }
def FnPathsWrongFalsely : Prop := fnPathsRow.holds Try.pinned (OpenSpec.ofChange fnPathsWrong)

/-- 'laws.FnExactPathTick': WHATEVER THE INPUT: true; the input reads as it did. -/
def fnExactPathTickSpec : ChangeSpec := { name := "fnExactPathTick", fn := fun _ => fun
  | [d1, d2] => { results := [.lit (.bool true)], args := [d1, d2] }
  | _ => none }
def fnExactPathTickRow : OpenClaim := { program := "ytjcahjhnnagkdaa", sum := "ed9b28019fc70310de45497a248c74b01108d59f98bdef542957b3a4ea69b038", func := "loop.example/g00478/laws.FnExactPathTick", spec := "fnExactPathTick", apart := false }
def FnExactPathTickSaid : Prop := fnExactPathTickRow.holds Try.pinned (OpenSpec.ofChange fnExactPathTickSpec)

/-- ITS FALSE NEIGHBOUR: 'it returns false'. Refute it at one input. -/
def fnExactPathTickWrong : ChangeSpec := { name := "fnExactPathTick", fn := fun _ => fun
  | [d1, d2] => { results := [.lit (.bool false)], args := [d1, d2] }
  | _ => none }
def FnExactPathTickWrongFalsely : Prop := fnExactPathTickRow.holds Try.pinned (OpenSpec.ofChange fnExactPathTickWrong)

/-- 'laws.FnExactPick': WHATEVER THE INPUT: true; the input reads as it did. -/
def fnExactPickSpec : ChangeSpec := { name := "fnExactPick", fn := fun _ => fun
  | [d1, d2] => { results := [.lit (.bool true)], args := [d1, d2] }
  | _ => none }
def fnExactPickRow : OpenClaim := { program := "ytjcahjhnnagkdaa", sum := "ed9b28019fc70310de45497a248c74b01108d59f98bdef542957b3a4ea69b038", func := "loop.example/g00478/laws.FnExactPick", spec := "fnExactPick", apart := false }
def FnExactPickSaid : Prop := fnExactPickRow.holds Try.pinned (OpenSpec.ofChange fnExactPickSpec)

/-- ITS FALSE NEIGHBOUR: 'it returns false'. Refute it at one input. -/
def fnExactPickWrong : ChangeSpec := { name := "fnExactPick", fn := fun _ => fun
  | [d1, d2] => { results := [.lit (.bool false)], args := [d1, d2] }
  | _ => none }
def FnExactPickWrongFalsely : Prop := fnExactPickRow.holds Try.pinned (OpenSpec.ofChange fnExactPickWrong)

/-- 'laws.FnExactAnswer': WHATEVER THE INPUT: true; the input reads as it did. -/
def fnExactAnswerSpec : ChangeSpec := { name := "fnExactAnswer", fn := fun _ => fun
  | [d1, d2, d3, d4] => { results := [.lit (.bool true)], args := [d1, d2, d3, d4] }
  | _ => none }
def fnExactAnswerRow : OpenClaim := { program := "ytjcahjhnnagkdaa", sum := "ed9b28019fc70310de45497a248c74b01108d59f98bdef542957b3a4ea69b038", func := "loop.example/g00478/laws.FnExactAnswer", spec := "fnExactAnswer", apart := false }
def FnExactAnswerSaid : Prop := fnExactAnswerRow.holds Try.pinned (OpenSpec.ofChange fnExactAnswerSpec)

/-- ITS FALSE NEIGHBOUR: 'it returns false'. Refute it at one input. -/
def fnExactAnswerWrong : ChangeSpec := { name := "fnExactAnswer", fn := fun _ => fun
  | [d1, d2, d3, d4] => { results := [.lit (.bool false)], args := [d1, d2, d3, d4] }
  | _ => none }
def FnExactAnswerWrongFalsely : Prop := fnExactAnswerRow.holds Try.pinned (OpenSpec.ofChange fnExactAnswerWrong)

/-- 'laws.FnMoves': WHATEVER THE INPUT: true; the input reads as it did. -/
def fnMovesSpec : ChangeSpec := { name := "fnMoves", fn := fun _ => fun
  | [d] => { results := [.lit (.bool true)], args := [d] }
  | _ => none }
def fnMovesRow : OpenClaim := { program := "ytjcahjhnnagkdaa", sum := "ed9b28019fc70310de45497a248c74b01108d59f98bdef542957b3a4ea69b038", func := "loop.example/g00478/laws.FnMoves", spec := "fnMoves", apart := false }
def FnMovesSaid : Prop := fnMovesRow.holds Try.pinned (OpenSpec.ofChange fnMovesSpec)

/-- ITS FALSE NEIGHBOUR: 'it returns false'. Refute it at one input. -/
def fnMovesWrong : ChangeSpec := { name := "fnMoves", fn := fun _ => fun
  | [d] => { results := [.lit (.bool false)], args := [d] }
  | _ => none }
def FnMovesWrongFalsely : Prop := fnMovesRow.holds Try.pinned (OpenSpec.ofChange fnMovesWrong)

/-- 'laws.FnExactOffer': WHATEVER THE INPUT: true; the input reads as it did. -/
def fnExactOfferSpec : ChangeSpec := { name := "fnExactOffer", fn := fun _ => fun
  | [d1, d2, d3, d4] => { results := [.lit (.bool true)], args := [d1, d2, d3, d4] }
  | _ => none }
def fnExactOfferRow : OpenClaim := { program := "ytjcahjhnnagkdaa", sum := "ed9b28019fc70310de45497a248c74b01108d59f98bdef542957b3a4ea69b038", func := "loop.example/g00478/laws.FnExactOffer", spec := "fnExactOffer", apart := false }
def FnExactOfferSaid : Prop := fnExactOfferRow.holds Try.pinned (OpenSpec.ofChange fnExactOfferSpec)

/-- ITS FALSE NEIGHBOUR: 'it returns false'. Refute it at one input. -/
def fnExactOfferWrong : ChangeSpec := { name := "fnExactOffer", fn := fun _ => fun
  | [d1, d2, d3, d4] => { results := [.lit (.bool false)], args := [d1, d2, d3, d4] }
  | _ => none }
def FnExactOfferWrongFalsely : Prop := fnExactOfferRow.holds Try.pinned (OpenSpec.ofChange fnExactOfferWrong)

/-- 'laws.FnExactClientNew': WHATEVER THE INPUT: true; the input reads as it did. -/
def fnExactClientNewSpec : ChangeSpec := { name := "fnExactClientNew", fn := fun _ => fun
  | [d1, d2, d3] => { results := [.lit (.bool true)], args := [d1, d2, d3] }
  | _ => none }
def fnExactClientNewRow : OpenClaim := { program := "ytjcahjhnnagkdaa", sum := "ed9b28019fc70310de45497a248c74b01108d59f98bdef542957b3a4ea69b038", func := "loop.example/g00478/laws.FnExactClientNew", spec := "fnExactClientNew", apart := false }
def FnExactClientNewSaid : Prop := fnExactClientNewRow.holds Try.pinned (OpenSpec.ofChange fnExactClientNewSpec)

/-- ITS FALSE NEIGHBOUR: 'it returns false'. Refute it at one input. -/
def fnExactClientNewWrong : ChangeSpec := { name := "fnExactClientNew", fn := fun _ => fun
  | [d1, d2, d3] => { results := [.lit (.bool false)], args := [d1, d2, d3] }
  | _ => none }
def FnExactClientNewWrongFalsely : Prop := fnExactClientNewRow.holds Try.pinned (OpenSpec.ofChange fnExactClientNewWrong)

/-- 'laws.FnExactClientOk': WHATEVER THE INPUT: true; the input reads as it did. -/
def fnExactClientOkSpec : ChangeSpec := { name := "fnExactClientOk", fn := fun _ => fun
  | [d] => { results := [.lit (.bool true)], args := [d] }
  | _ => none }
def fnExactClientOkRow : OpenClaim := { program := "ytjcahjhnnagkdaa", sum := "ed9b28019fc70310de45497a248c74b01108d59f98bdef542957b3a4ea69b038", func := "loop.example/g00478/laws.FnExactClientOk", spec := "fnExactClientOk", apart := false }
def FnExactClientOkSaid : Prop := fnExactClientOkRow.holds Try.pinned (OpenSpec.ofChange fnExactClientOkSpec)

/-- ITS FALSE NEIGHBOUR: 'it returns false'. Refute it at one input. -/
def fnExactClientOkWrong : ChangeSpec := { name := "fnExactClientOk", fn := fun _ => fun
  | [d] => { results := [.lit (.bool false)], args := [d] }
  | _ => none }
def FnExactClientOkWrongFalsely : Prop := fnExactClientOkRow.holds Try.pinned (OpenSpec.ofChange fnExactClientOkWrong)

/- THE SECOND FORM. 'bulk': how many values and letters a reading holds, each counted each time it is reached (what is shared counts as often as it is met; a slice's spare places count too). A statement '..UptoSaid' is the law's where the arguments, and the package variables that the reading takes, are together of bulk at most 1048576: NARROWER than '..Said'. Prove '..Said' where nothing that the law and all that it calls make is longer than what came in: it says more and counts as full. Else prove '..UptoSaid'. A law counts once. -/
mutual
def uptoBulk {H : Type} : DataW H → Nat
  | .lit (.string bytes) => bytes.length + 1
  | .lit _ => 1
  | .nil => 1
  | .ptr d => uptoBulk d + 1
  | .slice elems spare => uptoBulkAll elems + uptoBulkAll spare + 1
  | .agg parts => uptoBulkAll parts + 1
  | .iface _ d => uptoBulk d + 1
  | .map entries => uptoBulkEntries entries + 1
  | .held _ => 1
def uptoBulkAll {H : Type} : List (DataW H) → Nat
  | [] => 0
  | d :: r => uptoBulk d + uptoBulkAll r
def uptoBulkEntries {H : Type} : List (Lit × DataW H) → Nat
  | [] => 0
  | x :: r => uptoBulkEntry x + uptoBulkEntries r
def uptoBulkEntry {H : Type} : Lit × DataW H → Nat
  | (.string bytes, d) => bytes.length + uptoBulk d + 1
  | (_, d) => uptoBulk d + 1
 end
def uptoSmall : (H : Type) → List (DataW H) → Bool := fun _ ds => decide (uptoBulkAll ds ≤ 1048576)
def OpenSpec.upto (s : _root_.Go.ChangeSpec) : _root_.Go.OpenSpec := { _root_.Go.OpenSpec.ofChange s with cond := some uptoSmall }

/-- 'laws.FnGains', WHERE WHAT IT READS IS OF BULK AT MOST 1048576: true; the input reads as it did. -/
def fnGainsUptoRow : OpenClaim := { program := "ytjcahjhnnagkdaa", sum := "ed9b28019fc70310de45497a248c74b01108d59f98bdef542957b3a4ea69b038", func := "loop.example/g00478/laws.FnGains", spec := "fnGains", apart := false, narrowed := true }
def FnGainsUptoSaid : Prop := fnGainsUptoRow.holds Try.pinned (OpenSpec.upto fnGainsSpec)

/-- 'laws.FnNotes', WHERE WHAT IT READS IS OF BULK AT MOST 1048576: true; the input reads as it did. -/
def fnNotesUptoRow : OpenClaim := { program := "ytjcahjhnnagkdaa", sum := "ed9b28019fc70310de45497a248c74b01108d59f98bdef542957b3a4ea69b038", func := "loop.example/g00478/laws.FnNotes", spec := "fnNotes", apart := false, narrowed := true }
def FnNotesUptoSaid : Prop := fnNotesUptoRow.holds Try.pinned (OpenSpec.upto fnNotesSpec)

/-- 'laws.FnExactCandOf', WHERE WHAT IT READS IS OF BULK AT MOST 1048576: true; the input reads as it did. -/
def fnExactCandOfUptoRow : OpenClaim := { program := "ytjcahjhnnagkdaa", sum := "ed9b28019fc70310de45497a248c74b01108d59f98bdef542957b3a4ea69b038", func := "loop.example/g00478/laws.FnExactCandOf", spec := "fnExactCandOf", apart := false, narrowed := true }
def FnExactCandOfUptoSaid : Prop := fnExactCandOfUptoRow.holds Try.pinned (OpenSpec.upto fnExactCandOfSpec)

/-- 'laws.FnPaths', WHERE WHAT IT READS IS OF BULK AT MOST 1048576: true; the input reads as it did. -/
def fnPathsUptoRow : OpenClaim := { program := "ytjcahjhnnagkdaa", sum := "ed9b28019fc70310de45497a248c74b01108d59f98bdef542957b3a4ea69b038", func := "loop.example/g00478/laws.FnPaths", spec := "fnPaths", apart := false, narrowed := true }
def FnPathsUptoSaid : Prop := fnPathsUptoRow.holds Try.pinned (OpenSpec.upto fnPathsSpec)

/-- 'laws.FnExactPathTick', WHERE WHAT IT READS IS OF BULK AT MOST 1048576: true; the input reads as it did. -/
def fnExactPathTickUptoRow : OpenClaim := { program := "ytjcahjhnnagkdaa", sum := "ed9b28019fc70310de45497a248c74b01108d59f98bdef542957b3a4ea69b038", func := "loop.example/g00478/laws.FnExactPathTick", spec := "fnExactPathTick", apart := false, narrowed := true }
def FnExactPathTickUptoSaid : Prop := fnExactPathTickUptoRow.holds Try.pinned (OpenSpec.upto fnExactPathTickSpec)

/-- 'laws.FnExactPick', WHERE WHAT IT READS IS OF BULK AT MOST 1048576: true; the input reads as it did. -/
def fnExactPickUptoRow : OpenClaim := { program := "ytjcahjhnnagkdaa", sum := "ed9b28019fc70310de45497a248c74b01108d59f98bdef542957b3a4ea69b038", func := "loop.example/g00478/laws.FnExactPick", spec := "fnExactPick", apart := false, narrowed := true }
def FnExactPickUptoSaid : Prop := fnExactPickUptoRow.holds Try.pinned (OpenSpec.upto fnExactPickSpec)

/-- 'laws.FnExactAnswer', WHERE WHAT IT READS IS OF BULK AT MOST 1048576: true; the input reads as it did. -/
def fnExactAnswerUptoRow : OpenClaim := { program := "ytjcahjhnnagkdaa", sum := "ed9b28019fc70310de45497a248c74b01108d59f98bdef542957b3a4ea69b038", func := "loop.example/g00478/laws.FnExactAnswer", spec := "fnExactAnswer", apart := false, narrowed := true }
def FnExactAnswerUptoSaid : Prop := fnExactAnswerUptoRow.holds Try.pinned (OpenSpec.upto fnExactAnswerSpec)

/-- 'laws.FnMoves', WHERE WHAT IT READS IS OF BULK AT MOST 1048576: true; the input reads as it did. -/
def fnMovesUptoRow : OpenClaim := { program := "ytjcahjhnnagkdaa", sum := "ed9b28019fc70310de45497a248c74b01108d59f98bdef542957b3a4ea69b038", func := "loop.example/g00478/laws.FnMoves", spec := "fnMoves", apart := false, narrowed := true }
def FnMovesUptoSaid : Prop := fnMovesUptoRow.holds Try.pinned (OpenSpec.upto fnMovesSpec)

/-- 'laws.FnExactOffer', WHERE WHAT IT READS IS OF BULK AT MOST 1048576: true; the input reads as it did. -/
def fnExactOfferUptoRow : OpenClaim := { program := "ytjcahjhnnagkdaa", sum := "ed9b28019fc70310de45497a248c74b01108d59f98bdef542957b3a4ea69b038", func := "loop.example/g00478/laws.FnExactOffer", spec := "fnExactOffer", apart := false, narrowed := true }
def FnExactOfferUptoSaid : Prop := fnExactOfferUptoRow.holds Try.pinned (OpenSpec.upto fnExactOfferSpec)

/-- 'laws.FnExactClientNew', WHERE WHAT IT READS IS OF BULK AT MOST 1048576: true; the input reads as it did. -/
def fnExactClientNewUptoRow : OpenClaim := { program := "ytjcahjhnnagkdaa", sum := "ed9b28019fc70310de45497a248c74b01108d59f98bdef542957b3a4ea69b038", func := "loop.example/g00478/laws.FnExactClientNew", spec := "fnExactClientNew", apart := false, narrowed := true }
def FnExactClientNewUptoSaid : Prop := fnExactClientNewUptoRow.holds Try.pinned (OpenSpec.upto fnExactClientNewSpec)

/-- 'laws.FnExactClientOk', WHERE WHAT IT READS IS OF BULK AT MOST 1048576: true; the input reads as it did. -/
def fnExactClientOkUptoRow : OpenClaim := { program := "ytjcahjhnnagkdaa", sum := "ed9b28019fc70310de45497a248c74b01108d59f98bdef542957b3a4ea69b038", func := "loop.example/g00478/laws.FnExactClientOk", spec := "fnExactClientOk", apart := false, narrowed := true }
def FnExactClientOkUptoSaid : Prop := fnExactClientOkUptoRow.holds Try.pinned (OpenSpec.upto fnExactClientOkSpec)

end Rows
end Go.Proofs.Ytjcahjhnnagkdaa
