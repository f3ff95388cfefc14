/-
  No cell of these rows narrows 'for every input' (looked for: loops, veiled, ifaces, maps, wideKeys, modest, calm, conditions, laid).
  DERIVED. THE GIVEN ROWS OF THIS SEAT. 12 by the template 'for every input the law returns true; each argument reads behind the call as it read before'; 0 by the template 'total and deterministic' (their statements: YtodlalolknldmaaTotals.lean).
  GIVEN WITH THE SEED: the statements are not yours to turn. If you find one false, say at which input.
  Laid BY PROGRAM, IN A SANDBOX (cutbox-rows.mjs): the forced cells as the released guide's own fill.sh prints them over the translation 8b19f8bd6eab84e1… (all of the seat's roots in one cut). By AI agents, Wed Nov 11 2026. No macro, syntax, notation, axiom, sorry.
-/
import Derived.Test.YtodlalolknldmaaChecked
import GoSem.Claim
import GoSem.ClaimJoined
import GoSem.ClaimMapViews
import Derived.JoinedTies
import Derived.KernelRfl
namespace Go.Proofs.Ytodlalolknldmaa
/- THE CELL 'sum', in the pinned program and in every row, IS THE sha256 OF THE DUMP (.gsa) THAT YtodlalolknldmaaProg.lean LOADS. Nothing in Lean hashes anything: it is a label: what it is worth is what the hold of that sum in a sandbox is worth. -/
noncomputable def Try.pinned : Pinned := { name := "ytodlalolknldmaa", sum := "8b19f8bd6eab84e10ba1bb05dc5e59b6d0306e234381d869cd99b4b0ba578cb8", checked := Try.checked }
namespace Rows
def none {H : Type} : Left H := { results := [], args := [] }

/-- 'laws.FnExactChanNew': WHATEVER THE INPUT: true; the input reads as it did. -/
def fnExactChanNewSpec : ChangeSpec := { name := "fnExactChanNew", fn := fun _ => fun
  | [d1, d2, d3] => { results := [.lit (.bool true)], args := [d1, d2, d3] }
  | _ => none }
def fnExactChanNewRow : OpenClaim := { program := "ytodlalolknldmaa", sum := "8b19f8bd6eab84e10ba1bb05dc5e59b6d0306e234381d869cd99b4b0ba578cb8", func := "loop.example/g00478/laws.FnExactChanNew", spec := "fnExactChanNew", apart := false }
def FnExactChanNewSaid : Prop := fnExactChanNewRow.holds Try.pinned (OpenSpec.ofChange fnExactChanNewSpec)

/-- ITS FALSE NEIGHBOUR: 'it returns false'. Refute it at one input. -/
def fnExactChanNewWrong : ChangeSpec := { name := "fnExactChanNew", fn := fun _ => fun
  | [d1, d2, d3] => { results := [.lit (.bool false)], args := [d1, d2, d3] }
  | _ => none }
def FnExactChanNewWrongFalsely : Prop := fnExactChanNewRow.holds Try.pinned (OpenSpec.ofChange fnExactChanNewWrong)

/-- 'laws.FnExactChanOk': WHATEVER THE INPUT: true; the input reads as it did. -/
def fnExactChanOkSpec : ChangeSpec := { name := "fnExactChanOk", fn := fun _ => fun
  | [d] => { results := [.lit (.bool true)], args := [d] }
  | _ => none }
def fnExactChanOkRow : OpenClaim := { program := "ytodlalolknldmaa", sum := "8b19f8bd6eab84e10ba1bb05dc5e59b6d0306e234381d869cd99b4b0ba578cb8", func := "loop.example/g00478/laws.FnExactChanOk", spec := "fnExactChanOk", apart := false }
def FnExactChanOkSaid : Prop := fnExactChanOkRow.holds Try.pinned (OpenSpec.ofChange fnExactChanOkSpec)

/-- ITS FALSE NEIGHBOUR: 'it returns false'. Refute it at one input. -/
def fnExactChanOkWrong : ChangeSpec := { name := "fnExactChanOk", fn := fun _ => fun
  | [d] => { results := [.lit (.bool false)], args := [d] }
  | _ => none }
def FnExactChanOkWrongFalsely : Prop := fnExactChanOkRow.holds Try.pinned (OpenSpec.ofChange fnExactChanOkWrong)

/-- 'laws.FnExactOldest': WHATEVER THE INPUT: true; the input reads as it did. -/
def fnExactOldestSpec : ChangeSpec := { name := "fnExactOldest", fn := fun _ => fun
  | [d] => { results := [.lit (.bool true)], args := [d] }
  | _ => none }
def fnExactOldestRow : OpenClaim := { program := "ytodlalolknldmaa", sum := "8b19f8bd6eab84e10ba1bb05dc5e59b6d0306e234381d869cd99b4b0ba578cb8", func := "loop.example/g00478/laws.FnExactOldest", spec := "fnExactOldest", apart := false }
def FnExactOldestSaid : Prop := fnExactOldestRow.holds Try.pinned (OpenSpec.ofChange fnExactOldestSpec)

/-- ITS FALSE NEIGHBOUR: 'it returns false'. Refute it at one input. -/
def fnExactOldestWrong : ChangeSpec := { name := "fnExactOldest", fn := fun _ => fun
  | [d] => { results := [.lit (.bool false)], args := [d] }
  | _ => none }
def FnExactOldestWrongFalsely : Prop := fnExactOldestRow.holds Try.pinned (OpenSpec.ofChange fnExactOldestWrong)

/-- 'laws.FnExactKeyFor': WHATEVER THE INPUT: true; the input reads as it did. -/
def fnExactKeyForSpec : ChangeSpec := { name := "fnExactKeyFor", fn := fun _ => fun
  | [d1, d2] => { results := [.lit (.bool true)], args := [d1, d2] }
  | _ => none }
def fnExactKeyForRow : OpenClaim := { program := "ytodlalolknldmaa", sum := "8b19f8bd6eab84e10ba1bb05dc5e59b6d0306e234381d869cd99b4b0ba578cb8", func := "loop.example/g00478/laws.FnExactKeyFor", spec := "fnExactKeyFor", apart := false }
def FnExactKeyForSaid : Prop := fnExactKeyForRow.holds Try.pinned (OpenSpec.ofChange fnExactKeyForSpec)

/-- ITS FALSE NEIGHBOUR: 'it returns false'. Refute it at one input. -/
def fnExactKeyForWrong : ChangeSpec := { name := "fnExactKeyFor", fn := fun _ => fun
  | [d1, d2] => { results := [.lit (.bool false)], args := [d1, d2] }
  | _ => none }
def FnExactKeyForWrongFalsely : Prop := fnExactKeyForRow.holds Try.pinned (OpenSpec.ofChange fnExactKeyForWrong)

/-- 'laws.FnExactKeysOf': WHATEVER THE INPUT: true; the input reads as it did. -/
def fnExactKeysOfSpec : ChangeSpec := { name := "fnExactKeysOf", fn := fun _ => fun
  | [d] => { results := [.lit (.bool true)], args := [d] }
  | _ => none }
def fnExactKeysOfRow : OpenClaim := { program := "ytodlalolknldmaa", sum := "8b19f8bd6eab84e10ba1bb05dc5e59b6d0306e234381d869cd99b4b0ba578cb8", func := "loop.example/g00478/laws.FnExactKeysOf", spec := "fnExactKeysOf", apart := false }
def FnExactKeysOfSaid : Prop := fnExactKeysOfRow.holds Try.pinned (OpenSpec.ofChange fnExactKeysOfSpec)

/-- ITS FALSE NEIGHBOUR: 'it returns false'. Refute it at one input. -/
def fnExactKeysOfWrong : ChangeSpec := { name := "fnExactKeysOf", fn := fun _ => fun
  | [d] => { results := [.lit (.bool false)], args := [d] }
  | _ => none }
def FnExactKeysOfWrongFalsely : Prop := fnExactKeysOfRow.holds Try.pinned (OpenSpec.ofChange fnExactKeysOfWrong)

/-- 'laws.FnExactChanTick': WHATEVER THE INPUT: true; the input reads as it did. -/
def fnExactChanTickSpec : ChangeSpec := { name := "fnExactChanTick", fn := fun _ => fun
  | [d1, d2] => { results := [.lit (.bool true)], args := [d1, d2] }
  | _ => none }
def fnExactChanTickRow : OpenClaim := { program := "ytodlalolknldmaa", sum := "8b19f8bd6eab84e10ba1bb05dc5e59b6d0306e234381d869cd99b4b0ba578cb8", func := "loop.example/g00478/laws.FnExactChanTick", spec := "fnExactChanTick", apart := false }
def FnExactChanTickSaid : Prop := fnExactChanTickRow.holds Try.pinned (OpenSpec.ofChange fnExactChanTickSpec)

/-- ITS FALSE NEIGHBOUR: 'it returns false'. Refute it at one input. -/
def fnExactChanTickWrong : ChangeSpec := { name := "fnExactChanTick", fn := fun _ => fun
  | [d1, d2] => { results := [.lit (.bool false)], args := [d1, d2] }
  | _ => none }
def FnExactChanTickWrongFalsely : Prop := fnExactChanTickRow.holds Try.pinned (OpenSpec.ofChange fnExactChanTickWrong)

/-- 'laws.FnExactSameNote': WHATEVER THE INPUT: true; the input reads as it did. -/
def fnExactSameNoteSpec : ChangeSpec := { name := "fnExactSameNote", fn := fun _ => fun
  | [d1, d2] => { results := [.lit (.bool true)], args := [d1, d2] }
  | _ => none }
def fnExactSameNoteRow : OpenClaim := { program := "ytodlalolknldmaa", sum := "8b19f8bd6eab84e10ba1bb05dc5e59b6d0306e234381d869cd99b4b0ba578cb8", func := "loop.example/g00478/laws.FnExactSameNote", spec := "fnExactSameNote", apart := false }
def FnExactSameNoteSaid : Prop := fnExactSameNoteRow.holds Try.pinned (OpenSpec.ofChange fnExactSameNoteSpec)

/-- ITS FALSE NEIGHBOUR: 'it returns false'. Refute it at one input. -/
def fnExactSameNoteWrong : ChangeSpec := { name := "fnExactSameNote", fn := fun _ => fun
  | [d1, d2] => { results := [.lit (.bool false)], args := [d1, d2] }
  | _ => none }
def FnExactSameNoteWrongFalsely : Prop := fnExactSameNoteRow.holds Try.pinned (OpenSpec.ofChange fnExactSameNoteWrong)

/-- 'laws.FnExactNoteOk': WHATEVER THE INPUT: true; the input reads as it did. -/
def fnExactNoteOkSpec : ChangeSpec := { name := "fnExactNoteOk", fn := fun _ => fun
  | [d] => { results := [.lit (.bool true)], args := [d] }
  | _ => none }
def fnExactNoteOkRow : OpenClaim := { program := "ytodlalolknldmaa", sum := "8b19f8bd6eab84e10ba1bb05dc5e59b6d0306e234381d869cd99b4b0ba578cb8", func := "loop.example/g00478/laws.FnExactNoteOk", spec := "fnExactNoteOk", apart := false }
def FnExactNoteOkSaid : Prop := fnExactNoteOkRow.holds Try.pinned (OpenSpec.ofChange fnExactNoteOkSpec)

/-- ITS FALSE NEIGHBOUR: 'it returns false'. Refute it at one input. -/
def fnExactNoteOkWrong : ChangeSpec := { name := "fnExactNoteOk", fn := fun _ => fun
  | [d] => { results := [.lit (.bool false)], args := [d] }
  | _ => none }
def FnExactNoteOkWrongFalsely : Prop := fnExactNoteOkRow.holds Try.pinned (OpenSpec.ofChange fnExactNoteOkWrong)

/-- 'laws.FnExactPathsOk': WHATEVER THE INPUT: true; the input reads as it did. -/
def fnExactPathsOkSpec : ChangeSpec := { name := "fnExactPathsOk", fn := fun _ => fun
  | [d] => { results := [.lit (.bool true)], args := [d] }
  | _ => none }
def fnExactPathsOkRow : OpenClaim := { program := "ytodlalolknldmaa", sum := "8b19f8bd6eab84e10ba1bb05dc5e59b6d0306e234381d869cd99b4b0ba578cb8", func := "loop.example/g00478/laws.FnExactPathsOk", spec := "fnExactPathsOk", apart := false }
def FnExactPathsOkSaid : Prop := fnExactPathsOkRow.holds Try.pinned (OpenSpec.ofChange fnExactPathsOkSpec)

/-- ITS FALSE NEIGHBOUR: 'it returns false'. Refute it at one input. -/
def fnExactPathsOkWrong : ChangeSpec := { name := "fnExactPathsOk", fn := fun _ => fun
  | [d] => { results := [.lit (.bool false)], args := [d] }
  | _ => none }
def FnExactPathsOkWrongFalsely : Prop := fnExactPathsOkRow.holds Try.pinned (OpenSpec.ofChange fnExactPathsOkWrong)

/-- 'laws.FnExactGain': WHATEVER THE INPUT: true; the input reads as it did. -/
def fnExactGainSpec : ChangeSpec := { name := "fnExactGain", fn := fun _ => fun
  | [d1, d2, d3] => { results := [.lit (.bool true)], args := [d1, d2, d3] }
  | _ => none }
def fnExactGainRow : OpenClaim := { program := "ytodlalolknldmaa", sum := "8b19f8bd6eab84e10ba1bb05dc5e59b6d0306e234381d869cd99b4b0ba578cb8", func := "loop.example/g00478/laws.FnExactGain", spec := "fnExactGain", apart := false }
def FnExactGainSaid : Prop := fnExactGainRow.holds Try.pinned (OpenSpec.ofChange fnExactGainSpec)

/-- ITS FALSE NEIGHBOUR: 'it returns false'. Refute it at one input. -/
def fnExactGainWrong : ChangeSpec := { name := "fnExactGain", fn := fun _ => fun
  | [d1, d2, d3] => { results := [.lit (.bool false)], args := [d1, d2, d3] }
  | _ => none }
def FnExactGainWrongFalsely : Prop := fnExactGainRow.holds Try.pinned (OpenSpec.ofChange fnExactGainWrong)

/-- 'laws.FnExactRoomFor': WHATEVER THE INPUT: true; the input reads as it did. -/
def fnExactRoomForSpec : ChangeSpec := { name := "fnExactRoomFor", fn := fun _ => fun
  | [d1, d2] => { results := [.lit (.bool true)], args := [d1, d2] }
  | _ => none }
def fnExactRoomForRow : OpenClaim := { program := "ytodlalolknldmaa", sum := "8b19f8bd6eab84e10ba1bb05dc5e59b6d0306e234381d869cd99b4b0ba578cb8", func := "loop.example/g00478/laws.FnExactRoomFor", spec := "fnExactRoomFor", apart := false }
def FnExactRoomForSaid : Prop := fnExactRoomForRow.holds Try.pinned (OpenSpec.ofChange fnExactRoomForSpec)

/-- ITS FALSE NEIGHBOUR: 'it returns false'. Refute it at one input. -/
def fnExactRoomForWrong : ChangeSpec := { name := "fnExactRoomFor", fn := fun _ => fun
  | [d1, d2] => { results := [.lit (.bool false)], args := [d1, d2] }
  | _ => none }
def FnExactRoomForWrongFalsely : Prop := fnExactRoomForRow.holds Try.pinned (OpenSpec.ofChange fnExactRoomForWrong)

/-- 'laws.FnExactPathsNew': WHATEVER THE INPUT: true; the input reads as it did. -/
def fnExactPathsNewSpec : ChangeSpec := { name := "fnExactPathsNew", fn := fun _ => fun
  | [d] => { results := [.lit (.bool true)], args := [d] }
  | _ => none }
def fnExactPathsNewRow : OpenClaim := { program := "ytodlalolknldmaa", sum := "8b19f8bd6eab84e10ba1bb05dc5e59b6d0306e234381d869cd99b4b0ba578cb8", func := "loop.example/g00478/laws.FnExactPathsNew", spec := "fnExactPathsNew", apart := false }
def FnExactPathsNewSaid : Prop := fnExactPathsNewRow.holds Try.pinned (OpenSpec.ofChange fnExactPathsNewSpec)

/-- ITS FALSE NEIGHBOUR: 'it returns false'. Refute it at one input. -/
def fnExactPathsNewWrong : ChangeSpec := { name := "fnExactPathsNew", fn := fun _ => fun
  | [d] => { results := [.lit (.bool false)], args := [d] }
  | _ => none }
def FnExactPathsNewWrongFalsely : Prop := fnExactPathsNewRow.holds Try.pinned (OpenSpec.ofChange fnExactPathsNewWrong)

/- THE SECOND FORM. 'bulk': how many values and letters a reading holds, each counted each time it is reached (what is shared counts as often as it is met; a slice's spare places count too). A statement '..UptoSaid' is the law's where the arguments, and the package variables that the reading takes, are together of bulk at most 1048576: NARROWER than '..Said'. Prove '..Said' where nothing that the law and all that it calls make is longer than what came in: it says more and counts as full. Else prove '..UptoSaid'. A law counts once. -/
mutual
def uptoBulk {H : Type} : DataW H → Nat
  | .lit (.string bytes) => bytes.length + 1
  | .lit _ => 1
  | .nil => 1
  | .ptr d => uptoBulk d + 1
  | .slice elems spare => uptoBulkAll elems + uptoBulkAll spare + 1
  | .agg parts => uptoBulkAll parts + 1
  | .iface _ d => uptoBulk d + 1
  | .map entries => uptoBulkEntries entries + 1
  | .held _ => 1
def uptoBulkAll {H : Type} : List (DataW H) → Nat
  | [] => 0
  | d :: r => uptoBulk d + uptoBulkAll r
def uptoBulkEntries {H : Type} : List (Lit × DataW H) → Nat
  | [] => 0
  | x :: r => uptoBulkEntry x + uptoBulkEntries r
def uptoBulkEntry {H : Type} : Lit × DataW H → Nat
  | (.string bytes, d) => bytes.length + uptoBulk d + 1
  | (_, d) => uptoBulk d + 1
 end
def uptoSmall : (H : Type) → List (DataW H) → Bool := fun _ ds => decide (uptoBulkAll ds ≤ 1048576)
def OpenSpec.upto (s : _root_.Go.ChangeSpec) : _root_.Go.OpenSpec := { _root_.Go.OpenSpec.ofChange s with cond := some uptoSmall }

/-- 'laws.FnExactChanNew', WHERE WHAT IT READS IS OF BULK AT MOST 1048576: true; the input reads as it did. -/
def fnExactChanNewUptoRow : OpenClaim := { program := "ytodlalolknldmaa", sum := "8b19f8bd6eab84e10ba1bb05dc5e59b6d0306e234381d869cd99b4b0ba578cb8", func := "loop.example/g00478/laws.FnExactChanNew", spec := "fnExactChanNew", apart := false, narrowed := true }
def FnExactChanNewUptoSaid : Prop := fnExactChanNewUptoRow.holds Try.pinned (OpenSpec.upto fnExactChanNewSpec)

/-- 'laws.FnExactChanOk', WHERE WHAT IT READS IS OF BULK AT MOST 1048576: true; the input reads as it did. -/
def fnExactChanOkUptoRow : OpenClaim := { program := "ytodlalolknldmaa", sum := "8b19f8bd6eab84e10ba1bb05dc5e59b6d0306e234381d869cd99b4b0ba578cb8", func := "loop.example/g00478/laws.FnExactChanOk", spec := "fnExactChanOk", apart := false, narrowed := true }
def FnExactChanOkUptoSaid : Prop := fnExactChanOkUptoRow.holds Try.pinned (OpenSpec.upto fnExactChanOkSpec)

/-- 'laws.FnExactOldest', WHERE WHAT IT READS IS OF BULK AT MOST 1048576: true; the input reads as it did. -/
def fnExactOldestUptoRow : OpenClaim := { program := "ytodlalolknldmaa", sum := "8b19f8bd6eab84e10ba1bb05dc5e59b6d0306e234381d869cd99b4b0ba578cb8", func := "loop.example/g00478/laws.FnExactOldest", spec := "fnExactOldest", apart := false, narrowed := true }
def FnExactOldestUptoSaid : Prop := fnExactOldestUptoRow.holds Try.pinned (OpenSpec.upto fnExactOldestSpec)

/-- 'laws.FnExactKeyFor', WHERE WHAT IT READS IS OF BULK AT MOST 1048576: true; the input reads as it did. -/
def fnExactKeyForUptoRow : OpenClaim := { program := "ytodlalolknldmaa", sum := "8b19f8bd6eab84e10ba1bb05dc5e59b6d0306e234381d869cd99b4b0ba578cb8", func := "loop.example/g00478/laws.FnExactKeyFor", spec := "fnExactKeyFor", apart := false, narrowed := true }
def FnExactKeyForUptoSaid : Prop := fnExactKeyForUptoRow.holds Try.pinned (OpenSpec.upto fnExactKeyForSpec)

/-- 'laws.FnExactKeysOf', WHERE WHAT IT READS IS OF BULK AT MOST 1048576: true; the input reads as it did. -/
def fnExactKeysOfUptoRow : OpenClaim := { program := "ytodlalolknldmaa", sum := "8b19f8bd6eab84e10ba1bb05dc5e59b6d0306e234381d869cd99b4b0ba578cb8", func := "loop.example/g00478/laws.FnExactKeysOf", spec := "fnExactKeysOf", apart := false, narrowed := true }
def FnExactKeysOfUptoSaid : Prop := fnExactKeysOfUptoRow.holds Try.pinned (OpenSpec.upto fnExactKeysOfSpec)

/-- 'laws.FnExactChanTick', WHERE WHAT IT READS IS OF BULK AT MOST 1048576: true; the input reads as it did. -/
def fnExactChanTickUptoRow : OpenClaim := { program := "ytodlalolknldmaa", sum := "8b19f8bd6eab84e10ba1bb05dc5e59b6d0306e234381d869cd99b4b0ba578cb8", func := "loop.example/g00478/laws.FnExactChanTick", spec := "fnExactChanTick", apart := false, narrowed := true }
def FnExactChanTickUptoSaid : Prop := fnExactChanTickUptoRow.holds Try.pinned (OpenSpec.upto fnExactChanTickSpec)

/-- 'laws.FnExactSameNote', WHERE WHAT IT READS IS OF BULK AT MOST 1048576: true; the input reads as it did. -/
def fnExactSameNoteUptoRow : OpenClaim := { program := "ytodlalolknldmaa", sum := "8b19f8bd6eab84e10ba1bb05dc5e59b6d0306e234381d869cd99b4b0ba578cb8", func := "loop.example/g00478/laws.FnExactSameNote", spec := "fnExactSameNote", apart := false, narrowed := true }
def FnExactSameNoteUptoSaid : Prop := fnExactSameNoteUptoRow.holds Try.pinned (OpenSpec.upto fnExactSameNoteSpec)

/-- 'laws.FnExactNoteOk', WHERE WHAT IT READS IS OF BULK AT MOST 1048576: true; the input reads as it did. -/
def fnExactNoteOkUptoRow : OpenClaim := { program := "ytodlalolknldmaa", sum := "8b19f8bd6eab84e10ba1bb05dc5e59b6d0306e234381d869cd99b4b0ba578cb8", func := "loop.example/g00478/laws.FnExactNoteOk", spec := "fnExactNoteOk", apart := false, narrowed := true }
def FnExactNoteOkUptoSaid : Prop := fnExactNoteOkUptoRow.holds Try.pinned (OpenSpec.upto fnExactNoteOkSpec)

/-- 'laws.FnExactPathsOk', WHERE WHAT IT READS IS OF BULK AT MOST 1048576: true; the input reads as it did. -/
def fnExactPathsOkUptoRow : OpenClaim := { program := "ytodlalolknldmaa", sum := "8b19f8bd6eab84e10ba1bb05dc5e59b6d0306e234381d869cd99b4b0ba578cb8", func := "loop.example/g00478/laws.FnExactPathsOk", spec := "fnExactPathsOk", apart := false, narrowed := true }
def FnExactPathsOkUptoSaid : Prop := fnExactPathsOkUptoRow.holds Try.pinned (OpenSpec.upto fnExactPathsOkSpec)

/-- 'laws.FnExactGain', WHERE WHAT IT READS IS OF BULK AT MOST 1048576: true; the input reads as it did. -/
def fnExactGainUptoRow : OpenClaim := { program := "ytodlalolknldmaa", sum := "8b19f8bd6eab84e10ba1bb05dc5e59b6d0306e234381d869cd99b4b0ba578cb8", func := "loop.example/g00478/laws.FnExactGain", spec := "fnExactGain", apart := false, narrowed := true }
def FnExactGainUptoSaid : Prop := fnExactGainUptoRow.holds Try.pinned (OpenSpec.upto fnExactGainSpec)

/-- 'laws.FnExactRoomFor', WHERE WHAT IT READS IS OF BULK AT MOST 1048576: true; the input reads as it did. -/
def fnExactRoomForUptoRow : OpenClaim := { program := "ytodlalolknldmaa", sum := "8b19f8bd6eab84e10ba1bb05dc5e59b6d0306e234381d869cd99b4b0ba578cb8", func := "loop.example/g00478/laws.FnExactRoomFor", spec := "fnExactRoomFor", apart := false, narrowed := true }
def FnExactRoomForUptoSaid : Prop := fnExactRoomForUptoRow.holds Try.pinned (OpenSpec.upto fnExactRoomForSpec)

/-- 'laws.FnExactPathsNew', WHERE WHAT IT READS IS OF BULK AT MOST 1048576: true; the input reads as it did. -/
def fnExactPathsNewUptoRow : OpenClaim := { program := "ytodlalolknldmaa", sum := "8b19f8bd6eab84e10ba1bb05dc5e59b6d0306e234381d869cd99b4b0ba578cb8", func := "loop.example/g00478/laws.FnExactPathsNew", spec := "fnExactPathsNew", apart := false, narrowed := true }
def FnExactPathsNewUptoSaid : Prop := fnExactPathsNewUptoRow.holds Try.pinned (OpenSpec.upto fnExactPathsNewSpec)

end Rows
end Go.Proofs.Ytodlalolknldmaa
