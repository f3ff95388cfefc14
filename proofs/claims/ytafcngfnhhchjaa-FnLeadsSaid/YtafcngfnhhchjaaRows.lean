/-
  No cell of these rows narrows 'for every input' (looked for: loops, veiled, ifaces, maps, wideKeys, modest, calm, conditions, laid).
  DERIVED. THE GIVEN ROWS OF THIS SEAT. 7 by the template 'for every input the law returns true; each argument reads behind the call as it read before'; 0 by the template 'total and deterministic' (their statements: YtafcngfnhhchjaaTotals.lean).
  GIVEN WITH THE SEED: the statements are not yours to turn. If you find one false, say at which input.
  Laid BY PROGRAM, IN A SANDBOX (cutbox-rows.mjs): the forced cells as the released guide's own fill.sh prints them over the translation 8f487851dca070e9… (all of the seat's roots in one cut). By AI agents, Wed Nov 11 2026. No macro, syntax, notation, axiom, sorry.
-/
import Derived.Test.YtafcngfnhhchjaaChecked
import GoSem.Claim
import GoSem.ClaimJoined
import GoSem.ClaimMapViews
import Derived.JoinedTies
import Derived.KernelRfl
namespace Go.Proofs.Ytafcngfnhhchjaa
/- THE CELL 'sum', in the pinned program and in every row, IS THE sha256 OF THE DUMP (.gsa) THAT YtafcngfnhhchjaaProg.lean LOADS. Nothing in Lean hashes anything: it is a label: what it is worth is what the hold of that sum in a sandbox is worth. -/
noncomputable def Try.pinned : Pinned := { name := "ytafcngfnhhchjaa", sum := "8f487851dca070e96a3120117f585eec402276a3ae9283d85645034ed5a90490", checked := Try.checked }
namespace Rows
def none {H : Type} : Left H := { results := [], args := [] }

/-- 'laws.FnExactLeads': WHATEVER THE INPUT: true; the input reads as it did. -/
def fnExactLeadsSpec : ChangeSpec := { name := "fnExactLeads", fn := fun _ => fun
  | [d1, d2, d3] => { results := [.lit (.bool true)], args := [d1, d2, d3] }
  | _ => none }
def fnExactLeadsRow : OpenClaim := { program := "ytafcngfnhhchjaa", sum := "8f487851dca070e96a3120117f585eec402276a3ae9283d85645034ed5a90490", func := "loop.example/g00478/laws.FnExactLeads", spec := "fnExactLeads", apart := false }
def FnExactLeadsSaid : Prop := fnExactLeadsRow.holds Try.pinned (OpenSpec.ofChange fnExactLeadsSpec)

/-- ITS FALSE NEIGHBOUR: 'it returns false'. Refute it at one input. -/
def fnExactLeadsWrong : ChangeSpec := { name := "fnExactLeads", fn := fun _ => fun
  | [d1, d2, d3] => { results := [.lit (.bool false)], args := [d1, d2, d3] }
  | _ => none }
def FnExactLeadsWrongFalsely : Prop := fnExactLeadsRow.holds Try.pinned (OpenSpec.ofChange fnExactLeadsWrong)

/-- 'laws.FnLeads': WHATEVER THE INPUT: true; the input reads as it did. -/
def fnLeadsSpec : ChangeSpec := { name := "fnLeads", fn := fun _ => fun
  | [d] => { results := [.lit (.bool true)], args := [d] }
  | _ => none }
def fnLeadsRow : OpenClaim := { program := "ytafcngfnhhchjaa", sum := "8f487851dca070e96a3120117f585eec402276a3ae9283d85645034ed5a90490", func := "loop.example/g00478/laws.FnLeads", spec := "fnLeads", apart := false }
def FnLeadsSaid : Prop := fnLeadsRow.holds Try.pinned (OpenSpec.ofChange fnLeadsSpec)

/-- ITS FALSE NEIGHBOUR: 'it returns false'. Refute it at one input. -/
def fnLeadsWrong : ChangeSpec := { name := "fnLeads", fn := fun _ => fun
  | [d] => { results := [.lit (.bool false)], args := [d] }
  | _ => none }
def FnLeadsWrongFalsely : Prop := fnLeadsRow.holds Try.pinned (OpenSpec.ofChange fnLeadsWrong)

/-- 'laws.FnKeysOf': WHATEVER THE INPUT: true; the input reads as it did. -/
def fnKeysOfSpec : ChangeSpec := { name := "fnKeysOf", fn := fun _ => fun
  | [d] => { results := [.lit (.bool true)], args := [d] }
  | _ => none }
def fnKeysOfRow : OpenClaim := { program := "ytafcngfnhhchjaa", sum := "8f487851dca070e96a3120117f585eec402276a3ae9283d85645034ed5a90490", func := "loop.example/g00478/laws.FnKeysOf", spec := "fnKeysOf", apart := false }
def FnKeysOfSaid : Prop := fnKeysOfRow.holds Try.pinned (OpenSpec.ofChange fnKeysOfSpec)

/-- ITS FALSE NEIGHBOUR: 'it returns false'. Refute it at one input. -/
def fnKeysOfWrong : ChangeSpec := { name := "fnKeysOf", fn := fun _ => fun
  | [d] => { results := [.lit (.bool false)], args := [d] }
  | _ => none }
def FnKeysOfWrongFalsely : Prop := fnKeysOfRow.holds Try.pinned (OpenSpec.ofChange fnKeysOfWrong)

/-- 'laws.FnExactWant': WHATEVER THE INPUT: true; the input reads as it did. -/
def fnExactWantSpec : ChangeSpec := { name := "fnExactWant", fn := fun _ => fun
  | [d] => { results := [.lit (.bool true)], args := [d] }
  | _ => none }
def fnExactWantRow : OpenClaim := { program := "ytafcngfnhhchjaa", sum := "8f487851dca070e96a3120117f585eec402276a3ae9283d85645034ed5a90490", func := "loop.example/g00478/laws.FnExactWant", spec := "fnExactWant", apart := false }
def FnExactWantSaid : Prop := fnExactWantRow.holds Try.pinned (OpenSpec.ofChange fnExactWantSpec)

/-- ITS FALSE NEIGHBOUR: 'it returns false'. Refute it at one input. -/
def fnExactWantWrong : ChangeSpec := { name := "fnExactWant", fn := fun _ => fun
  | [d] => { results := [.lit (.bool false)], args := [d] }
  | _ => none }
def FnExactWantWrongFalsely : Prop := fnExactWantRow.holds Try.pinned (OpenSpec.ofChange fnExactWantWrong)

/-- 'laws.FnExactTurn': WHATEVER THE INPUT: true; the input reads as it did. -/
def fnExactTurnSpec : ChangeSpec := { name := "fnExactTurn", fn := fun _ => fun
  | [d] => { results := [.lit (.bool true)], args := [d] }
  | _ => none }
def fnExactTurnRow : OpenClaim := { program := "ytafcngfnhhchjaa", sum := "8f487851dca070e96a3120117f585eec402276a3ae9283d85645034ed5a90490", func := "loop.example/g00478/laws.FnExactTurn", spec := "fnExactTurn", apart := false }
def FnExactTurnSaid : Prop := fnExactTurnRow.holds Try.pinned (OpenSpec.ofChange fnExactTurnSpec)

/-- ITS FALSE NEIGHBOUR: 'it returns false'. Refute it at one input. -/
def fnExactTurnWrong : ChangeSpec := { name := "fnExactTurn", fn := fun _ => fun
  | [d] => { results := [.lit (.bool false)], args := [d] }
  | _ => none }
def FnExactTurnWrongFalsely : Prop := fnExactTurnRow.holds Try.pinned (OpenSpec.ofChange fnExactTurnWrong)

/-- 'laws.FnExactHearRekey': WHATEVER THE INPUT: true; the input reads as it did. -/
def fnExactHearRekeySpec : ChangeSpec := { name := "fnExactHearRekey", fn := fun _ => fun
  | [d1, d2, d3] => { results := [.lit (.bool true)], args := [d1, d2, d3] }
  | _ => none }
def fnExactHearRekeyRow : OpenClaim := { program := "ytafcngfnhhchjaa", sum := "8f487851dca070e96a3120117f585eec402276a3ae9283d85645034ed5a90490", func := "loop.example/g00478/laws.FnExactHearRekey", spec := "fnExactHearRekey", apart := false }
def FnExactHearRekeySaid : Prop := fnExactHearRekeyRow.holds Try.pinned (OpenSpec.ofChange fnExactHearRekeySpec)

/-- ITS FALSE NEIGHBOUR: 'it returns false'. Refute it at one input. -/
def fnExactHearRekeyWrong : ChangeSpec := { name := "fnExactHearRekey", fn := fun _ => fun
  | [d1, d2, d3] => { results := [.lit (.bool false)], args := [d1, d2, d3] }
  | _ => none }
def FnExactHearRekeyWrongFalsely : Prop := fnExactHearRekeyRow.holds Try.pinned (OpenSpec.ofChange fnExactHearRekeyWrong)

/-- 'laws.FnProofs': WHATEVER THE INPUT: true; the input reads as it did. -/
def fnProofsSpec : ChangeSpec := { name := "fnProofs", fn := fun _ => fun
  | [d] => { results := [.lit (.bool true)], args := [d] }
  | _ => none }
def fnProofsRow : OpenClaim := { program := "ytafcngfnhhchjaa", sum := "8f487851dca070e96a3120117f585eec402276a3ae9283d85645034ed5a90490", func := "loop.example/g00478/laws.FnProofs", spec := "fnProofs", apart := false }
def FnProofsSaid : Prop := fnProofsRow.holds Try.pinned (OpenSpec.ofChange fnProofsSpec)

/-- ITS FALSE NEIGHBOUR: 'it returns false'. Refute it at one input. -/
def fnProofsWrong : ChangeSpec := { name := "fnProofs", fn := fun _ => fun
  | [d] => { results := [.lit (.bool false)], args := [d] }
  | _ => none }
def FnProofsWrongFalsely : Prop := fnProofsRow.holds Try.pinned (OpenSpec.ofChange fnProofsWrong)

/- THE SECOND FORM. 'bulk': how many values and letters a reading holds, each counted each time it is reached (what is shared counts as often as it is met; a slice's spare places count too). A statement '..UptoSaid' is the law's where the arguments, and the package variables that the reading takes, are together of bulk at most 1048576: NARROWER than '..Said'. Prove '..Said' where nothing that the law and all that it calls make is longer than what came in: it says more and counts as full. Else prove '..UptoSaid'. A law counts once. -/
mutual
def uptoBulk {H : Type} : DataW H → Nat
  | .lit (.string bytes) => bytes.length + 1
  | .lit _ => 1
  | .nil => 1
  | .ptr d => uptoBulk d + 1
  | .slice elems spare => uptoBulkAll elems + uptoBulkAll spare + 1
  | .agg parts => uptoBulkAll parts + 1
  | .iface _ d => uptoBulk d + 1
  | .map entries => uptoBulkEntries entries + 1
  | .held _ => 1
def uptoBulkAll {H : Type} : List (DataW H) → Nat
  | [] => 0
  | d :: r => uptoBulk d + uptoBulkAll r
def uptoBulkEntries {H : Type} : List (Lit × DataW H) → Nat
  | [] => 0
  | x :: r => uptoBulkEntry x + uptoBulkEntries r
def uptoBulkEntry {H : Type} : Lit × DataW H → Nat
  | (.string bytes, d) => bytes.length + uptoBulk d + 1
  | (_, d) => uptoBulk d + 1
 end
def uptoSmall : (H : Type) → List (DataW H) → Bool := fun _ ds => decide (uptoBulkAll ds ≤ 1048576)
def OpenSpec.upto (s : _root_.Go.ChangeSpec) : _root_.Go.OpenSpec := { _root_.Go.OpenSpec.ofChange s with cond := some uptoSmall }

/-- 'laws.FnExactLeads', WHERE WHAT IT READS IS OF BULK AT MOST 1048576: true; the input reads as it did. -/
def fnExactLeadsUptoRow : OpenClaim := { program := "ytafcngfnhhchjaa", sum := "8f487851dca070e96a3120117f585eec402276a3ae9283d85645034ed5a90490", func := "loop.example/g00478/laws.FnExactLeads", spec := "fnExactLeads", apart := false, narrowed := true }
def FnExactLeadsUptoSaid : Prop := fnExactLeadsUptoRow.holds Try.pinned (OpenSpec.upto fnExactLeadsSpec)

/-- 'laws.FnLeads', WHERE WHAT IT READS IS OF BULK AT MOST 1048576: true; the input reads as it did. -/
def fnLeadsUptoRow : OpenClaim := { program := "ytafcngfnhhchjaa", sum := "8f487851dca070e96a3120117f585eec402276a3ae9283d85645034ed5a90490", func := "loop.example/g00478/laws.FnLeads", spec := "fnLeads", apart := false, narrowed := true }
def FnLeadsUptoSaid : Prop := fnLeadsUptoRow.holds Try.pinned (OpenSpec.upto fnLeadsSpec)

/-- 'laws.FnKeysOf', WHERE WHAT IT READS IS OF BULK AT MOST 1048576: true; the input reads as it did. -/
def fnKeysOfUptoRow : OpenClaim := { program := "ytafcngfnhhchjaa", sum := "8f487851dca070e96a3120117f585eec402276a3ae9283d85645034ed5a90490", func := "loop.example/g00478/laws.FnKeysOf", spec := "fnKeysOf", apart := false, narrowed := true }
def FnKeysOfUptoSaid : Prop := fnKeysOfUptoRow.holds Try.pinned (OpenSpec.upto fnKeysOfSpec)

/-- 'laws.FnExactWant', WHERE WHAT IT READS IS OF BULK AT MOST 1048576: true; the input reads as it did. -/
def fnExactWantUptoRow : OpenClaim := { program := "ytafcngfnhhchjaa", sum := "8f487851dca070e96a3120117f585eec402276a3ae9283d85645034ed5a90490", func := "loop.example/g00478/laws.FnExactWant", spec := "fnExactWant", apart := false, narrowed := true }
def FnExactWantUptoSaid : Prop := fnExactWantUptoRow.holds Try.pinned (OpenSpec.upto fnExactWantSpec)

/-- 'laws.FnExactTurn', WHERE WHAT IT READS IS OF BULK AT MOST 1048576: true; the input reads as it did. -/
def fnExactTurnUptoRow : OpenClaim := { program := "ytafcngfnhhchjaa", sum := "8f487851dca070e96a3120117f585eec402276a3ae9283d85645034ed5a90490", func := "loop.example/g00478/laws.FnExactTurn", spec := "fnExactTurn", apart := false, narrowed := true }
def FnExactTurnUptoSaid : Prop := fnExactTurnUptoRow.holds Try.pinned (OpenSpec.upto fnExactTurnSpec)

/-- 'laws.FnExactHearRekey', WHERE WHAT IT READS IS OF BULK AT MOST 1048576: true; the input reads as it did. -/
def fnExactHearRekeyUptoRow : OpenClaim := { program := "ytafcngfnhhchjaa", sum := "8f487851dca070e96a3120117f585eec402276a3ae9283d85645034ed5a90490", func := "loop.example/g00478/laws.FnExactHearRekey", spec := "fnExactHearRekey", apart := false, narrowed := true }
def FnExactHearRekeyUptoSaid : Prop := fnExactHearRekeyUptoRow.holds Try.pinned (OpenSpec.upto fnExactHearRekeySpec)

/-- 'laws.FnProofs', WHERE WHAT IT READS IS OF BULK AT MOST 1048576: true; the input reads as it did. -/
def fnProofsUptoRow : OpenClaim := { program := "ytafcngfnhhchjaa", sum := "8f487851dca070e96a3120117f585eec402276a3ae9283d85645034ed5a90490", func := "loop.example/g00478/laws.FnProofs", spec := "fnProofs", apart := false, narrowed := true }
def FnProofsUptoSaid : Prop := fnProofsUptoRow.holds Try.pinned (OpenSpec.upto fnProofsSpec)

end Rows
end Go.Proofs.Ytafcngfnhhchjaa
