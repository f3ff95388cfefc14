/-
  No cell of these rows narrows 'for every input' (looked for: loops, veiled, ifaces, maps, wideKeys, modest, calm, conditions, laid).
  DERIVED. THE GIVEN ROWS OF THIS SEAT. 3 by the template 'for every input the law returns true; each argument reads behind the call as it read before'; 0 by the template 'total and deterministic' (their statements: YtacoceibbheccaaGreatTotals.lean).
  GIVEN WITH THE SEED: the statements are not yours to turn. If you find one false, say at which input.
  Laid BY PROGRAM, IN A SANDBOX (cutbox-rows.mjs): the forced cells as the released guide's own fill.sh prints them over the translation 192d655c24ce6bf9… (all of the seat's roots in one cut). By AI agents, Wed Nov 11 2026. No macro, syntax, notation, axiom, sorry.
-/
import Derived.Test.YtacoceibbheccaaGreatChecked
import GoSem.Claim
import GoSem.ClaimJoined
import GoSem.ClaimMapViews
import Derived.JoinedTies
import Derived.KernelRfl
namespace Go.Proofs.YtacoceibbheccaaGreat
/- THE CELL 'sum', in the pinned program and in every row, IS THE sha256 OF THE DUMP (.gsa) THAT YtacoceibbheccaaGreatProg.lean LOADS. Nothing in Lean hashes anything: it is a label: what it is worth is what the hold of that sum in a sandbox is worth. -/
noncomputable def Tryz.pinned : Pinned := { name := "ytacoceibbheccaagreat", sum := "192d655c24ce6bf9bbd1f8d209c8b8c30645b688495a4f6cc866255bc8f96fe4", checked := Tryz.checked }
namespace Rows
def none {H : Type} : Left H := { results := [], args := [] }

/-- 'laws.FnExactChanOpen': WHATEVER THE INPUT: true; the input reads as it did. -/
def fnExactChanOpenSpec : ChangeSpec := { name := "fnExactChanOpen", fn := fun _ => fun
  | [d1, d2, d3] => { results := [.lit (.bool true)], args := [d1, d2, d3] }
  | _ => none }
def fnExactChanOpenRow : OpenClaim := { program := "ytacoceibbheccaagreat", sum := "192d655c24ce6bf9bbd1f8d209c8b8c30645b688495a4f6cc866255bc8f96fe4", func := "loop.example/g00478/laws.FnExactChanOpen", spec := "fnExactChanOpen", apart := false }
def FnExactChanOpenSaid : Prop := fnExactChanOpenRow.holds Tryz.pinned (OpenSpec.ofChange fnExactChanOpenSpec)

/-- ITS FALSE NEIGHBOUR: 'it returns false'. Refute it at one input. -/
def fnExactChanOpenWrong : ChangeSpec := { name := "fnExactChanOpen", fn := fun _ => fun
  | [d1, d2, d3] => { results := [.lit (.bool false)], args := [d1, d2, d3] }
  | _ => none }
def FnExactChanOpenWrongFalsely : Prop := fnExactChanOpenRow.holds Tryz.pinned (OpenSpec.ofChange fnExactChanOpenWrong)

/-- 'laws.FnEnds': WHATEVER THE INPUT: true; the input reads as it did. -/
def fnEndsSpec : ChangeSpec := { name := "fnEnds", fn := fun _ => fun
  | [d] => { results := [.lit (.bool true)], args := [d] }
  | _ => none }
def fnEndsRow : OpenClaim := { program := "ytacoceibbheccaagreat", sum := "192d655c24ce6bf9bbd1f8d209c8b8c30645b688495a4f6cc866255bc8f96fe4", func := "loop.example/g00478/laws.FnEnds", spec := "fnEnds", apart := false }
def FnEndsSaid : Prop := fnEndsRow.holds Tryz.pinned (OpenSpec.ofChange fnEndsSpec)

/-- ITS FALSE NEIGHBOUR: 'it returns false'. Refute it at one input. -/
def fnEndsWrong : ChangeSpec := { name := "fnEnds", fn := fun _ => fun
  | [d] => { results := [.lit (.bool false)], args := [d] }
  | _ => none }
def FnEndsWrongFalsely : Prop := fnEndsRow.holds Tryz.pinned (OpenSpec.ofChange fnEndsWrong)

/-- 'laws.FnChansBent': WHATEVER THE INPUT: true; the input reads as it did. -/
def fnChansBentSpec : ChangeSpec := { name := "fnChansBent", fn := fun _ => fun
  | [d] => { results := [.lit (.bool true)], args := [d] }
  | _ => none }
def fnChansBentRow : OpenClaim := { program := "ytacoceibbheccaagreat", sum := "192d655c24ce6bf9bbd1f8d209c8b8c30645b688495a4f6cc866255bc8f96fe4", func := "loop.example/g00478/laws.FnChansBent", spec := "fnChansBent", apart := false }
def FnChansBentSaid : Prop := fnChansBentRow.holds Tryz.pinned (OpenSpec.ofChange fnChansBentSpec)

/-- ITS FALSE NEIGHBOUR: 'it returns false'. Refute it at one input. -/
def fnChansBentWrong : ChangeSpec := { name := "fnChansBent", fn := fun _ => fun
  | [d] => { results := [.lit (.bool false)], args := [d] }
  | _ => none }
def FnChansBentWrongFalsely : Prop := fnChansBentRow.holds Tryz.pinned (OpenSpec.ofChange fnChansBentWrong)

/- THE SECOND FORM. 'bulk': how many values and letters a reading holds, each counted each time it is reached (what is shared counts as often as it is met; a slice's spare places count too). A statement '..UptoSaid' is the law's where the arguments, and the package variables that the reading takes, are together of bulk at most 1048576: NARROWER than '..Said'. Prove '..Said' where nothing that the law and all that it calls make is longer than what came in: it says more and counts as full. Else prove '..UptoSaid'. A law counts once. -/
mutual
def uptoBulk {H : Type} : DataW H → Nat
  | .lit (.string bytes) => bytes.length + 1
  | .lit _ => 1
  | .nil => 1
  | .ptr d => uptoBulk d + 1
  | .slice elems spare => uptoBulkAll elems + uptoBulkAll spare + 1
  | .agg parts => uptoBulkAll parts + 1
  | .iface _ d => uptoBulk d + 1
  | .map entries => uptoBulkEntries entries + 1
  | .held _ => 1
def uptoBulkAll {H : Type} : List (DataW H) → Nat
  | [] => 0
  | d :: r => uptoBulk d + uptoBulkAll r
def uptoBulkEntries {H : Type} : List (Lit × DataW H) → Nat
  | [] => 0
  | x :: r => uptoBulkEntry x + uptoBulkEntries r
def uptoBulkEntry {H : Type} : Lit × DataW H → Nat
  | (.string bytes, d) => bytes.length + uptoBulk d + 1
  | (_, d) => uptoBulk d + 1
 end
def uptoSmall : (H : Type) → List (DataW H) → Bool := fun _ ds => decide (uptoBulkAll ds ≤ 1048576)
def OpenSpec.upto (s : _root_.Go.ChangeSpec) : _root_.Go.OpenSpec := { _root_.Go.OpenSpec.ofChange s with cond := some uptoSmall }

/-- 'laws.FnExactChanOpen', WHERE WHAT IT READS IS OF BULK AT MOST 1048576: true; the input reads as it did. -/
def fnExactChanOpenUptoRow : OpenClaim := { program := "ytacoceibbheccaagreat", sum := "192d655c24ce6bf9bbd1f8d209c8b8c30645b688495a4f6cc866255bc8f96fe4", func := "loop.example/g00478/laws.FnExactChanOpen", spec := "fnExactChanOpen", apart := false, narrowed := true }
def FnExactChanOpenUptoSaid : Prop := fnExactChanOpenUptoRow.holds Tryz.pinned (OpenSpec.upto fnExactChanOpenSpec)

/-- 'laws.FnEnds', WHERE WHAT IT READS IS OF BULK AT MOST 1048576: true; the input reads as it did. -/
def fnEndsUptoRow : OpenClaim := { program := "ytacoceibbheccaagreat", sum := "192d655c24ce6bf9bbd1f8d209c8b8c30645b688495a4f6cc866255bc8f96fe4", func := "loop.example/g00478/laws.FnEnds", spec := "fnEnds", apart := false, narrowed := true }
def FnEndsUptoSaid : Prop := fnEndsUptoRow.holds Tryz.pinned (OpenSpec.upto fnEndsSpec)

/-- 'laws.FnChansBent', WHERE WHAT IT READS IS OF BULK AT MOST 1048576: true; the input reads as it did. -/
def fnChansBentUptoRow : OpenClaim := { program := "ytacoceibbheccaagreat", sum := "192d655c24ce6bf9bbd1f8d209c8b8c30645b688495a4f6cc866255bc8f96fe4", func := "loop.example/g00478/laws.FnChansBent", spec := "fnChansBent", apart := false, narrowed := true }
def FnChansBentUptoSaid : Prop := fnChansBentUptoRow.holds Tryz.pinned (OpenSpec.upto fnChansBentSpec)

end Rows
end Go.Proofs.YtacoceibbheccaaGreat
