/- A cursor whose place and number are said. It names no program. -/
import Derived.Test.YtacoceibbheccaaCur
namespace Go.Proofs.Ytacoceibbheccaa.K
open Go.RowKit Go.ChangeShapes Go.WideShapes
set_option linter.unusedVariables false
def CurZ (w : World) (g : Nat) (T : TypeId) (a : Option Addr) (c : Nat) (b : List UInt8) (i h : Int) : Prop :=
  Blk w g T [vs a b.length c, vi i, vi h] ∧ Rd w 1 (vs a b.length c) b.length (b.map bV) ∧ b.length ≤ 1073741824 ∧ 0 ≤ i ∧ (0 < b.length → ∀ z, a = some z → z.block ≠ g)
section ops
variable {P : Program} {ops : Array Oper} {Q : Exit → Act → World → Prop} {n : Nat} {e : Env} {w : World} {o : Oper} {rest : List Oper}
theorem wl_arbE (m : Int) (hw : Want n ops o e) {d : Nat} (hd : o.dst = some d) (hdn : Nat.blt d n = true) (hr : (execOp (ev e) o).run P w = .ok (.value (.int .i64 m)) w)
    (hk : ∀ x : Int, x = m → WL P ops Q rest n (upd e d (.int .i64 x)) w) : WL P ops Q (o :: rest) n e w := wl_val hw hd hdn hr (hk m rfl)
end ops
end Go.Proofs.Ytacoceibbheccaa.K
