import Derived.Test.YtacoceibbheccaaGreatDraw
namespace Go.Proofs.YtacoceibbheccaaGreat.K
open Go.RowKit Go.ChangeShapes Go.WideShapes
set_option linter.unusedVariables false
section drawW
variable {P : Program} {Q : Exit → Act → World → Prop} {n : Nat} {e : Env} {w : World}
end drawW
end Go.Proofs.YtacoceibbheccaaGreat.K
