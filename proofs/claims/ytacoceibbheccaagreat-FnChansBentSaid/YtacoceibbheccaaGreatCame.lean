import Derived.Test.YtacoceibbheccaaGreatShort
namespace Go.Proofs.YtacoceibbheccaaGreat.K
open Go.RowKit Go.ChangeShapes Go.WideShapes
set_option linter.unusedVariables false
section came
variable {P : Program} {w : World} {H : Type} {enc : TypeId × Value → H} {base fuel : Nat} {spare : Nat → Bool} {held : Bool} {T E : TypeId} {cs : List Value} {y : DataW H × List MemPlace}
end came
end Go.Proofs.YtacoceibbheccaaGreat.K
