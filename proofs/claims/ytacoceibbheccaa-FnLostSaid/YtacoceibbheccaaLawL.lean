/- The plain side of FnLost. -/
import Derived.Test.YtacoceibbheccaaWla1
namespace Go.Proofs.Ytacoceibbheccaa.K
theorem law_FnLost (x : List UInt8) (d : PChan × PChan × PFrame × PFrame × Bool) (_ : TurnP x d) : lostLaw x d = true := rfl
end Go.Proofs.Ytacoceibbheccaa.K
