/- The plain side of FnTurns. -/
import Derived.Test.YtacoceibbheccaaWlb1
namespace Go.Proofs.Ytacoceibbheccaa.K
theorem law_FnTurns (x : List UInt8) (d : PChan × PChan) (_ : PairP x d) : tuLaw x d = true := rfl
end Go.Proofs.Ytacoceibbheccaa.K
