/- The plain side of FnGrace. -/
import Derived.Test.YtacoceibbheccaaWm7
namespace Go.Proofs.Ytacoceibbheccaa.K
theorem law_FnGrace (x : List UInt8) (d : PChan × PChan) (e : PChan × PChan × PFrame × PFrame × Bool) (_ : PairP x d) (_ : TurnP x e) : grLaw x d e = true := rfl
end Go.Proofs.Ytacoceibbheccaa.K
