/- The plain side of FnEnds. -/
import Derived.Test.YtacoceibbheccaaGreatWe7
namespace Go.Proofs.YtacoceibbheccaaGreat.K
theorem Pv (x:List UInt8) (d:PChan×PChan) (_:SB x d):RZ x d=true:=rfl
end Go.Proofs.YtacoceibbheccaaGreat.K
