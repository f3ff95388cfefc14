/- The plain side of FnChansBent. -/
import Derived.Test.YtacoceibbheccaaGreatWb9
namespace Go.Proofs.YtacoceibbheccaaGreat.K
theorem tG (x:List UInt8) (d:PChan×Int×PFrame) (_:True):zb x d=true:=rfl
end Go.Proofs.YtacoceibbheccaaGreat.K
