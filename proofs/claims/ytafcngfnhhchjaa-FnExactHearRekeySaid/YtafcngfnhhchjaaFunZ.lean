import Derived.Test.YtafcngfnhhchjaaFun
namespace Go.Proofs.Ytafcngfnhhchjaa.K
end Go.Proofs.Ytafcngfnhhchjaa.K
