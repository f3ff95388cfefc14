import Derived.Test.YtacoceibbheccaaGreatFun
namespace Go.Proofs.YtacoceibbheccaaGreat.K
end Go.Proofs.YtacoceibbheccaaGreat.K
