import Derived.Test.YtacoceibbheccaaGreatCore
import Derived.Test.YtacoceibbheccaaGreatPlain
namespace Go.Proofs.YtacoceibbheccaaGreat.K
end Go.Proofs.YtacoceibbheccaaGreat.K
