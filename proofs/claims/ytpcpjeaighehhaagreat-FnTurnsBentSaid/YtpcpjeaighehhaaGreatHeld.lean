import Derived.Test.YtpcpjeaighehhaaGreatCore
import Derived.Test.YtpcpjeaighehhaaGreatPlain
namespace Go.Proofs.YtpcpjeaighehhaaGreat.K
end Go.Proofs.YtpcpjeaighehhaaGreat.K
