import Derived.Test.YtpcpjeaighehhaaGreatFun
namespace Go.Proofs.YtpcpjeaighehhaaGreat.K
end Go.Proofs.YtpcpjeaighehhaaGreat.K
