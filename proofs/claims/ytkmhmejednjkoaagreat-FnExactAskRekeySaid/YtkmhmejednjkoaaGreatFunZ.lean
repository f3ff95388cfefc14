import Derived.Test.YtkmhmejednjkoaaGreatFun
namespace Go.Proofs.YtkmhmejednjkoaaGreat.K
end Go.Proofs.YtkmhmejednjkoaaGreat.K
