/- Slices of strings. -/
import Derived.Test.YtacoceibbheccaaFun
namespace Go.Proofs.Ytacoceibbheccaa.K
theorem zget {xs : List ByteArray} {j k : Nat} (hj : j = k) (h : k < xs.length) : (xs.map Value.string)[j]? = some (Value.string (xs.getD k ByteArray.empty)) := by
  subst hj
  simp [List.getElem?_eq_getElem h]
end Go.Proofs.Ytacoceibbheccaa.K
