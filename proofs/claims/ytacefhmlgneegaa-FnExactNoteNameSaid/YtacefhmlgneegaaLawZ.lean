/- The plain side of the law on NoteName. -/
import Derived.Test.YtacefhmlgneegaaWz1
namespace Go.Proofs.Ytacefhmlgneegaa.K
theorem NoteName_eq (n : Int) : F_impl_NoteName n = F_spec_NoteName n := rfl
theorem eqS_self (x : ByteArray) : eqS x x = true := by simp [eqS]
theorem law_NoteName (n : Int) : F_laws_FnExactNoteName n = true := by
  simp [F_laws_FnExactNoteName, NoteName_eq, eqS_self]
end Go.Proofs.Ytacefhmlgneegaa.K
