/- The plain side of the law on RekeyBody. -/
import Derived.Test.YtacefhmlgneegaaW3
namespace Go.Proofs.Ytacefhmlgneegaa.K
theorem law_RekeyBody (n : Int) : F_laws_FnExactRekeyBody n = true := by
  have h : F_impl_RekeyBody n = F_spec_RekeyBody n := rfl
  simp only [F_laws_FnExactRekeyBody, h, eqB, heldB_marks, cond_eq_ite, decide_true, if_true]
  grind
end Go.Proofs.Ytacefhmlgneegaa.K
