/- The plain side of the laws on Made and Took. -/
import Derived.Test.YtacefhmlgneegaaW3
namespace Go.Proofs.Ytacefhmlgneegaa.K
set_option linter.unusedSimpArgs false
theorem eqB_self (x : List UInt8) : eqB x x = true := by simp [eqB]
theorem eqAddr_self (x : PAddr) : F_laws_eqAddr x x = true := by simp [F_laws_eqAddr]
theorem eqNote_self (x : PNote) : F_laws_eqNote x x = true := by simp [F_laws_eqNote, eqAddr_self, eqB_self]
theorem law_Made (k i : List UInt8) : F_laws_FnExactMade k i = true := by
  simp only [F_laws_FnExactMade, cpB]
  have hM : F_impl_Made k i = F_spec_Made k i := by simp [F_impl_Made, F_spec_Made, F_impl_clone]
  simp only [hM, eqNote_self, eqB_self, F_laws_heldNote, F_spec_Made, heldB_marks, marksB_len, heldB, cond_eq_ite]
  grind
theorem law_Took (k s i : List UInt8) : F_laws_FnExactTook k s i = true := by
  simp only [F_laws_FnExactTook, cpB]
  have hM : F_impl_Took k s i = F_spec_Took k s i := by simp [F_impl_Took, F_spec_Took, F_impl_clone]
  simp only [hM, eqNote_self, eqB_self, F_laws_heldNote, F_spec_Took, heldB_marks, marksB_len, heldB, cond_eq_ite]
  grind
end Go.Proofs.Ytacefhmlgneegaa.K
