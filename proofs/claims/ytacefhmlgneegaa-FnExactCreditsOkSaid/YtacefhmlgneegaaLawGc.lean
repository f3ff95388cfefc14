/- The plain side of the laws on credits: CreditsOk. -/
import Derived.Test.YtacefhmlgneegaaWg1
namespace Go.Proofs.Ytacefhmlgneegaa.K
set_option linter.unusedSimpArgs false
set_option linter.unusedVariables false
theorem l1In_within : F_spec_l1In = F_impl_within := rfl
theorem CreditsOk_eq (x : List PCredit) : iCr x = sCr x := by
  unfold iCr sCr
  cases h : decide (8 < (x.length : Int)) <;> simp only [cond_true, cond_false]
  refine allN_congr fun j hj => ?_
  unfold goodI goodS
  have hf := findF_first (p := fun c : PCredit => decide (c.A.Host = (x.getD j z_PCredit).A.Host) && decide (c.A.Port = (x.getD j z_PCredit).A.Port)) (z := z_PCredit) hj (by simp)
  rw [show (!decide (creditAt x (x.getD j z_PCredit).A < ((j : Nat) : Int))) = allN (sameJ x j) j from hf]
  rfl
theorem eqF_self (x : List PCredit) : eqF_PCredit x x = true := by simp [eqF_PCredit]
theorem law_CreditsOk (x : List PCredit) : F_laws_FnExactCreditsOk x = true := by
  simp [F_laws_FnExactCreditsOk, CreditsOk_eq, eqF_self]
end Go.Proofs.Ytacefhmlgneegaa.K
