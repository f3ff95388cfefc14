/- The plain side of the law on Leads. -/
import Derived.Test.YtafcngfnhhchjaaWha1
namespace Go.Proofs.Ytafcngfnhhchjaa.K
set_option linter.unusedSimpArgs false
theorem eqB_self (x : List UInt8) : eqB x x = true := by simp [eqB]
theorem law_Leads (k t : List UInt8) (m : Int) : F_laws_FnExactLeads k t m = true := by
  simp only [F_laws_FnExactLeads, eqB_self, decide_true, cond_true]
  cases decide (1048576 < (k.length : Int)) <;> cases decide (1048576 < (t.length : Int)) <;> rfl
end Go.Proofs.Ytafcngfnhhchjaa.K
