/- The plain side of FnTimers. -/
import Derived.Test.YtacefhmlgneegaaWta1
namespace Go.Proofs.Ytacefhmlgneegaa.K
theorem tm_of (x : List UInt8) (n : Int) (h : tmLaw [] n = true) : tmLaw x n = true := by
  unfold tmLaw at h ⊢
  cases F_laws_big x
  · exact h
  · rfl
theorem law_FnTimers (x : List UInt8) (n : Int) (h : n = 0 ∨ n = 1 ∨ n = 70 ∨ n = 1000000 ∨ n = 1000001 ∨ n = -1) : tmLaw x n = true := by
  rcases h with rfl | rfl | rfl | rfl | rfl | rfl <;> exact tm_of x _ (by decide)
end Go.Proofs.Ytacefhmlgneegaa.K
