/- The plain side of the laws on timers: what the program computes and what the reference computes are the same. -/
import Derived.Test.YtacefhmlgneegaaW1
namespace Go.Proofs.Ytacefhmlgneegaa.K
theorem l1In_within : F_spec_l1In = F_impl_within := rfl
theorem law_SpanOf (n : Int) : F_laws_FnExactSpanOf n = true := by
  simp [F_laws_FnExactSpanOf, F_impl_SpanOf, F_spec_SpanOf, l1In_within]
theorem eqTimer_iff (a b : PTimer) : F_laws_eqTimer a b = decide (a = b) := by
  obtain ⟨a1, a2, a3, a4⟩ := a
  obtain ⟨b1, b2, b3, b4⟩ := b
  simp only [F_laws_eqTimer, cond_eq_ite, PTimer.mk.injEq]
  grind
theorem TimerOk_eq (t : PTimer) : F_impl_TimerOk t = F_spec_TimerOk t := by
  simp only [F_impl_TimerOk, F_spec_TimerOk, l1In_within, cond_eq_ite]
  grind
theorem TimerFires_eq (t : PTimer) (n : Int) : F_impl_TimerFires t n = F_spec_TimerFires t n := by
  simp only [F_impl_TimerFires, F_spec_TimerFires, l1In_within, TimerOk_eq]
theorem TimerNext_eq (t : PTimer) (n : Int) : F_impl_TimerNext t n = F_spec_TimerNext t n := by
  simp only [F_impl_TimerNext, F_spec_TimerNext, TimerFires_eq, cond_eq_ite]
  grind
theorem law_TimerOk (t : PTimer) : F_laws_FnExactTimerOk t = true := by
  simp [F_laws_FnExactTimerOk, TimerOk_eq]
theorem law_TimerSet (n : Int) : F_laws_FnExactTimerSet n = true := by
  simp [F_laws_FnExactTimerSet, eqTimer_iff, F_impl_TimerSet, F_spec_TimerSet, l1In_within]
theorem law_TimerFires (t : PTimer) (n : Int) : F_laws_FnExactTimerFires t n = true := by
  simp [F_laws_FnExactTimerFires, TimerFires_eq]
theorem law_TimerNext (t : PTimer) (n : Int) : F_laws_FnExactTimerNext t n = true := by
  simp [F_laws_FnExactTimerNext, eqTimer_iff, TimerNext_eq]
end Go.Proofs.Ytacefhmlgneegaa.K
