/- The plain side of FnTimersBent. -/
import Derived.Test.YtacefhmlgneegaaWtb1
namespace Go.Proofs.Ytacefhmlgneegaa.K
theorem l1In_within : F_spec_l1In = F_impl_within := rfl
theorem TimerOk_eq (t : PTimer) : F_impl_TimerOk t = F_spec_TimerOk t := by
  simp only [F_impl_TimerOk, F_spec_TimerOk, l1In_within, cond_eq_ite]
  grind
theorem TimerFires_eq (t : PTimer) (n : Int) : F_impl_TimerFires t n = F_spec_TimerFires t n := by
  simp only [F_impl_TimerFires, F_spec_TimerFires, l1In_within, TimerOk_eq]
theorem TimerNext_eq (t : PTimer) (n : Int) : F_impl_TimerNext t n = F_spec_TimerNext t n := by
  simp only [F_impl_TimerNext, F_spec_TimerNext, TimerFires_eq, cond_eq_ite]
  grind
theorem law_FnTimersBent (x : List UInt8) (d : PTimer × Int) (_ : True) : F_laws_FnTimersBent x d = true := by
  have h : (F_impl_TimerNext d.1 d.2).2 = 0 ↔ F_impl_TimerFires d.1 d.2 = false := by
    simp only [F_impl_TimerNext, cond_eq_ite]; grind
  have h0 : (F_impl_TimerNext d.1 d.2).2 = 0 → (F_impl_TimerNext d.1 d.2).1 = d.1 := by
    simp only [F_impl_TimerNext, cond_eq_ite]; grind
  have h2 : (F_impl_TimerNext d.1 d.2).2 = 2 → (F_impl_TimerNext d.1 d.2).1.On = false := by
    simp only [F_impl_TimerNext, cond_eq_ite]; grind
  simp only [F_laws_FnTimersBent, ← TimerNext_eq, cond_eq_ite]
  generalize F_impl_TimerNext d.1 d.2 = y at h h0 h2
  grind
end Go.Proofs.Ytacefhmlgneegaa.K
