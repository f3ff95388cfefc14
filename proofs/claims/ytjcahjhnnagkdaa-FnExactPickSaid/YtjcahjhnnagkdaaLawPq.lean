/- The plain side of the law on Pick. -/
import Derived.Test.YtjcahjhnnagkdaaWq2
namespace Go.Proofs.Ytjcahjhnnagkdaa.K
set_option linter.unusedSimpArgs false
set_option linter.unusedVariables false
theorem Pick_eq (l : List PNote) (k : Int) : F_impl_Pick l k = F_spec_Pick l k := rfl
theorem eqF_self (x : List PNote) : eqF_PNote x x = true := by simp [eqF_PNote]
theorem wt_nn (x : PNote) : 0 ≤ wt_PNote x := by simp only [wt_PNote]; omega
theorem hC_mk (x : PNote) (k : Int) (hk : 0 ≤ k) : hC_PNote (mkE_PNote x k) k = k + wt_PNote x := by
  simp only [hC_PNote, mkE_PNote, wt_PNote, heldB_marks, marksB_len, cond_eq_ite, decide_eq_true_eq, if_true]
  rw [if_neg (by omega), if_neg (by omega), if_neg (by omega), if_neg (by omega)]
  omega
theorem held_marks (x : List PNote) : heldL hC_PNote (marksE mkE_PNote wt_PNote x 1) 1 = 1 + totL wt_PNote x := held_marksE hC_mk wt_nn x 1 (by omega)
theorem tot_nn (x : List PNote) : 0 ≤ totL wt_PNote x := by
  induction x with
  | nil => simp [totL]
  | cons a x ih => have := wt_nn a; simp only [totL]; omega
theorem law_Pick (l : List PNote) (k : Int) : F_laws_FnExactPick l k = true := by
  have h0 := tot_nn l
  have h := tot_nn (F_spec_Pick l k)
  simp only [F_laws_FnExactPick, Pick_eq, show cpL l = l from rfl, eqF_self, held_marks, cond_eq_ite, decide_eq_true_eq]
  (repeat' split) <;> first | rfl | (exfalso; omega) | (exfalso; simp_all; done) | (simp; done) | (exfalso; rename_i hq; have hz := of_decide_eq_true hq; omega)
end Go.Proofs.Ytjcahjhnnagkdaa.K
