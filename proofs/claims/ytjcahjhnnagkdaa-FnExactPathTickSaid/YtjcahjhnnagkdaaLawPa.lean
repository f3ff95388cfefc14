/- The plain side of a law on paths. -/
import Derived.Test.YtjcahjhnnagkdaaWpa1
namespace Go.Proofs.Ytjcahjhnnagkdaa.K
set_option linter.unusedSimpArgs false
set_option linter.unusedVariables false
theorem l1In_within : F_spec_l1In = F_impl_within := rfl
theorem AddrOk_eq (a : PAddr) : F_impl_AddrOk a = F_spec_AddrOk a := rfl
theorem getD_take {α : Type} {z : α} {x : List α} {i j : Nat} (h : j < i) : (x.take i).getD j z = x.getD j z := by
  simp only [List.getD_eq_getElem?_getD, List.getElem?_take_of_lt h]
theorem PathsOk_eq (p : PPaths) : iPa p = sPa p := by
  unfold iPa sPa
  rw [AddrOk_eq]
  cases F_spec_AddrOk p.At <;> simp only [cond_true, cond_false]
  cases decide (3 < (p.Cands.length : Int)) <;> simp only [cond_true, cond_false]
  refine allN_congr fun i hi => ?_
  unfold iPaG sPaG
  have hj : allN (iPaJ p i) i = allN (sPaJ p i) i := allN_congr fun j hj => by unfold iPaJ sPaJ; rw [getD_take hj]
  rw [hj, AddrOk_eq, l1In_within]
  unfold F_impl_isNonce
  cases F_spec_AddrOk (p.Cands.getD i z_PCand).A <;> cases decide (((p.Cands.getD i z_PCand).Draw.length : Int) = 12) <;> cases F_impl_within (p.Cands.getD i z_PCand).Until 0 1000006 <;>
    cases (!(decide ((p.Cands.getD i z_PCand).A.Host = p.At.Host) && decide ((p.Cands.getD i z_PCand).A.Port = p.At.Port))) <;> simp
theorem eqB_self (x : List UInt8) : eqB x x = true := by simp [eqB]
theorem eqAddr_self (x : PAddr) : F_laws_eqAddr x x = true := by simp [F_laws_eqAddr]
theorem eqF_self (x : List PCand) : eqF_PCand x x = true := by simp [eqF_PCand]
theorem eqPaths_self (x : PPaths) : F_laws_eqPaths x x = true := by simp [F_laws_eqPaths, eqAddr_self, eqF_self]
theorem toPaths_eq (x : PPaths) : F_laws_toPaths x = x := rfl
theorem wt_nn (x : PCand) : 0 ≤ wt_PCand x := by simp only [wt_PCand]; omega
theorem hC_mk (x : PCand) (k : Int) (hk : 0 ≤ k) : hC_PCand (mkE_PCand x k) k = k + wt_PCand x := by
  simp only [hC_PCand, mkE_PCand, wt_PCand, heldB_marks, marksB_len, cond_eq_ite, decide_eq_true_eq, if_true]
  rw [if_neg (by omega)]
  omega
theorem held_marks (x : List PCand) : heldL hC_PCand (marksE mkE_PCand wt_PCand x 1) 1 = 1 + totL wt_PCand x := held_marksE hC_mk wt_nn x 1 (by omega)
theorem tot_nn (x : List PCand) : 0 ≤ totL wt_PCand x := by
  induction x with
  | nil => simp [totL]
  | cons a x ih => have := wt_nn a; simp only [totL]; omega
theorem PathTick_eq (p : PPaths) (n : Int) : F_impl_PathTick p n = F_spec_PathTick p n := by
  simp only [F_impl_PathTick, F_spec_PathTick, PathsOk_eq, l1In_within, F_impl_withoutExpired]
theorem law_PathTick (p : PPaths) (n : Int) : F_laws_FnExactPathTick p n = true := by
  have h0 := tot_nn p.Cands
  have h := tot_nn (F_spec_PathTick p n).Cands
  simp only [F_laws_FnExactPathTick, PathTick_eq, toPaths_eq, eqPaths_self, F_laws_heldPaths, held_marks, cond_eq_ite, decide_eq_true_eq]
  (repeat' split) <;> first | rfl | (exfalso; omega) | (exfalso; simp_all; done) | (simp; done) | (exfalso; rename_i hq; have hz := of_decide_eq_true hq; omega)
end Go.Proofs.Ytjcahjhnnagkdaa.K
