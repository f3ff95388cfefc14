/- The plain side of the law on CandOf. -/
import Derived.Test.YtcbdmamfmcdlaaaWc2
namespace Go.Proofs.Ytcbdmamfmcdlaaa.K
set_option linter.unusedSimpArgs false
set_option linter.unusedVariables false
theorem l1In_within : F_spec_l1In = F_impl_within := rfl
theorem AddrOk_eq (a : PAddr) : F_impl_AddrOk a = F_spec_AddrOk a := rfl
theorem getD_take {α : Type} {z : α} {x : List α} {i j : Nat} (h : j < i) : (x.take i).getD j z = x.getD j z := by
  simp only [List.getD_eq_getElem?_getD, List.getElem?_take_of_lt h]
theorem PathsOk_eq (p : PPaths) : iPa p = sPa p := by
  unfold iPa sPa
  rw [AddrOk_eq]
  cases F_spec_AddrOk p.At <;> simp only [cond_true, cond_false]
  cases decide (3 < (p.Cands.length : Int)) <;> simp only [cond_true, cond_false]
  refine allN_congr fun i hi => ?_
  unfold iPaG sPaG
  have hj : allN (iPaJ p i) i = allN (sPaJ p i) i := allN_congr fun j hj => by unfold iPaJ sPaJ; rw [getD_take hj]
  rw [hj, AddrOk_eq, l1In_within]
  unfold F_impl_isNonce
  cases F_spec_AddrOk (p.Cands.getD i z_PCand).A <;> cases decide (((p.Cands.getD i z_PCand).Draw.length : Int) = 12) <;> cases F_impl_within (p.Cands.getD i z_PCand).Until 0 1000006 <;>
    cases (!(decide ((p.Cands.getD i z_PCand).A.Host = p.At.Host) && decide ((p.Cands.getD i z_PCand).A.Port = p.At.Port))) <;> simp
theorem eqB_self (x : List UInt8) : eqB x x = true := by simp [eqB]
theorem eqAddr_self (x : PAddr) : F_laws_eqAddr x x = true := by simp [F_laws_eqAddr]
theorem eqF_self (x : List PCand) : eqF_PCand x x = true := by simp [eqF_PCand]
theorem eqPaths_self (x : PPaths) : F_laws_eqPaths x x = true := by simp [F_laws_eqPaths, eqAddr_self, eqF_self]
theorem toPaths_eq (x : PPaths) : F_laws_toPaths x = x := rfl
theorem wt_nn (x : PCand) : 0 ≤ wt_PCand x := by simp only [wt_PCand]; omega
theorem tot_nn (x : List PCand) : 0 ≤ totL wt_PCand x := by
  induction x with
  | nil => simp [totL]
  | cons a x ih => have := wt_nn a; simp only [totL]; omega
theorem CandOf_eq (p : PPaths) (a : PAddr) : F_impl_CandOf p a = candS p a := by
  unfold F_impl_CandOf candS
  rw [PathsOk_eq]
  rfl
theorem eqCand_self (x : PCand) : F_laws_eqCand x x = true := by simp [F_laws_eqCand, eqAddr_self, eqB_self]
theorem law_CandOf (p : PPaths) (a : PAddr) : F_laws_FnExactCandOf p a = true := by
  have h0 := tot_nn p.Cands
  have hh : ∀ (x : PAddr) (u : Int) (n : Nat), F_laws_heldCand { A := x, Draw := marksB 1 n, Until := u : PCand } 1 = 1 + (n : Int) := fun x u n => by
    simp only [F_laws_heldCand, heldB_marks, cond_eq_ite, decide_eq_true_eq]
    split <;> omega
  have h1 : decide (1 + totL wt_PCand p.Cands < 0) = false := decide_eq_false (by omega)
  simp only [F_laws_FnExactCandOf, h1, CandOf_eq, toPaths_eq, show F_laws_toAddr a = a from rfl, eqPaths_self, eqCand_self, beq_self_eq_true, hh, cond_eq_ite, decide_eq_true_eq]
  (repeat' split) <;> first | rfl | (exfalso; omega) | (exfalso; rename_i hz; have hy := of_decide_eq_true hz; omega) | (exfalso; simp_all; done) | (simp; done)
end Go.Proofs.Ytcbdmamfmcdlaaa.K
