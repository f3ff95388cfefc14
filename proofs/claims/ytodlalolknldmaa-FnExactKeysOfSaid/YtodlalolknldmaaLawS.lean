/- The plain side of the law on KeysOf. -/
import Derived.Test.YtodlalolknldmaaWs2
namespace Go.Proofs.Ytodlalolknldmaa.K
set_option linter.unusedSimpArgs false
set_option linter.unusedVariables false
theorem l1In_within : F_spec_l1In = F_impl_within := rfl
theorem eqB_self (x : List UInt8) : eqB x x = true := by simp [eqB]
theorem eqI_self (x : List Int) : eqI x x = true := by simp [eqI]
theorem eqWin_self (x : PWin) : F_laws_eqWin x x = true := by simp [F_laws_eqWin, eqI_self]
theorem eqEp_self (x : PEp) : F_laws_eqEp x x = true := by simp [F_laws_eqEp, eqB_self, eqWin_self]
theorem eqChan_self (x : PChan) : F_laws_eqChan x x = true := by simp [F_laws_eqChan, eqB_self, eqEp_self]
theorem bit_eq (w : PWin) (n : Int) : F_impl_hasBit w n = F_spec_l8Bit w n := by
  have h : n % 1024 % 32 = n % 32 := by omega
  simp only [F_impl_hasBit, F_spec_l8Bit, h]
theorem WinOk_eq (w : PWin) : iWin w = sWin w := by
  have hb : F_impl_hasBit w = F_spec_l8Bit w := funext (bit_eq w)
  simp only [iWin, sWin, l1In_within, hb, areW]
  cases h1 : F_impl_within w.Top (-1) 281474976710655 <;> cases h2 : allW w.Bits <;> by_cases h3 : (w.Bits.length : Int) = 32 <;> simp [h3]
  have := impl_within_t h1
  cases h4 : F_spec_l8Bit w w.Top <;> by_cases h5 : w.Top = -1 <;> by_cases h6 : 0 ≤ w.Top <;> simp [h5, h6] <;> omega
theorem EpOk_eq (e : PEp) : F_impl_EpOk e = F_spec_EpOk e := by
  simp only [F_impl_EpOk, F_spec_EpOk, l1In_within, WinOk_eq]
theorem len0 {α : Type} (l : List α) : ((l.length : Nat) : Int) = 0 ↔ l = [] := by
  cases l with
  | nil => simp
  | cons a l => simp; omega
theorem none_eq (e : PEp) : F_impl_sameEp e { N := 0, Key := [], Seq := 0, Win := { Top := 0, Bits := [] : PWin } : PEp } = F_spec_l14None e := by
  simp only [F_impl_sameEp, F_spec_l14None, F_bytes_Equal, eqS_mk, eqI, len0]
theorem isRole_eq (n : Int) : F_impl_isRole n = F_spec_l1In n 0 1 := by
  simp only [F_impl_isRole, F_spec_l1In, cond_eq_ite]
  by_cases h0 : n = 0 <;> by_cases h1 : n = 1 <;> by_cases h2 : 0 ≤ n <;> by_cases h3 : n ≤ 1 <;> simp_all <;> omega
theorem ChanOk_eq (c : PChan) : F_impl_ChanOk c = F_spec_ChanOk c := by
  simp only [F_impl_ChanOk, F_spec_ChanOk, F_impl_oldOk, isRole_eq, F_impl_isNonce, EpOk_eq, none_eq, l1In_within, F_impl_within, cond_eq_ite]
  grind
theorem toChan_eq (x : PChan) : F_laws_toChan x = x := rfl
theorem KeysOf_eq (c : PChan) : F_impl_KeysOf c = F_spec_KeysOf c := by
  simp only [F_impl_KeysOf, F_spec_KeysOf, ChanOk_eq, F_impl_clone]
theorem eqF_self (x : List (List UInt8)) : eqF_B x x = true := by simp [eqF_B]
theorem wt_nn (x : List UInt8) : 0 ≤ wt_B x := by simp only [wt_B]; omega
theorem hC_mk (x : List UInt8) (k : Int) (hk : 0 ≤ k) : hC_B (mkE_B x k) k = k + wt_B x := by
  simp only [hC_B, mkE_B, wt_B, heldB_marks, cond_eq_ite, decide_eq_true_eq]
  (repeat' split) <;> omega
theorem held_marks (x : List (List UInt8)) : heldL hC_B (marksE mkE_B wt_B x 1) 1 = 1 + totL wt_B x := held_marksE hC_mk wt_nn x 1 (by omega)
theorem tot_nn (x : List (List UInt8)) : 0 ≤ totL wt_B x := by
  induction x with
  | nil => simp [totL]
  | cons a x ih => have := wt_nn a; simp only [totL]; omega
theorem law_KeysOf (c : PChan) : F_laws_FnExactKeysOf c = true := by
  have h := tot_nn (F_spec_KeysOf c)
  simp only [F_laws_FnExactKeysOf, KeysOf_eq, toChan_eq, eqChan_self, eqF_self, held_marks, cond_eq_ite, decide_eq_true_eq]
  (repeat' split) <;> first | rfl | (exfalso; omega) | (exfalso; rename_i hq; have := of_decide_eq_true hq; omega) | (exfalso; simp_all; done)
end Go.Proofs.Ytodlalolknldmaa.K
