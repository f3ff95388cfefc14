/- The plain side of the law on ChanNew. -/
import Derived.Test.YtodlalolknldmaaWd2
namespace Go.Proofs.Ytodlalolknldmaa.K
set_option linter.unusedSimpArgs false
theorem l1In_within : F_spec_l1In = F_impl_within := rfl
theorem eqB_self (x : List UInt8) : eqB x x = true := by simp [eqB]
theorem eqI_self (x : List Int) : eqI x x = true := by simp [eqI]
theorem eqWin_self (x : PWin) : F_laws_eqWin x x = true := by simp [F_laws_eqWin, eqI_self]
theorem eqEp_self (x : PEp) : F_laws_eqEp x x = true := by simp [F_laws_eqEp, eqB_self, eqWin_self]
theorem eqChan_self (x : PChan) : F_laws_eqChan x x = true := by simp [F_laws_eqChan, eqB_self, eqEp_self]
theorem isRole_eq (n : Int) : F_impl_isRole n = F_spec_l1In n 0 1 := by
  simp only [F_impl_isRole, F_spec_l1In, cond_eq_ite]
  by_cases h0 : n = 0 <;> by_cases h1 : n = 1 <;> by_cases h2 : 0 ≤ n <;> by_cases h3 : n ≤ 1 <;> simp_all <;> omega
theorem heldChan_marks (r u n1 n2 s1 s2 t1 t2 k : Int) (hb : Bool) (a b c d e f : Nat) (hk : 0 ≤ k) :
    F_laws_heldChan { Role := r, Sn := marksB k a, Cur := { N := n1, Key := marksB (k + (a : Int)) b, Seq := s1, Win := { Top := t1, Bits := marksI ((k + (a : Int)) + (b : Int)) c } }, Old := { N := n2, Key := marksB (((k + (a : Int)) + (b : Int)) + (c : Int)) d, Seq := s2, Win := { Top := t2, Bits := marksI ((((k + (a : Int)) + (b : Int)) + (c : Int)) + (d : Int)) e } }, HasOld := hb, Until := u, Next := marksB (((((k + (a : Int)) + (b : Int)) + (c : Int)) + (d : Int)) + (e : Int)) f } k = (((((k + (a : Int)) + (b : Int)) + (c : Int)) + (d : Int)) + (e : Int)) + (f : Int) := by
  have h1 : F_laws_heldEp { N := n1, Key := marksB (k + (a : Int)) b, Seq := s1, Win := { Top := t1, Bits := marksI ((k + (a : Int)) + (b : Int)) c } } (k + (a : Int)) = ((k + (a : Int)) + (b : Int)) + (c : Int) := by
    simp only [F_laws_heldEp, F_laws_heldWin, heldB_marks, heldI_marks, cond_eq_ite, decide_eq_true_eq]
    (repeat' split) <;> omega
  have h2 : F_laws_heldEp { N := n2, Key := marksB (((k + (a : Int)) + (b : Int)) + (c : Int)) d, Seq := s2, Win := { Top := t2, Bits := marksI ((((k + (a : Int)) + (b : Int)) + (c : Int)) + (d : Int)) e } } (((k + (a : Int)) + (b : Int)) + (c : Int)) = ((((k + (a : Int)) + (b : Int)) + (c : Int)) + (d : Int)) + (e : Int) := by
    simp only [F_laws_heldEp, F_laws_heldWin, heldB_marks, heldI_marks, cond_eq_ite, decide_eq_true_eq]
    (repeat' split) <;> omega
  simp only [F_laws_heldChan, heldB_marks, h1, h2, cond_eq_ite, decide_eq_true_eq]
  (repeat' split) <;> omega
theorem ChanNew_eq (r : Int) (s k : List UInt8) : F_impl_ChanNew r s k = F_spec_ChanNew r s k := by
  have h : F_impl_EpNew = F_spec_EpNew := rfl
  simp only [F_impl_ChanNew, F_spec_ChanNew, h, isRole_eq, F_impl_isNonce, F_impl_clone]
theorem law_ChanNew (r : Int) (s k : List UInt8) : F_laws_FnExactChanNew r s k = true := by
  simp only [F_laws_FnExactChanNew, cpB, ChanNew_eq, eqChan_self, eqB_self, heldChan_marks _ _ _ _ _ _ _ _ 1 _ _ _ _ _ _ _ (by decide), heldB_marks, marksB_len, marksI_len, cond_eq_ite, decide_eq_true_eq]
  (repeat' split) <;> first | rfl | (exfalso; omega) | (exfalso; rename_i hq; have := of_decide_eq_true hq; omega) | (exfalso; simp_all; done)
end Go.Proofs.Ytodlalolknldmaa.K
