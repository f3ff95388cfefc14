/- The plain side of a law on channels and keys. -/
import Derived.Test.YtafcngfnhhchjaaWhd1
namespace Go.Proofs.Ytafcngfnhhchjaa.K
set_option linter.unusedSimpArgs false
theorem l1In_within : F_spec_l1In = F_impl_within := rfl
theorem eqB_self (x : List UInt8) : eqB x x = true := by simp [eqB]
theorem eqI_self (x : List Int) : eqI x x = true := by simp [eqI]
theorem eqWin_self (x : PWin) : F_laws_eqWin x x = true := by simp [F_laws_eqWin, eqI_self]
theorem eqEp_self (x : PEp) : F_laws_eqEp x x = true := by simp [F_laws_eqEp, eqB_self, eqWin_self]
theorem eqChan_self (x : PChan) : F_laws_eqChan x x = true := by simp [F_laws_eqChan, eqB_self, eqEp_self]
theorem toChan_eq (x : PChan) : F_laws_toChan x = x := by simp [F_laws_toChan, F_laws_toEp, F_laws_toWin, cpB, cpI]
theorem bit_eq (w : PWin) (n : Int) : F_impl_hasBit w n = F_spec_l8Bit w n := by
  have h : n % 1024 % 32 = n % 32 := by omega
  simp only [F_impl_hasBit, F_spec_l8Bit, h]
theorem WinOk_eq (w : PWin) : iWin w = sWin w := by
  have hb : F_impl_hasBit w = F_spec_l8Bit w := funext (bit_eq w)
  simp only [iWin, sWin, l1In_within, hb, areW]
  cases h1 : F_impl_within w.Top (-1) 281474976710655 <;> cases h2 : allW w.Bits <;> by_cases h3 : (w.Bits.length : Int) = 32 <;> simp [h3]
  have := impl_within_t h1
  cases h4 : F_spec_l8Bit w w.Top <;> by_cases h5 : w.Top = -1 <;> by_cases h6 : 0 ≤ w.Top <;> simp [h5, h6] <;> omega
theorem EpOk_eq (e : PEp) : F_impl_EpOk e = F_spec_EpOk e := by
  simp only [F_impl_EpOk, F_spec_EpOk, l1In_within, WinOk_eq]
theorem len0 {α : Type} (l : List α) : ((l.length : Nat) : Int) = 0 ↔ l = [] := by
  cases l with
  | nil => simp
  | cons a l => simp; omega
theorem none_eq (e : PEp) : F_impl_sameEp e { N := 0, Key := [], Seq := 0, Win := { Top := 0, Bits := [] : PWin } : PEp } = F_spec_l14None e := by
  simp only [F_impl_sameEp, F_spec_l14None, F_bytes_Equal, eqS_mk, eqI, len0]
theorem isRole_eq (n : Int) : F_impl_isRole n = F_spec_l1In n 0 1 := by
  simp only [F_impl_isRole, F_spec_l1In, cond_eq_ite]
  by_cases h0 : n = 0 <;> by_cases h1 : n = 1 <;> by_cases h2 : 0 ≤ n <;> by_cases h3 : n ≤ 1 <;> simp_all <;> omega
theorem heldChan_marks (r u n1 n2 s1 s2 t1 t2 k : Int) (hb : Bool) (a b c d e f : Nat) (hk : 0 ≤ k) :
    F_laws_heldChan { Role := r, Sn := marksB k a, Cur := { N := n1, Key := marksB (k + (a : Int)) b, Seq := s1, Win := { Top := t1, Bits := marksI ((k + (a : Int)) + (b : Int)) c } }, Old := { N := n2, Key := marksB (((k + (a : Int)) + (b : Int)) + (c : Int)) d, Seq := s2, Win := { Top := t2, Bits := marksI ((((k + (a : Int)) + (b : Int)) + (c : Int)) + (d : Int)) e } }, HasOld := hb, Until := u, Next := marksB (((((k + (a : Int)) + (b : Int)) + (c : Int)) + (d : Int)) + (e : Int)) f } k = (((((k + (a : Int)) + (b : Int)) + (c : Int)) + (d : Int)) + (e : Int)) + (f : Int) := by
  have h1 : F_laws_heldEp { N := n1, Key := marksB (k + (a : Int)) b, Seq := s1, Win := { Top := t1, Bits := marksI ((k + (a : Int)) + (b : Int)) c } } (k + (a : Int)) = ((k + (a : Int)) + (b : Int)) + (c : Int) := by
    simp only [F_laws_heldEp, F_laws_heldWin, heldB_marks, heldI_marks, cond_eq_ite, decide_eq_true_eq]
    (repeat' split) <;> omega
  have h2 : F_laws_heldEp { N := n2, Key := marksB (((k + (a : Int)) + (b : Int)) + (c : Int)) d, Seq := s2, Win := { Top := t2, Bits := marksI ((((k + (a : Int)) + (b : Int)) + (c : Int)) + (d : Int)) e } } (((k + (a : Int)) + (b : Int)) + (c : Int)) = ((((k + (a : Int)) + (b : Int)) + (c : Int)) + (d : Int)) + (e : Int) := by
    simp only [F_laws_heldEp, F_laws_heldWin, heldB_marks, heldI_marks, cond_eq_ite, decide_eq_true_eq]
    (repeat' split) <;> omega
  simp only [F_laws_heldChan, heldB_marks, h1, h2, cond_eq_ite, decide_eq_true_eq]
  (repeat' split) <;> omega
theorem ChanOk_eq (c : PChan) : F_impl_ChanOk c = F_spec_ChanOk c := by
  simp only [F_impl_ChanOk, F_spec_ChanOk, F_impl_oldOk, isRole_eq, F_impl_isNonce, EpOk_eq, none_eq, l1In_within, F_impl_within, cond_eq_ite]
  grind
theorem copy_eq (c : PChan) : F_impl_copyChan c = F_spec_l14Copy c := by
  simp [F_impl_copyChan, F_spec_l14Copy, F_spec_l14Ep, F_spec_l9Copy, F_spec_l8Copy, F_impl_copyEp, F_impl_copyWin]
theorem EpNew_eq (n : Int) (k : List UInt8) : F_impl_EpNew n k = F_spec_EpNew n k := by simp only [F_impl_EpNew, F_spec_EpNew, l1In_within, F_impl_WinNew, winNew]
theorem Turn_eq (c : PChan) : F_impl_Turn c = F_spec_Turn c := by simp only [F_impl_Turn, F_spec_Turn, ChanOk_eq, copy_eq, EpNew_eq]
theorem HearRekey_eq (c : PChan) (u : Int) (p : List UInt8) : F_impl_HearRekey c u p = F_spec_HearRekey c u p := by
  simp only [F_impl_HearRekey, F_spec_HearRekey, ChanOk_eq, copy_eq, Turn_eq, l1In_within, show ∀ n, F_impl_RekeyBody n = F_spec_RekeyBody n from fun _ => rfl, show ∀ a b, F_bytes_Equal a b = F_spec_l1Same a b from fun _ _ => rfl]
  by_cases h : u = c.Cur.N
  · subst h
    simp only [decide_true, cond_true, show decide (c.Cur.N = c.Cur.N - 1) = false from decide_eq_false (by omega), cond_false]
  · simp only [decide_eq_false h, cond_false]
theorem law_HearRekey (c : PChan) (u : Int) (p : List UInt8) : F_laws_FnExactHearRekey c u p = true := by
  simp only [F_laws_FnExactHearRekey, HearRekey_eq, toChan_eq, eqChan_self, show cpB p = p from rfl, eqB_self, decide_true, heldChan_marks _ _ _ _ _ _ _ _ 1 _ _ _ _ _ _ _ (by decide), heldB_marks, marksB_len, marksI_len, cond_eq_ite, decide_eq_true_eq]
  (repeat' split) <;> first | rfl | (exfalso; omega) | (exfalso; simp_all; done) | (simp; done) | (exfalso; rename_i hq; have hz := of_decide_eq_true hq; omega)
end Go.Proofs.Ytafcngfnhhchjaa.K
