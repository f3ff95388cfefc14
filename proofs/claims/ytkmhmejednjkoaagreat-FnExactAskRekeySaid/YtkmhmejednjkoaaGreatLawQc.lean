/- The plain side of the law on AskRekey. -/
import Derived.Test.YtkmhmejednjkoaaGreatWkc1
namespace Go.Proofs.YtkmhmejednjkoaaGreat.K
set_option linter.unusedSimpArgs false
set_option linter.unusedVariables false
set_option maxRecDepth 10000
theorem l1In_within : s_l1In = i_within := rfl
theorem eqB_self (x : List UInt8) : eqB x x = true := by simp [eqB]
theorem eqI_self (x : List Int) : eqI x x = true := by simp [eqI]
theorem eqWin_self (x : PWin) : l_eqWin x x = true := by simp [l_eqWin, eqI_self]
theorem eqEp_self (x : PEp) : l_eqEp x x = true := by simp [l_eqEp, eqB_self, eqWin_self]
theorem eqChan_self (x : PChan) : l_eqChan x x = true := by simp [l_eqChan, eqB_self, eqEp_self]
theorem toChan_eq (x : PChan) : l_toChan x = x := by simp [l_toChan, l_toEp, l_toWin, cpB, cpI]
theorem bit_eq (w : PWin) (n : Int) : i_hasBit w n = s_l8Bit w n := by
  have h : n % 1024 % 32 = n % 32 := by omega
  simp only [i_hasBit, s_l8Bit, h]
theorem WinOk_eq (w : PWin) : iWin w = sWin w := by
  have hb : i_hasBit w = s_l8Bit w := funext (bit_eq w)
  simp only [iWin, sWin, l1In_within, hb, areW]
  cases h1 : i_within w.Top (-1) 281474976710655 <;> cases h2 : allW w.Bits <;> by_cases h3 : (w.Bits.length : Int) = 32 <;> simp [h3]
  have := impl_within_t h1
  cases h4 : s_l8Bit w w.Top <;> by_cases h5 : w.Top = -1 <;> by_cases h6 : 0 ≤ w.Top <;> simp [h5, h6] <;> omega
theorem EpOk_eq (e : PEp) : i_EpOk e = s_EpOk e := by
  simp only [i_EpOk, s_EpOk, l1In_within, WinOk_eq]
theorem len0 {α : Type} (l : List α) : ((l.length : Nat) : Int) = 0 ↔ l = [] := by
  cases l with
  | nil => simp
  | cons a l => simp; omega
theorem none_eq (e : PEp) : i_sameEp e { N := 0, Key := [], Seq := 0, Win := { Top := 0, Bits := [] : PWin } : PEp } = s_l14None e := by
  simp only [i_sameEp, s_l14None, b_Equal, eqS_mk, eqI, len0]
theorem isRole_eq (n : Int) : i_isRole n = s_l1In n 0 1 := by
  simp only [i_isRole, s_l1In, cond_eq_ite]
  by_cases h0 : n = 0 <;> by_cases h1 : n = 1 <;> by_cases h2 : 0 ≤ n <;> by_cases h3 : n ≤ 1 <;> simp_all <;> omega
theorem ChanOk_eq (c : PChan) : i_ChanOk c = s_ChanOk c := by
  simp only [i_ChanOk, s_ChanOk, i_oldOk, isRole_eq, i_isNonce, EpOk_eq, none_eq, l1In_within, i_within, cond_eq_ite]
  grind
theorem copy_eq (c : PChan) : i_copyChan c = s_l14Copy c := by
  simp [i_copyChan, s_l14Copy, s_l14Ep, s_l9Copy, s_l8Copy, i_copyEp, i_copyWin]
theorem Sealed_eq (k : Int) : s_Sealed k = i_Sealed k := rfl
theorem bodyOk_eq (k n : Int) : i_bodyOk k n = s_l7Body k n := rfl
theorem same_eq (f g : PFrame) : i_sameFrame f g = decide (f = g) := by
  obtain ⟨a1, a2, a3, a4, a5, a6, a7, a8, a9, a10, a11⟩ := f
  obtain ⟨b1, b2, b3, b4, b5, b6, b7, b8, b9, b10, b11⟩ := g
  rw [Bool.eq_iff_iff]
  simp only [i_sameFrame, Bool.cond_false_right, Bool.and_eq_true, b_Equal, eqS_mk, decide_eq_true_eq, PFrame.mk.injEq]
  grind
theorem eqFrame_self (x : PFrame) : l_eqFrame x x = true := by simp [l_eqFrame, eqB_self]
theorem FrameOk_eq (f : PFrame) : i_FrameOk f = s_FrameOk f := by
  rw [Bool.eq_iff_iff]
  obtain ⟨a1, a2, a3, a4, a5, a6, a7, a8, a9, a10, a11⟩ := f
  simp only [i_FrameOk, s_FrameOk, Bool.cond_false_right, same_eq, Sealed_eq, i_Sealed, i_isNonce, l1In_within, bodyOk_eq, PFrame.mk.injEq]
  simp only [i_within, cond_eq_ite, Bool.and_eq_true, decide_eq_true_eq, len0]
  grind
theorem TagInput_eq (r : Int) (f : PFrame) : i_TagInput r f = s_TagInput r f := by
  simp only [i_TagInput, s_TagInput, isRole_eq, ← Sealed_eq, FrameOk_eq]
  cases s_l1In r 0 1 <;> cases s_Sealed f.Kind <;> cases s_FrameOk f <;> simp [joinB]
theorem head_zero (r : Int) (sn : List UInt8) (e s : Int) : decide (((headOf r sn e s).length : Int) = 0) = !(s_l1In r 0 1 && (decide ((sn.length : Int) = 12) && (s_l1In e 0 4294967295 && s_l1In s 0 281474976710655))) := by
  have hb : ∀ x a b : Int, s_l1In x a b = decide (a ≤ x ∧ x ≤ b) := fun x a b => by
    rw [Bool.eq_iff_iff]
    simp only [s_l1In, Bool.cond_false_right, Bool.and_eq_true, decide_eq_true_eq]
  by_cases h : (r = 0 ∨ r = 1) ∧ (sn.length : Int) = 12 ∧ (0 ≤ e ∧ e ≤ 4294967295) ∧ (0 ≤ s ∧ s ≤ 281474976710655)
  · rw [headOf_t h.1 h.2.1 h.2.2.1 h.2.2.2 rfl, hb, hb, hb, decide_eq_true h.2.1, decide_eq_true (show 0 ≤ r ∧ r ≤ 1 by omega), decide_eq_true h.2.2.1, decide_eq_true h.2.2.2]
    exact decide_eq_false (by simp only [List.length_cons]; omega)
  · have h0 : headOf r sn e s = [] := headOf_f (by omega)
    rw [h0, hb, hb, hb]
    have : (decide (0 ≤ r ∧ r ≤ 1) && (decide ((sn.length : Int) = 12) && (decide (0 ≤ e ∧ e ≤ 4294967295) && decide (0 ≤ s ∧ s ≤ 281474976710655)))) = false := by
      simp only [Bool.and_eq_false_iff, decide_eq_false_iff_not]; omega
    rw [this]; rfl
theorem new_ok (k e s : Int) (sn b t : List UInt8) (ht : (t.length : Int) = 16) (hk : s_Sealed k = true) : s_FrameOk { Kind := k, Id := 0, Cn := [], Sn := sn, Tick := 0, Cookie := [], Proof := [], Epoch := e, Seq := s, Body := b, Tag := t : PFrame } = (decide ((sn.length : Int) = 12) && (s_l1In e 0 4294967295 && (s_l1In s 0 281474976710655 && s_l7Body k (b.length : Int)))) := by
  simp [s_FrameOk, hk, ht]
theorem Seal_eq (key : List UInt8) (r : Int) (sn : List UInt8) (e s k : Int) (p : List UInt8) : i_Seal key r sn e s k p = s_Seal key r sn e s k p := by
  simp only [i_Seal, s_Seal, isRole_eq, ← Sealed_eq, FrameOk_eq, TagInput_eq, head_zero]
  cases hk : s_Sealed k
  · cases decide ((key.length : Int) = 32) <;> cases s_l1In r 0 1 <;> cases decide ((sn.length : Int) = 12) <;> cases s_l1In e 0 4294967295 <;> cases s_l1In s 0 281474976710655 <;> rfl
  · rw [new_ok k e s sn p _ (by simp) hk]
    cases decide ((key.length : Int) = 32) <;> cases s_l1In r 0 1 <;> cases decide ((sn.length : Int) = 12) <;> cases s_l1In e 0 4294967295 <;> cases s_l1In s 0 281474976710655 <;> cases s_l7Body k (p.length : Int) <;> rfl
theorem Seal_ok (key : List UInt8) (r : Int) (sn : List UInt8) (e s k : Int) (p : List UInt8) : (s_Seal key r sn e s k p).2 = (decide ((key.length : Int) = 32) && (!decide (((headOf r sn e s).length : Int) = 0) && (s_Sealed k && s_l7Body k (p.length : Int)))) := by
  simp only [s_Seal]
  cases decide ((key.length : Int) = 32) <;> cases decide (((headOf r sn e s).length : Int) = 0) <;> cases s_Sealed k <;> cases s_l7Body k (p.length : Int) <;> rfl
theorem EpSeal_eq (e : PEp) (r : Int) (sn : List UInt8) (k : Int) (p : List UInt8) : i_EpSeal e r sn k p = s_EpSeal e r sn k p := by
  have hj : i_EpSeal_j1 e r sn k p = s_EpSeal_j2 e r sn k p := by simp only [i_EpSeal_j1, s_EpSeal_j2, Seal_eq]
  simp only [i_EpSeal, s_EpSeal, EpOk_eq, Seal_eq, Seal_ok, hj]
  cases h : s_EpOk e
  · rfl
  · have h2 := (spec_EpOk_t h).2.2.1
    rw [decide_eq_true h2]
    cases decide (((headOf r sn e.N 0).length : Int) = 0) <;> cases s_Sealed k <;> cases s_l7Body k (p.length : Int) <;> rfl
theorem EpSeal_no (e : PEp) (r : Int) (sn : List UInt8) (k : Int) (p : List UInt8) (h : decide ((s_EpSeal e r sn k p).2.2 = 0) = false) : (s_EpSeal e r sn k p).1 = e := by
  simp only [s_EpSeal, s_EpSeal_j2, cond_eq_ite] at h ⊢
  repeat' split
  all_goals first | rfl | simp_all
theorem ChanSeal_eq (c : PChan) (k : Int) (p : List UInt8) : i_ChanSeal c k p = s_ChanSeal c k p := by
  simp only [i_ChanSeal, s_ChanSeal, ChanOk_eq, EpSeal_eq]
  cases h : decide ((s_EpSeal c.Cur c.Role c.Sn k p).2.2 = 0)
  · rw [EpSeal_no _ _ _ _ _ h]; cases s_ChanOk c <;> rfl
  · rfl
theorem heldWin_mk (t k : Int) (n : Nat) (hk : 0 ≤ k) : l_heldWin { Top := t, Bits := marksI k n : PWin } k = k + (n : Int) := by
  simp only [l_heldWin, heldI_marks, cond_eq_ite, decide_eq_true_eq]
  (repeat' split) <;> omega
theorem heldEp_mk (a b t k : Int) (n1 n2 : Nat) (hk : 0 ≤ k) : l_heldEp { N := a, Key := marksB k n1, Seq := b, Win := { Top := t, Bits := marksI (k + (n1 : Int)) n2 : PWin } : PEp } k = k + ((n1 : Int) + (n2 : Int)) := by
  have h1 := heldWin_mk t (k + (n1 : Int)) n2 (by omega)
  simp only [l_heldEp, heldB_marks, h1, cond_eq_ite, decide_eq_true_eq]
  (repeat' split) <;> omega
theorem heldChan_mk (x : PChan) (k : Int) (hk : 0 ≤ k) : l_heldChan (mk_PChan x k) k = k + tot_PChan x := by
  have h1 := heldEp_mk x.Cur.N x.Cur.Seq x.Cur.Win.Top (k + (x.Sn.length : Int)) x.Cur.Key.length x.Cur.Win.Bits.length (by omega)
  have h2 := heldEp_mk x.Old.N x.Old.Seq x.Old.Win.Top ((k + (x.Sn.length : Int)) + ((x.Cur.Key.length : Int) + (x.Cur.Win.Bits.length : Int))) x.Old.Key.length x.Old.Win.Bits.length (by omega)
  simp only [l_heldChan, mk_PChan, tot_PChan, tot_PEp, tot_PWin, heldB_marks, h1, h2, cond_eq_ite, decide_eq_true_eq]
  (repeat' split) <;> omega
theorem heldFrame_mk (x : PFrame) (k : Int) (hk : 0 ≤ k) : l_heldFrame (mk_PFrame x k) k = k + tot_PFrame x := by
  simp only [l_heldFrame, mk_PFrame, tot_PFrame, heldB_marks, cond_eq_ite, decide_eq_true_eq]
  (repeat' split) <;> omega
theorem chan_nn (x : PChan) : 0 ≤ tot_PChan x := by simp only [tot_PChan, tot_PEp, tot_PWin]; omega
theorem frame_nn (x : PFrame) : 0 ≤ tot_PFrame x := by simp only [tot_PFrame]; omega
theorem held2 (y : PFrame) (z : PChan) : l_heldFrame (mk_PFrame y (1 + tot_PChan z)) (1 + tot_PChan z) = (1 + tot_PChan z) + tot_PFrame y := heldFrame_mk _ _ (by have := chan_nn z; omega)
theorem ng1 (z : PChan) : decide (1 + tot_PChan z < 0) = false := decide_eq_false (by have := chan_nn z; omega)
theorem ng2 (z : PChan) (y : PFrame) : decide (1 + tot_PChan z + tot_PFrame y < 0) = false := decide_eq_false (by have := chan_nn z; have := frame_nn y; omega)
theorem ng3 (z : PChan) (p : List UInt8) : decide (1 + tot_PChan z + (p.length : Int) < 0) = false := decide_eq_false (by have := chan_nn z; omega)
theorem AskRekey_eq (c : PChan) : i_AskRekey c = s_AskRekey c := by
  simp only [i_AskRekey, s_AskRekey, ChanOk_eq, ChanSeal_eq, show ∀ n, i_RekeyBody n = s_RekeyBody n from fun _ => rfl]
theorem law_AskRekey (c : PChan) : l_FnExactAskRekey c = true := by
  simp only [l_FnExactAskRekey, AskRekey_eq, toChan_eq, eqChan_self, eqFrame_self, decide_true, heldChan_mk _ 1 (by decide), held2, ng1, ng2, cond_true, cond_false]
  cases decide (l_szChan c 1048576 < 0) <;> rfl
end Go.Proofs.YtkmhmejednjkoaaGreat.K
