/- The plain side of the law on ClientOk. -/
import Derived.Test.YtjcahjhnnagkdaaWk4
namespace Go.Proofs.Ytjcahjhnnagkdaa.K
set_option linter.unusedSimpArgs false
set_option linter.unusedVariables false
set_option maxRecDepth 10000
theorem l1In_within : F_spec_l1In = F_impl_within := rfl
theorem eqB_self (x : List UInt8) : eqB x x = true := by simp [eqB]
theorem eqI_self (x : List Int) : eqI x x = true := by simp [eqI]
theorem eqAddr_self (x : PAddr) : F_laws_eqAddr x x = true := by simp [F_laws_eqAddr]
theorem eqWin_self (x : PWin) : F_laws_eqWin x x = true := by simp [F_laws_eqWin, eqI_self]
theorem eqEp_self (x : PEp) : F_laws_eqEp x x = true := by simp [F_laws_eqEp, eqB_self, eqWin_self]
theorem eqChan_self (x : PChan) : F_laws_eqChan x x = true := by simp [F_laws_eqChan, eqB_self, eqEp_self]
theorem eqFrame_self (x : PFrame) : F_laws_eqFrame x x = true := by simp [F_laws_eqFrame, eqB_self]
theorem eqTimer_self (x : PTimer) : F_laws_eqTimer x x = true := by simp [F_laws_eqTimer]
theorem eqClient_self (x : PClient) : F_laws_eqClient x x = true := by simp [F_laws_eqClient, eqB_self, eqAddr_self, eqFrame_self, eqChan_self, eqTimer_self]
theorem bit_eq (w : PWin) (n : Int) : F_impl_hasBit w n = F_spec_l8Bit w n := by
  have h : n % 1024 % 32 = n % 32 := by omega
  simp only [F_impl_hasBit, F_spec_l8Bit, h]
theorem WinOk_eq (w : PWin) : iWin w = sWin w := by
  have hb : F_impl_hasBit w = F_spec_l8Bit w := funext (bit_eq w)
  simp only [iWin, sWin, l1In_within, hb, areW]
  cases h1 : F_impl_within w.Top (-1) 281474976710655 <;> cases h2 : allW w.Bits <;> by_cases h3 : (w.Bits.length : Int) = 32 <;> simp [h3]
  have := impl_within_t h1
  cases h4 : F_spec_l8Bit w w.Top <;> by_cases h5 : w.Top = -1 <;> by_cases h6 : 0 ≤ w.Top <;> simp [h5, h6] <;> omega
theorem EpOk_eq (e : PEp) : F_impl_EpOk e = F_spec_EpOk e := by
  simp only [F_impl_EpOk, F_spec_EpOk, l1In_within, WinOk_eq]
theorem len0 {α : Type} (l : List α) : ((l.length : Nat) : Int) = 0 ↔ l = [] := by
  cases l with
  | nil => simp
  | cons a l => simp; omega
theorem none_eq (e : PEp) : F_impl_sameEp e { N := 0, Key := [], Seq := 0, Win := { Top := 0, Bits := [] : PWin } : PEp } = F_spec_l14None e := by
  simp only [F_impl_sameEp, F_spec_l14None, F_bytes_Equal, eqS_mk, eqI, len0]
theorem isRole_eq (n : Int) : F_impl_isRole n = F_spec_l1In n 0 1 := by
  simp only [F_impl_isRole, F_spec_l1In, cond_eq_ite]
  by_cases h0 : n = 0 <;> by_cases h1 : n = 1 <;> by_cases h2 : 0 ≤ n <;> by_cases h3 : n ≤ 1 <;> simp_all <;> omega
theorem ChanOk_eq (c : PChan) : F_impl_ChanOk c = F_spec_ChanOk c := by
  simp only [F_impl_ChanOk, F_spec_ChanOk, F_impl_oldOk, isRole_eq, F_impl_isNonce, EpOk_eq, none_eq, l1In_within, F_impl_within, cond_eq_ite]
  grind
theorem noFrame_eq (f : PFrame) : F_impl_sameFrame f { Kind := 0, Id := 0, Cn := [], Sn := [], Tick := 0, Cookie := [], Proof := [], Epoch := 0, Seq := 0, Body := [], Tag := [] : PFrame } = F_spec_l19NoFrame f := by
  simp only [F_impl_sameFrame, F_spec_l19NoFrame, F_bytes_Equal, eqS_mk, len0, cond_eq_ite, decide_eq_true_eq]
  grind
theorem noChan_eq (c : PChan) : F_impl_isZeroChan c = F_spec_l19NoChan c := by
  simp only [F_impl_isZeroChan, F_spec_l19NoChan, none_eq]
theorem TimerOk_eq (t : PTimer) : F_impl_TimerOk t = F_spec_TimerOk t := by
  simp only [F_impl_TimerOk, F_spec_TimerOk, l1In_within, cond_eq_ite]
  grind
theorem FrameOk_eq (f : PFrame) : F_impl_FrameOk f = F_spec_FrameOk f := by
  have hb : ∀ k n, F_impl_bodyOk k n = F_spec_l7Body k n := fun _ _ => rfl
  simp only [F_impl_FrameOk, F_spec_FrameOk, F_impl_sameFrame, F_bytes_Equal, eqS_mk, F_impl_isNonce, hb, F_impl_Sealed, F_spec_Sealed, l1In_within, len0, decide_true, cond_true]
  by_cases h1 : f.Kind = 1
  · simp only [h1, decide_true, cond_true, show F_impl_within 1 4 8 = false from rfl, cond_false, cond_eq_ite, decide_eq_true_eq]
    grind
  · by_cases h2 : f.Kind = 2
    · simp only [h2, decide_true, cond_true, show F_impl_within 2 4 8 = false from rfl, cond_false, cond_eq_ite, decide_eq_true_eq]
      grind
    · by_cases h3 : f.Kind = 3
      · simp only [h3, decide_true, cond_true, show F_impl_within 3 4 8 = false from rfl, cond_false, cond_eq_ite, decide_eq_true_eq]
        grind
      · simp only [h1, h2, h3, decide_false, cond_false, cond_eq_ite, decide_eq_true_eq]
        grind
theorem finishOk_t {c : PClient} : F_impl_finishOk c = (F_impl_isNonce c.Cn && decide (c.Fin.Kind = 3) && F_spec_FrameOk c.Fin && decide (c.Fin.Id = c.Id) && F_spec_l1Same c.Fin.Cn c.Cn && F_spec_ChanOk c.C && decide (c.C.Role = 0) && F_spec_l1Same c.C.Sn c.Fin.Sn && decide (c.C.Cur.N = 0) && !c.C.HasOld && decide ((c.C.Next.length : Int) = 0)) := by
  simp only [F_impl_finishOk, FrameOk_eq, ChanOk_eq, show ∀ a b, F_bytes_Equal a b = F_spec_l1Same a b from fun _ _ => rfl, cond_eq_ite]
  grind
theorem timer0 (t : PTimer) : ((t.On == false) && (decide (t.Due = 0) && (decide (t.Wait = 0) && decide (t.Tries = 0)))) = (F_spec_TimerOk t && !t.On) := by
  simp only [F_spec_TimerOk, cond_eq_ite]
  cases t.On <;> simp
theorem ClientOk_eq (c : PClient) : F_impl_ClientOk c = F_spec_ClientOk c := by
  simp only [F_impl_ClientOk, F_spec_ClientOk, show F_impl_PskOk c.Psk = F_spec_PskOk c.Psk from rfl, show F_impl_AddrOk c.At = F_spec_AddrOk c.At from rfl, l1In_within, noFrame_eq, noChan_eq, TimerOk_eq, ChanOk_eq, finishOk_t, timer0, F_impl_isNonce]
  by_cases h0 : c.St = 0
  · simp only [h0, decide_true, cond_true]
    by_cases hl : c.Last = 0
    · simp only [hl, F_impl_within, cond_eq_ite]; grind
    · simp only [hl, cond_eq_ite]; grind
  · by_cases h1 : c.St = 1
    · simp only [h1, decide_true, cond_true, show ¬ (1 : Int) = 0 by decide, show ¬ (1 : Int) = 3 by decide, decide_false, cond_false]
      by_cases hl : c.Last = 0
      · simp only [hl, F_impl_within, cond_eq_ite]; grind
      · simp only [hl, cond_eq_ite]; grind
    · by_cases h2 : c.St = 2
      · simp only [h2, decide_true, cond_true, show ¬ (2 : Int) = 0 by decide, show ¬ (2 : Int) = 1 by decide, show ¬ (2 : Int) = 3 by decide, decide_false, cond_false]
        by_cases hl : c.Last = 0
        · simp only [hl, F_impl_within, cond_eq_ite]; grind
        · simp only [hl, cond_eq_ite]; grind
      · simp only [h0, h1, h2, decide_false, cond_false, cond_eq_ite]
        grind
theorem toClient_eq (x : PClient) : F_laws_toClient x = x := rfl
theorem law_ClientOk (c : PClient) : F_laws_FnExactClientOk c = true := by
  simp [F_laws_FnExactClientOk, ClientOk_eq, eqClient_self]
end Go.Proofs.Ytjcahjhnnagkdaa.K
