/- The plain side of the laws on credits: CreditsOk, Gain, RoomFor. -/
import Derived.Test.YtodlalolknldmaaWg2
namespace Go.Proofs.Ytodlalolknldmaa.K
set_option linter.unusedSimpArgs false
set_option linter.unusedVariables false
theorem l1In_within : F_spec_l1In = F_impl_within := rfl
theorem CreditsOk_eq (x : List PCredit) : iCr x = sCr x := by
  unfold iCr sCr
  cases h : decide (8 < (x.length : Int)) <;> simp only [cond_true, cond_false]
  refine allN_congr fun j hj => ?_
  unfold goodI goodS
  have hf := findF_first (p := fun c : PCredit => decide (c.A.Host = (x.getD j z_PCredit).A.Host) && decide (c.A.Port = (x.getD j z_PCredit).A.Port)) (z := z_PCredit) hj (by simp)
  rw [show (!decide (creditAt x (x.getD j z_PCredit).A < ((j : Nat) : Int))) = allN (sameJ x j) j from hf]
  rfl
theorem Gain_eq (x : List PCredit) (a : PAddr) (n : Int) : F_impl_Gain x a n = F_spec_Gain x a n := by
  have hr := creditAt_range x a
  have h1 := CreditsOk_eq x
  have h2 := @iCr_t x
  simp only [F_impl_Gain, F_spec_Gain, h1, show F_impl_AddrOk a = F_spec_AddrOk a from rfl, l1In_within, cond_eq_ite, decide_eq_true_eq]
  by_cases hs : sCr x = true
  · have hl := (h2 (h1.trans hs)).2
    simp only [hs, if_true]
    by_cases h0 : creditAt x a < 0
    · rw [if_neg (by omega : ¬ 0 ≤ creditAt x a), if_pos h0]
      by_cases h8 : (x.length : Int) = 8
      · rw [if_neg (by omega : ¬ (x.length : Int) < 8), if_pos h8]
      · rw [if_pos (by omega : (x.length : Int) < 8), if_neg h8]
    · rw [if_pos (by omega : 0 ≤ creditAt x a), if_neg h0]
      have hlt : (creditAt x a).toNat < x.length := by omega
      simp only [getD_set_self hlt, List.set_set]
      by_cases hg : 1000000 < (x.getD (creditAt x a).toNat z_PCredit).Got + n
      · simp only [hg, if_true]
      · simp only [hg, if_false]
  · simp only [hs]
    rfl
theorem RoomFor_eq (x : List PCredit) (a : PAddr) : F_impl_RoomFor x a = F_spec_RoomFor x a := by
  simp only [F_impl_RoomFor, F_spec_RoomFor, CreditsOk_eq]
theorem eqF_self (x : List PCredit) : eqF_PCredit x x = true := by simp [eqF_PCredit]
theorem held_marks (n : Nat) : heldL hC_PCredit (marksL mk_PCredit 4 1 n) 1 = 1 + 4 * n :=
  heldL_marks (fun k _ => by simp [hC_PCredit, mk_PCredit]; omega) (by omega) n 1 (by omega)
theorem law_RoomFor (x : List PCredit) (a : PAddr) : F_laws_FnExactRoomFor x a = true := by
  simp [F_laws_FnExactRoomFor, RoomFor_eq, eqF_self]
theorem law_Gain (x : List PCredit) (a : PAddr) (n : Int) : F_laws_FnExactGain x a n = true := by
  simp only [F_laws_FnExactGain, Gain_eq, eqF_self, held_marks, marksL_len, cond_eq_ite, decide_eq_true_eq]
  (repeat' split) <;> first | rfl | (exfalso; omega) | (exfalso; rename_i hq; have := of_decide_eq_true hq; omega) | (exfalso; simp_all; done)
end Go.Proofs.Ytodlalolknldmaa.K
