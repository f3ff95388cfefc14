/- The plain side of FnKeysOf. -/
import Derived.Test.YtdbjmgkiccfhcaaWs3
namespace Go.Proofs.Ytdbjmgkiccfhcaa.K
set_option linter.unusedSimpArgs false
set_option linter.unusedVariables false
theorem same_self (x : List UInt8) : F_laws_same x x = true := by simp [F_laws_same, eqS]
theorem kf_case (x : List UInt8) (d : PChan) (o : Int) (l : List (List UInt8)) (h : F_impl_ChanOk d = true) (hl : F_impl_KeysOf d = l) (ho : F_impl_Oldest d = o) (hn : 1 ≤ l.length) (h3 : l.length ≤ 3)
    (h32 : ∀ j : Nat, j < l.length → F_impl_KeyFor d (o + (j : Int)) = (l.getD j z_B, true) ∧ (l.getD j z_B).length = 32) (hlo : (F_impl_KeyFor d (o - 1)).2 = false) (hhi : (F_impl_KeyFor d (o + (l.length : Int))).2 = false) : kfLaw x d = true := by
  have ha : allN (kfG d) l.length = true := allN_iff.2 fun j hj => by
    have h1 := h32 j hj
    simp only [kfG, hl, ho, h1.1, same_self, h1.2, cond_true]
    rfl
  simp only [kfLaw, kfT, h, hl, ho, ha, hlo, hhi, cond_true, cond_false, decide_eq_true (show (1 : Int) ≤ (l.length : Int) by omega), decide_eq_true (show (l.length : Int) ≤ 3 by omega), Bool.not_false]
  cases F_laws_big x <;> rfl
theorem law_FnKeysOf (x : List UInt8) (d : PChan) (_ : True) : kfLaw x d = true := by
  cases h : F_impl_ChanOk d
  · simp only [kfLaw, F_impl_KeysOf, F_impl_Oldest, h, cond_false]
    cases F_laws_big x <;> rfl
  · have hq := h
    simp only [F_impl_ChanOk, Bool.cond_false_right, Bool.and_eq_true] at hq
    have hk := (impl_EpOk_t hq.2.2.1).2.2.1
    have hx := hq.2.2.2.2
    cases hN : decide (0 < (d.Next.length : Int))
    · have hN0 := of_decide_eq_false hN
      cases hO : d.HasOld
      · have hf : ∀ n, F_impl_KeyFor d n = if n = d.Cur.N then (d.Cur.Key, true) else ([], false) := fun n => by
          simp only [F_impl_KeyFor, F_impl_KeyFor_j1, h, hO, hN, cond_true, cond_false, cond_eq_ite, decide_eq_true_eq, Bool.false_eq_true, if_true, if_false]
        refine kf_case x d d.Cur.N [d.Cur.Key] h (by simp only [F_impl_KeysOf, h, hO, hN, cond_true, cond_false]; rfl) (by simp only [F_impl_Oldest, h, hO, cond_true, cond_false]) (by simp) (by simp) (fun j hj => ?_) ?_ ?_
        · obtain rfl : j = 0 := by simpa using hj
          rw [hf, if_pos (by omega)]
          exact ⟨rfl, (by have h9 : d.Cur.Key.length = 32 := (by omega); exact h9)⟩
        · rw [hf, if_neg (by omega)]
        · rw [hf, if_neg (by simp only [List.length_cons, List.length_nil]; omega)]
      · have hc := iCh_o1 h hO
        have hk2 : (d.Old.Key.length : Int) = 32 := by
          have h1 := hq.2.2.2.1
          simp only [F_impl_oldOk, hO, cond_true, Bool.cond_false_right, Bool.and_eq_true] at h1
          exact (impl_EpOk_t h1.1).2.2.1
        have hf : ∀ n, F_impl_KeyFor d n = if n = d.Old.N then (d.Old.Key, true) else if n = d.Cur.N then (d.Cur.Key, true) else ([], false) := fun n => by
          simp only [F_impl_KeyFor, F_impl_KeyFor_j1, h, hO, hN, cond_true, cond_false, cond_eq_ite, decide_eq_true_eq, Bool.false_eq_true, if_true, if_false]
        refine kf_case x d d.Old.N [d.Old.Key, d.Cur.Key] h (by simp only [F_impl_KeysOf, h, hO, hN, cond_true, cond_false]; rfl) (by simp only [F_impl_Oldest, h, hO, cond_true, cond_false]) (by simp) (by simp) (fun j hj => ?_) ?_ ?_
        · rcases j with _ | _ | j
          · rw [hf, if_pos (by omega)]
            exact ⟨rfl, (by have h9 : d.Old.Key.length = 32 := (by omega); exact h9)⟩
          · rw [hf, if_neg (by omega), if_pos (by omega)]
            exact ⟨rfl, (by have h9 : d.Cur.Key.length = 32 := (by omega); exact h9)⟩
          · simp only [List.length_cons, List.length_nil] at hj; omega
        · rw [hf, if_neg (by omega), if_neg (by omega)]
        · rw [hf, if_neg (by simp only [List.length_cons, List.length_nil]; omega), if_neg (by simp only [List.length_cons, List.length_nil]; omega)]
    · have hN0 := of_decide_eq_true hN
      have hk3 : (d.Next.length : Int) = 32 := by
        rw [decide_eq_false (show ¬ (d.Next.length : Int) = 0 by omega)] at hx
        simp only [cond_false, Bool.cond_false_right, Bool.and_eq_true, decide_eq_true_eq] at hx
        exact hx.2.1
      cases hO : d.HasOld
      · have hf : ∀ n, F_impl_KeyFor d n = if n = d.Cur.N then (d.Cur.Key, true) else if n = d.Cur.N + 1 then (d.Next, true) else ([], false) := fun n => by
          simp only [F_impl_KeyFor, F_impl_KeyFor_j1, h, hO, hN, cond_true, cond_false, cond_eq_ite, decide_eq_true_eq, Bool.false_eq_true, if_true, if_false]
        refine kf_case x d d.Cur.N [d.Cur.Key, d.Next] h (by simp only [F_impl_KeysOf, h, hO, hN, cond_true, cond_false]; rfl) (by simp only [F_impl_Oldest, h, hO, cond_true, cond_false]) (by simp) (by simp) (fun j hj => ?_) ?_ ?_
        · rcases j with _ | _ | j
          · rw [hf, if_pos (by omega)]
            exact ⟨rfl, (by have h9 : d.Cur.Key.length = 32 := (by omega); exact h9)⟩
          · rw [hf, if_neg (by omega), if_pos (by omega)]
            exact ⟨rfl, (by have h9 : d.Next.length = 32 := (by omega); exact h9)⟩
          · simp only [List.length_cons, List.length_nil] at hj; omega
        · rw [hf, if_neg (by omega), if_neg (by omega)]
        · rw [hf, if_neg (by simp only [List.length_cons, List.length_nil]; omega), if_neg (by simp only [List.length_cons, List.length_nil]; omega)]
      · have hc := iCh_o1 h hO
        have hk2 : (d.Old.Key.length : Int) = 32 := by
          have h1 := hq.2.2.2.1
          simp only [F_impl_oldOk, hO, cond_true, Bool.cond_false_right, Bool.and_eq_true] at h1
          exact (impl_EpOk_t h1.1).2.2.1
        have hf : ∀ n, F_impl_KeyFor d n = if n = d.Old.N then (d.Old.Key, true) else if n = d.Cur.N then (d.Cur.Key, true) else if n = d.Cur.N + 1 then (d.Next, true) else ([], false) := fun n => by
          simp only [F_impl_KeyFor, F_impl_KeyFor_j1, h, hO, hN, cond_true, cond_false, cond_eq_ite, decide_eq_true_eq, Bool.false_eq_true, if_true, if_false]
        refine kf_case x d d.Old.N [d.Old.Key, d.Cur.Key, d.Next] h (by simp only [F_impl_KeysOf, h, hO, hN, cond_true, cond_false]; rfl) (by simp only [F_impl_Oldest, h, hO, cond_true, cond_false]) (by simp) (by simp) (fun j hj => ?_) ?_ ?_
        · rcases j with _ | _ | _ | j
          · rw [hf, if_pos (by omega)]
            exact ⟨rfl, (by have h9 : d.Old.Key.length = 32 := (by omega); exact h9)⟩
          · rw [hf, if_neg (by omega), if_pos (by omega)]
            exact ⟨rfl, (by have h9 : d.Cur.Key.length = 32 := (by omega); exact h9)⟩
          · rw [hf, if_neg (by omega), if_neg (by omega), if_pos (by omega)]
            exact ⟨rfl, (by have h9 : d.Next.length = 32 := (by omega); exact h9)⟩
          · simp only [List.length_cons, List.length_nil] at hj; omega
        · rw [hf, if_neg (by omega), if_neg (by omega), if_neg (by omega)]
        · rw [hf, if_neg (by simp only [List.length_cons, List.length_nil]; omega), if_neg (by simp only [List.length_cons, List.length_nil]; omega), if_neg (by simp only [List.length_cons, List.length_nil]; omega)]
end Go.Proofs.Ytdbjmgkiccfhcaa.K
