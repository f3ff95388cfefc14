/- The plain side of FnLeads. -/
import Derived.Test.YtafcngfnhhchjaaWq3
namespace Go.Proofs.Ytafcngfnhhchjaa.K
set_option linter.unusedSimpArgs false
theorem firstI_hit {f : Int → Bool} : ∀ (n i : Nat), firstI f i n = -1 ∨ (∃ j : Nat, firstI f i n = (j : Int) ∧ i ≤ j ∧ j < i + n ∧ f (j : Int) = true)
  | 0, i => .inl rfl
  | n + 1, i => by
    unfold firstI
    cases h : f ((i : Nat) : Int)
    · rcases firstI_hit (f := f) n (i + 1) with h1 | ⟨j, h1, h2, h3, h4⟩
      · left; simpa using h1
      · right; exact ⟨j, by simpa using h1, by omega, by omega, h4⟩
    · right; exact ⟨i, rfl, by omega, by omega, h⟩
theorem firstI_some {f : Int → Bool} : ∀ (n i j : Nat), i ≤ j → j < i + n → f (j : Int) = true → 0 ≤ firstI f i n ∧ firstI f i n ≤ (j : Int)
  | 0, i, j, h1, h2, _ => by omega
  | n + 1, i, j, h1, h2, h3 => by
    unfold firstI
    cases h : f ((i : Nat) : Int)
    · have hij : i ≠ j := fun e => by subst e; rw [h] at h3; cases h3
      simpa using firstI_some n (i + 1) j (by omega) (by omega) h3
    · simp only [cond_true]; omega
theorem leadsP_hit (k t : List UInt8) (m : Int) : leadsP k t m = -1 ∨ (0 ≤ leadsP k t m ∧ leadsP k t m ≤ m ∧ chain k (leadsP k t m) = t) := by
  by_cases h0 : 0 ≤ m
  · by_cases h1 : m ≤ 64
    · rw [leadsP_y h0 h1]
      rcases firstI_hit (f := fun i => decide (chain k i = t)) (m.toNat + 1) 0 with h | ⟨j, h2, h3, h4, h5⟩
      · exact .inl h
      · refine .inr ?_
        rw [h2]
        exact ⟨by omega, by omega, of_decide_eq_true h5⟩
    · exact .inl (leadsP_f (.inr (by omega)))
  · exact .inl (leadsP_f (.inl (by omega)))
theorem leadsP_self (k : List UInt8) (i : Int) (h0 : 0 ≤ i) (h1 : i ≤ 64) : 0 ≤ leadsP k (chain k i) i ∧ leadsP k (chain k i) i ≤ i := by
  rw [leadsP_y h0 h1]
  have := firstI_some (f := fun j => decide (chain k j = chain k i)) (i.toNat + 1) 0 i.toNat (by omega) (by omega) (by simp [Int.toNat_of_nonneg h0])
  rw [Int.toNat_of_nonneg h0] at this
  exact this
theorem law_FnLeads (x : List UInt8) (d : List UInt8 × List UInt8 × Int) (_ : True) : l_FnLeads x d = true := by
  have h1 := leadsP_hit d.1 d.2.1 d.2.2
  have h2 := leadsP_self d.1 (l_at x 2 % 6) (by omega) (by omega)
  unfold l_FnLeads
  generalize leadsP d.1 (chain d.1 (l_at x 2 % 6)) (l_at x 2 % 6) = m at h2 ⊢
  generalize leadsP d.1 d.2.1 d.2.2 = n at h1 ⊢
  rw [decide_eq_true (show n = n from rfl), decide_eq_true h2.1, decide_eq_true h2.2]
  cases l_big x
  · rcases h1 with h1 | ⟨h3, h4, h5⟩
    · subst h1; rfl
    · rw [decide_eq_false (show ¬ n < 0 by omega), decide_eq_true h4, h5]
      simp [l_same, eqS]
  · rfl
end Go.Proofs.Ytafcngfnhhchjaa.K
