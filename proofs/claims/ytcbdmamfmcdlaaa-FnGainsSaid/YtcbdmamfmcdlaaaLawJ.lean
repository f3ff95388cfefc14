/- The plain side of FnGains. -/
import Derived.Test.YtcbdmamfmcdlaaaWq3
namespace Go.Proofs.Ytcbdmamfmcdlaaa.K
set_option linter.unusedSimpArgs false
set_option linter.unusedVariables false
theorem l1In_within : F_spec_l1In = F_impl_within := rfl
theorem CreditsOk_eq (x : List PCredit) : iCr x = sCr x := by
  unfold iCr sCr
  cases h : decide (8 < (x.length : Int)) <;> simp only [cond_true, cond_false]
  refine allN_congr fun j hj => ?_
  unfold goodI goodS
  have hf := findF_first (p := fun c : PCredit => decide (c.A.Host = (x.getD j z_PCredit).A.Host) && decide (c.A.Port = (x.getD j z_PCredit).A.Port)) (z := z_PCredit) hj (by simp)
  rw [show (!decide (creditAt x (x.getD j z_PCredit).A < ((j : Nat) : Int))) = allN (sameJ x j) j from hf]
  rfl
theorem Gain_eq (x : List PCredit) (a : PAddr) (n : Int) : F_impl_Gain x a n = F_spec_Gain x a n := by
  have hr := creditAt_range x a
  have h1 := CreditsOk_eq x
  have h2 := @iCr_t x
  simp only [F_impl_Gain, F_spec_Gain, h1, show F_impl_AddrOk a = F_spec_AddrOk a from rfl, l1In_within, cond_eq_ite, decide_eq_true_eq]
  by_cases hs : sCr x = true
  · have hl := (h2 (h1.trans hs)).2
    simp only [hs, if_true]
    by_cases h0 : creditAt x a < 0
    · rw [if_neg (by omega : ¬ 0 ≤ creditAt x a), if_pos h0]
      by_cases h8 : (x.length : Int) = 8
      · rw [if_neg (by omega : ¬ (x.length : Int) < 8), if_pos h8]
      · rw [if_pos (by omega : (x.length : Int) < 8), if_neg h8]
    · rw [if_pos (by omega : 0 ≤ creditAt x a), if_neg h0]
      have hlt : (creditAt x a).toNat < x.length := by omega
      simp only [getD_set_self hlt, List.set_set]
      by_cases hg : 1000000 < (x.getD (creditAt x a).toNat z_PCredit).Got + n
      · simp only [hg, if_true]
      · simp only [hg, if_false]
  · simp only [hs]
    rfl
theorem findF_hit {α : Type} {f : α → Bool} {z : α} : ∀ {l : List α} {k : Nat}, findF f l = ((k : Nat) : Int) → f (l.getD k z) = true
  | [], k, h => by simp only [findF] at h; omega
  | a :: l, k, h => by
    rcases Bool.eq_false_or_eq_true (f a) with ha | ha
    · simp only [findF, ha, cond_true, if_true] at h
      obtain rfl : k = 0 := by omega
      exact ha
    · have hr := findF_range (p := f) l
      have hk : findF f l = (((k - 1 : Nat)) : Int) ∧ 0 < k := by
        simp only [findF, ha, cond_false, cond_eq_ite, decide_eq_true_eq, Bool.false_eq_true, if_false] at h
        split at h <;> omega
      obtain ⟨m, rfl⟩ : ∃ m, k = m + 1 := ⟨k - 1, by omega⟩
      exact findF_hit (z := z) (l := l) (k := m) (by simpa using hk.1)
theorem findF_set {α : Type} {f : α → Bool} {z b : α} : ∀ (l : List α) (k : Nat), k < l.length → f b = f (l.getD k z) → findF f (l.set k b) = findF f l
  | [], _, h, _ => by simp at h
  | a :: l, 0, _, h => by
    have h2 : f b = f a := by simpa using h
    simp only [List.set_cons_zero, findF, h2]
  | a :: l, k + 1, hk, h => by
    simp only [List.set_cons_succ, findF]
    rw [findF_set (z := z) l k (by simpa using hk) (by simpa using h)]
theorem findF_app {α : Type} {f : α → Bool} {b : α} : ∀ (l : List α), findF f (l ++ [b]) = if findF f l < 0 then (if f b then (l.length : Int) else -1) else findF f l
  | [] => by simp [findF]
  | a :: l => by
    have hr := findF_range (p := f) l
    have ih := findF_app (f := f) (b := b) l
    simp only [List.cons_append, findF, ih, List.length_cons]
    cases f a <;> cases f b <;> by_cases h : findF f l < 0 <;> simp [h] <;> omega
def sameA (a : PAddr) (c : PCredit) : Bool := decide (c.A.Host = a.Host) && decide (c.A.Port = a.Port)
theorem creditAt_def (l : List PCredit) (a : PAddr) : creditAt l a = findF (sameA a) l := rfl
theorem sameA_iff {a : PAddr} {c : PCredit} : sameA a c = true ↔ c.A = a := by
  obtain ⟨⟨h, p⟩, g, s⟩ := c
  obtain ⟨h', p'⟩ := a
  simp [sameA]
theorem iCr_iff (l : List PCredit) : iCr l = true ↔ l.length ≤ 8 ∧ ∀ i, i < l.length → goodI l i = true := by
  unfold iCr
  by_cases h : 8 < (l.length : Int)
  · rw [decide_eq_true h]
    simp only [cond_true, Bool.false_eq_true, false_iff]
    intro hh
    omega
  · rw [decide_eq_false h]
    simp only [cond_false]
    rw [allN_iff]
    exact ⟨fun hh => ⟨by omega, hh⟩, fun hh => hh.2⟩
theorem goodI_iff (l : List PCredit) (i : Nat) : goodI l i = true ↔ F_impl_AddrOk (l.getD i z_PCredit).A = true ∧ (0 ≤ (l.getD i z_PCredit).Got ∧ (l.getD i z_PCredit).Got ≤ 1000000) ∧ (0 ≤ (l.getD i z_PCredit).Sent ∧ (l.getD i z_PCredit).Sent ≤ 3 * (l.getD i z_PCredit).Got) ∧ ((i : Nat) : Int) ≤ creditAt l (l.getD i z_PCredit).A := by
  simp only [goodI, F_impl_within, cond_eq_ite, Bool.and_eq_true, Bool.not_eq_true', decide_eq_false_iff_not, Int.not_lt]
  simp
theorem getD_set_other {α : Type} {l : List α} {z b : α} {i k : Nat} (h : i ≠ k) : (l.set k b).getD i z = l.getD i z := by
  simp only [List.getD_eq_getElem?_getD, List.getElem?_set_ne (Ne.symm h)]
theorem getD_app_l {α : Type} {l : List α} {z b : α} {i : Nat} (h : i < l.length) : (l ++ [b]).getD i z = l.getD i z := by
  simp only [List.getD_eq_getElem?_getD, List.getElem?_append_left h]
theorem getD_app_r {α : Type} {l : List α} {z b : α} : (l ++ [b]).getD l.length z = b := by
  simp [List.getD_eq_getElem?_getD]
theorem gnC_0 (n : Int) : gnC 0 n = true := by
  simp only [gnC, cond_eq_ite]
  by_cases h : n < 0
  · simp [h]
  · simp [h]; omega
theorem gnE_same (l : List PCredit) (a b : PAddr) (n : Int) (h : iCr l = true) : gnE l l a b n = true := by
  have h1 : F_impl_RoomFor l a - F_impl_RoomFor l a = 0 := by omega
  unfold gnE
  rw [h, h1, gnC_0, decide_eq_true (rfl : F_impl_RoomFor l b = F_impl_RoomFor l b)]
  cases (decide (a.Host = b.Host) && decide (a.Port = b.Port)) <;> rfl
theorem roomFor_at (l : List PCredit) (a : PAddr) (h : iCr l = true) : F_impl_RoomFor l a = if creditAt l a < 0 then 0 else 3 * (l.getD (creditAt l a).toNat z_PCredit).Got - (l.getD (creditAt l a).toNat z_PCredit).Sent := by
  simp only [F_impl_RoomFor, h, cond_true, cond_eq_ite, decide_eq_true_eq, if_true]
theorem gnE_of (l x : List PCredit) (a b : PAddr) (n : Int) (hx : iCr x = true) (hb : a ≠ b → F_impl_RoomFor x b = F_impl_RoomFor l b) (hd : gnC (F_impl_RoomFor x a - F_impl_RoomFor l a) n = true) : gnE l x a b n = true := by
  unfold gnE
  rw [hx, cond_true]
  cases h : (decide (a.Host = b.Host) && decide (a.Port = b.Port))
  · rw [cond_false, hb (fun e => by subst e; simp at h), decide_eq_true rfl, cond_true]; exact hd
  · rw [cond_true]; exact hd
theorem gnC_of {d n : Int} (h0 : 0 ≤ d) (h3 : d % 3 = 0) (h : d ≤ 3 * n) : gnC d n = true := by
  unfold gnC
  rw [decide_eq_true h0, decide_eq_true h3, decide_eq_true h]
  cases decide (n < 0) <;> rfl
theorem gain_set (l : List PCredit) (a b : PAddr) (n : Int) (hl : iCr l = true) (hn0 : 0 ≤ n) (hk : 0 ≤ creditAt l a) (x : List PCredit) (q : Int) (hq : q = if 1000000 < (l.getD (creditAt l a).toNat z_PCredit).Got + n then 1000000 else (l.getD (creditAt l a).toNat z_PCredit).Got + n)
    (hxe : x = l.set (creditAt l a).toNat { A := (l.getD (creditAt l a).toNat z_PCredit).A, Got := q, Sent := (l.getD (creditAt l a).toNat z_PCredit).Sent : PCredit }) : gnE l x a b n = true := by
  have hr := creditAt_range l a
  generalize hK : (creditAt l a).toNat = K at *
  have hKl : K < l.length := by omega
  obtain ⟨h8, hg⟩ := (iCr_iff l).1 hl
  obtain ⟨g1, ⟨g2, g3⟩, ⟨g4, g5⟩, g6⟩ := (goodI_iff l K).1 (hg K hKl)
  have hq1 : (l.getD K z_PCredit).Got ≤ q ∧ q ≤ 1000000 ∧ q ≤ (l.getD K z_PCredit).Got + n := by rw [hq]; split <;> omega
  have hxl : x.length = l.length := by rw [hxe]; simp
  have hxk : x.getD K z_PCredit = { A := (l.getD K z_PCredit).A, Got := q, Sent := (l.getD K z_PCredit).Sent : PCredit } := by rw [hxe]; exact getD_set_self hKl
  have hxi : ∀ i, i ≠ K → x.getD i z_PCredit = l.getD i z_PCredit := fun i hi => by rw [hxe]; exact getD_set_other hi
  have hat : ∀ c, creditAt x c = creditAt l c := fun c => by
    rw [creditAt_def, creditAt_def, hxe]
    exact findF_set (z := z_PCredit) l K hKl rfl
  have hx : iCr x = true := by
    refine (iCr_iff x).2 ⟨by omega, fun i hi => (goodI_iff x i).2 ?_⟩
    by_cases hik : i = K
    · subst hik
      rw [hat, hxk]
      exact ⟨g1, ⟨by simp only []; omega, by simp only []; omega⟩, ⟨g4, by simp only []; omega⟩, g6⟩
    · rw [hat, hxi i hik]
      exact (goodI_iff l i).1 (hg i (by omega))
  refine gnE_of l x a b n hx (fun hab => ?_) ?_
  · rw [roomFor_at x b hx, roomFor_at l b hl, hat]
    split
    · rfl
    · rename_i hb
      rw [hxi _ (fun e => hab ?_)]
      have h1 := findF_hit (f := sameA b) (z := z_PCredit) (l := l) (k := K) (by rw [← creditAt_def]; omega)
      have h2 := findF_hit (f := sameA a) (z := z_PCredit) (l := l) (k := K) (by rw [← creditAt_def]; omega)
      rw [← sameA_iff.1 h1, ← sameA_iff.1 h2]
  · rw [roomFor_at x a hx, roomFor_at l a hl, hat, if_neg (by omega), if_neg (by omega), hK, hxk]
    simp only []
    exact gnC_of (by omega) (by omega) (by omega)
theorem gain_app (l : List PCredit) (a b : PAddr) (n : Int) (hl : iCr l = true) (ha : F_impl_AddrOk a = true) (hn0 : 0 ≤ n) (hn1 : n ≤ 1000000) (hk : ¬ 0 ≤ creditAt l a) (h8 : l.length < 8) (x : List PCredit) (hxe : x = l ++ [{ A := a, Got := n, Sent := 0 : PCredit }]) : gnE l x a b n = true := by
  obtain ⟨-, hg⟩ := (iCr_iff l).1 hl
  have hxl : x.length = l.length + 1 := by rw [hxe]; simp
  have hxi : ∀ i, i < l.length → x.getD i z_PCredit = l.getD i z_PCredit := fun i hi => by rw [hxe]; exact getD_app_l hi
  have hxk : x.getD l.length z_PCredit = { A := a, Got := n, Sent := 0 : PCredit } := by rw [hxe]; exact getD_app_r
  have hat : ∀ c, creditAt x c = if creditAt l c < 0 then (if c = a then (l.length : Int) else -1) else creditAt l c := fun c => by
    rw [creditAt_def, creditAt_def, hxe, findF_app]
    have : (if sameA c { A := a, Got := n, Sent := 0 : PCredit } then (l.length : Int) else -1) = (if c = a then (l.length : Int) else -1) := by
      by_cases hc : c = a
      · subst hc; simp [sameA]
      · have : sameA c { A := a, Got := n, Sent := 0 : PCredit } = false := by
          cases h : sameA c { A := a, Got := n, Sent := 0 : PCredit }
          · rfl
          · exact absurd (sameA_iff.1 h).symm hc
        simp [this, hc]
    rw [this]
  have hata : creditAt x a = l.length := by rw [hat, if_pos (by omega), if_pos rfl]
  have hx : iCr x = true := by
    refine (iCr_iff x).2 ⟨by omega, fun i hi => (goodI_iff x i).2 ?_⟩
    by_cases hik : i < l.length
    · obtain ⟨g1, g2, g3, g4⟩ := (goodI_iff l i).1 (hg i hik)
      rw [hxi i hik, hat, if_neg (by omega)]
      exact ⟨g1, g2, g3, g4⟩
    · obtain rfl : i = l.length := by omega
      rw [hxk]
      exact ⟨ha, ⟨hn0, hn1⟩, ⟨Int.le_refl _, by simp only []; omega⟩, by rw [hata]; exact Int.le_refl _⟩
  refine gnE_of l x a b n hx (fun hab => ?_) ?_
  · have hr := creditAt_range l b
    rw [roomFor_at x b hx, roomFor_at l b hl]
    by_cases hb : creditAt l b < 0
    · have e1 : creditAt x b = -1 := by rw [hat, if_pos hb, if_neg (fun e : b = a => hab e.symm)]
      rw [if_pos (show creditAt x b < 0 by omega), if_pos hb]
    · have e1 : creditAt x b = creditAt l b := by rw [hat, if_neg hb]
      rw [e1, if_neg hb, if_neg hb, hxi _ (by omega)]
  · rw [roomFor_at x a hx, roomFor_at l a hl, hata, if_neg (by omega), if_pos (by omega), show ((l.length : Nat) : Int).toNat = l.length by omega, hxk]
    simp only []
    exact gnC_of (by omega) (by omega) (by omega)
theorem law_FnGains (x : List UInt8) (d : List PCredit × PAddr × Int) (_ : d.1.length ≤ 101 ∧ -1 ≤ d.2.2 ∧ d.2.2 ≤ 1000001) : gnLaw x d = true := by
  obtain ⟨l, a, n⟩ := d
  simp only [gnLaw, ← Gain_eq, decide_true, cond_true]
  cases F_laws_big x
  · simp only [cond_false]
    generalize F_impl_Near (F_laws_at x 2 % 12) = b
    cases hl : iCr l
    · simp only [F_impl_Gain, hl, cond_false, decide_true]
    · simp only [cond_true]
      have hs := gnE_same l a b n hl
      simp only [F_impl_Gain, hl, cond_true]
      cases ha : F_impl_AddrOk a
      · simpa only [cond_false] using hs
      · simp only [cond_true]
        cases hn : F_impl_within n 0 1000000
        · simpa only [cond_false] using hs
        · have hn := impl_within_t hn
          simp only [cond_true]
          by_cases hk : 0 ≤ creditAt l a
          · rw [decide_eq_true hk, cond_true]
            exact gain_set l a b n hl hn.1 hk _ _ rfl rfl
          · rw [decide_eq_false hk, cond_false]
            by_cases h8 : (l.length : Int) < 8
            · rw [decide_eq_true h8, cond_true]
              exact gain_app l a b n hl ha hn.1 hn.2 hk (by omega) _ rfl
            · rw [decide_eq_false h8, cond_false]
              exact hs
  · rfl
end Go.Proofs.Ytcbdmamfmcdlaaa.K
