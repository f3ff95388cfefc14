/- The plain side of a law on paths that draws its input. -/
import Derived.Test.YtdbjmgkiccfhcaaWp3
namespace Go.Proofs.Ytdbjmgkiccfhcaa.K
set_option linter.unusedSimpArgs false
set_option linter.unusedVariables false
theorem l1In_within : F_spec_l1In = F_impl_within := rfl
theorem AddrOk_eq (a : PAddr) : F_impl_AddrOk a = F_spec_AddrOk a := rfl
theorem getD_take {α : Type} {z : α} {x : List α} {i j : Nat} (h : j < i) : (x.take i).getD j z = x.getD j z := by
  simp only [List.getD_eq_getElem?_getD, List.getElem?_take_of_lt h]
theorem PathsOk_eq (p : PPaths) : iPa p = sPa p := by
  unfold iPa sPa
  rw [AddrOk_eq]
  cases F_spec_AddrOk p.At <;> simp only [cond_true, cond_false]
  cases decide (3 < (p.Cands.length : Int)) <;> simp only [cond_true, cond_false]
  refine allN_congr fun i hi => ?_
  unfold iPaG sPaG
  have hj : allN (iPaJ p i) i = allN (sPaJ p i) i := allN_congr fun j hj => by unfold iPaJ sPaJ; rw [getD_take hj]
  rw [hj, AddrOk_eq, l1In_within]
  unfold F_impl_isNonce
  cases F_spec_AddrOk (p.Cands.getD i z_PCand).A <;> cases decide (((p.Cands.getD i z_PCand).Draw.length : Int) = 12) <;> cases F_impl_within (p.Cands.getD i z_PCand).Until 0 1000006 <;>
    cases (!(decide ((p.Cands.getD i z_PCand).A.Host = p.At.Host) && decide ((p.Cands.getD i z_PCand).A.Port = p.At.Port))) <;> simp
theorem addr_iff {c d : PAddr} : (decide (c.Host = d.Host) && decide (c.Port = d.Port)) = true ↔ c = d := by
  obtain ⟨h, q⟩ := c
  obtain ⟨h', q'⟩ := d
  simp
theorem addr_f {c d : PAddr} (h : c ≠ d) : (decide (c.Host = d.Host) && decide (c.Port = d.Port)) = false := by
  cases hq : (decide (c.Host = d.Host) && decide (c.Port = d.Port))
  · rfl
  · exact absurd (addr_iff.1 hq) h
theorem getD_el {α : Type} {z : α} {x : List α} {i : Nat} (h : i < x.length) : x.getD i z = x[i] := by
  simp only [List.getD_eq_getElem?_getD, List.getElem?_eq_getElem h, Option.getD_some]
def isA (a : PAddr) (c : PCand) : Bool := decide (c.A.Host = a.Host) && decide (c.A.Port = a.Port)
theorem isA_iff {a : PAddr} {c : PCand} : isA a c = true ↔ c.A = a := addr_iff
theorem candAt_def (p : PPaths) (a : PAddr) : candAt p a = findF (isA a) p.Cands := rfl
theorem findF_neg {α : Type} {f : α → Bool} : ∀ {l : List α}, findF f l < 0 → ∀ c ∈ l, f c = false
  | [], _, c, hc => by cases hc
  | a :: l, h, c, hc => by
    have hr := findF_range (p := f) l
    cases ha : f a
    · simp only [findF, ha, Bool.false_eq_true, if_false] at h
      rcases List.mem_cons.1 hc with rfl | hc
      · exact ha
      · refine findF_neg ?_ c hc
        split at h
        · assumption
        · omega
    · simp only [findF, ha, if_true] at h; omega
theorem findF_no {α : Type} {f : α → Bool} : ∀ {l : List α}, (∀ c ∈ l, f c = false) → findF f l = -1
  | [], _ => rfl
  | a :: l, h => by
    simp only [findF, h a List.mem_cons_self, Bool.false_eq_true, if_false, findF_no fun c hc => h c (List.mem_cons_of_mem _ hc)]
    rfl
theorem findF_app {α : Type} {f : α → Bool} {b : α} : ∀ (l : List α), findF f (l ++ [b]) = if findF f l < 0 then (if f b then (l.length : Int) else -1) else findF f l
  | [] => by simp [findF]
  | a :: l => by
    have hr := findF_range (p := f) l
    have ih := findF_app (f := f) (b := b) l
    simp only [List.cons_append, findF, ih, List.length_cons]
    cases f a <;> cases f b <;> by_cases h : findF f l < 0 <;> simp [h] <;> omega
theorem findF_hit {α : Type} {f : α → Bool} {z : α} : ∀ {l : List α}, 0 ≤ findF f l → f (l.getD (findF f l).toNat z) = true
  | [], h => by simp only [findF] at h; omega
  | a :: l, h => by
    cases ha : f a
    · have hr := findF_range (p := f) l
      simp only [findF, ha, Bool.false_eq_true, if_false] at h ⊢
      split at h
      · omega
      · rename_i hn
        rw [if_neg hn, show (findF f l + 1).toNat = (findF f l).toNat + 1 by omega]
        exact findF_hit (z := z) (l := l) (by omega)
    · simp only [findF, ha, if_true]
      exact ha
def gc (at_ : PAddr) (c : PCand) : Prop := F_impl_AddrOk c.A = true ∧ c.A ≠ at_ ∧ (c.Draw.length : Int) = 12 ∧ 0 ≤ c.Until ∧ c.Until ≤ 1000006
theorem iPa_iff (p : PPaths) : iPa p = true ↔ F_impl_AddrOk p.At = true ∧ p.Cands.length ≤ 3 ∧ (∀ c ∈ p.Cands, gc p.At c) ∧ p.Cands.Pairwise (fun c e => c.A ≠ e.A) := by
  have hG : ∀ i, i < p.Cands.length → (iPaG p i = true ↔ gc p.At (p.Cands.getD i z_PCand) ∧ ∀ j, j < i → (p.Cands.getD j z_PCand).A ≠ (p.Cands.getD i z_PCand).A) := fun i hi => by
    have h1 : allN (iPaJ p i) i = true ↔ ∀ j, j < i → (p.Cands.getD j z_PCand).A ≠ (p.Cands.getD i z_PCand).A := by
      rw [allN_iff]
      refine forall_congr' fun j => imp_congr_right fun hj => ?_
      unfold iPaJ
      rw [getD_take hj]
      constructor
      · intro h e
        rw [e] at h
        simp at h
      · intro h
        rw [addr_f h]
        rfl
    have h2 : (!(decide ((p.Cands.getD i z_PCand).A.Host = p.At.Host) && decide ((p.Cands.getD i z_PCand).A.Port = p.At.Port))) = true ↔ (p.Cands.getD i z_PCand).A ≠ p.At := by
      constructor
      · intro h e
        rw [e] at h
        simp at h
      · intro h
        rw [addr_f h]
        rfl
    have h3 : F_impl_within (p.Cands.getD i z_PCand).Until 0 1000006 = true ↔ 0 ≤ (p.Cands.getD i z_PCand).Until ∧ (p.Cands.getD i z_PCand).Until ≤ 1000006 := by
      simp only [F_impl_within, cond_eq_ite]
      by_cases h : 0 ≤ (p.Cands.getD i z_PCand).Until <;> simp [h]
    unfold iPaG gc F_impl_isNonce
    simp only [Bool.and_eq_true, h1, h2, h3, decide_eq_true_eq, and_assoc]
  unfold iPa
  cases h0 : F_impl_AddrOk p.At
  · simp
  · by_cases h3 : 3 < p.Cands.length
    · rw [decide_eq_true (show 3 < (p.Cands.length : Int) by omega)]
      simp only [cond_true]
      constructor
      · intro h; cases h
      · intro h; omega
    · rw [decide_eq_false (show ¬ 3 < (p.Cands.length : Int) by omega)]
      simp only [cond_true, cond_false, allN_iff, true_and]
      constructor
      · intro h
        refine ⟨by omega, fun c hc => ?_, ?_⟩
        · obtain ⟨i, hi, rfl⟩ := List.mem_iff_getElem.1 hc
          have := ((hG i hi).1 (h i hi)).1
          rwa [getD_el hi] at this
        · rw [List.pairwise_iff_getElem]
          intro i j hi hj hij
          have := ((hG j hj).1 (h j hj)).2 i hij
          rwa [getD_el hi, getD_el hj] at this
      · rintro ⟨-, hc, hp⟩ i hi
        rw [List.pairwise_iff_getElem] at hp
        refine (hG i hi).2 ⟨by rw [getD_el hi]; exact hc _ (List.getElem_mem _), fun j hj => ?_⟩
        rw [getD_el hi, getD_el (by omega)]
        exact hp j i (by omega) hi hj
theorem AddrOk_spec {a : PAddr} (h : F_spec_AddrOk a = true) : F_impl_AddrOk a = true := h
theorem at_b9 (x : List UInt8) : 0 ≤ F_laws_at x 2 % 9 ∧ F_laws_at x 2 % 9 ≤ 8 := by omega
theorem bent_ne (x b : List UInt8) (h : 0 < b.length) : F_laws_bent x b ≠ b := by
  unfold F_laws_bent
  rw [decide_eq_true (show 0 < (b.length : Int) by omega), cond_true]
  intro e
  have h1 := at_b x 2
  have h2 := at_b x 3
  have hm : 0 ≤ ((F_laws_at x 2 * 256 + F_laws_at x 3) % (b.length : Int)) ∧ ((F_laws_at x 2 * 256 + F_laws_at x 3) % (b.length : Int)) < (b.length : Int) := ⟨Int.emod_nonneg _ (by omega), Int.emod_lt_of_pos _ (by omega)⟩
  generalize (F_laws_at x 2 * 256 + F_laws_at x 3) % (b.length : Int) = m at e hm
  have hk : m.toNat < b.length := by omega
  have h3 := congrArg (fun l => l.getD m.toNat 0) e
  simp only [List.getD_eq_getElem?_getD, List.getElem?_set_self hk, Option.getD_some] at h3
  generalize (b[m.toNat]?).getD 0 = y at h3
  have h4 : by8 (1 + F_laws_at x 4 % 255) = 0 := by
    have := congrArg (fun u => y ^^^ u) h3
    simpa [← UInt8.xor_assoc] using this
  have h5 := congrArg UInt8.toNat h4
  simp only [by8, UInt8.toNat_ofNat'] at h5
  have : (0 : UInt8).toNat = 0 := rfl
  omega
theorem eqS_self' (x : List UInt8) : F_bytes_Equal x x = true := by simp [F_bytes_Equal, eqS_mk]
theorem eqS_ne {x y : List UInt8} (h : x ≠ y) : F_bytes_Equal x y = false := by simp [F_bytes_Equal, eqS_mk, h]
theorem tick_eq {p : PPaths} {n : Int} (h1 : sPa p = true) (h2 : F_impl_within n 0 1000000 = true) : F_impl_withoutExpired p n = F_spec_PathTick p n := by
  simp only [F_spec_PathTick, l1In_within, h1, h2, cond_true, F_impl_withoutExpired]
theorem Offer_eq (p : PPaths) (n : Int) (a : PAddr) (d : List UInt8) : F_impl_Offer p n a d = offS p n a d := by
  simp only [F_impl_Offer, offS, PathsOk_eq, l1In_within, AddrOk_eq, F_impl_isNonce, F_impl_clone]
  cases h1 : sPa p <;> cases h2 : F_impl_within n 0 1000000 <;> simp only [cond_true, cond_false]
  rw [tick_eq h1 h2]
  by_cases h3 : candAt (F_spec_PathTick p n) a < 0
  · rw [decide_eq_true h3, decide_eq_false (show ¬ 0 ≤ candAt (F_spec_PathTick p n) a by omega)]; rfl
  · rw [decide_eq_false h3, decide_eq_true (show 0 ≤ candAt (F_spec_PathTick p n) a by omega)]; rfl
theorem law_FnPaths (x : List UInt8) (d : PPaths × Int × PAddr × List UInt8) (_ : -1 ≤ d.2.1 ∧ d.2.1 ≤ 1000001) : F_laws_FnPaths x d = true := by
  obtain ⟨p, n, a, b⟩ := d
  have hm := at_b9 x
  unfold F_laws_FnPaths
  generalize F_laws_at x 2 % 9 = m at hm
  cases F_laws_big x
  · simp only [cond_false, Offer_eq, PathsOk_eq p, beq_self_eq_true, cond_true]
    cases ho : (offS p n a b).2
    · have hp : (offS p n a b).1 = p := by
        revert ho
        unfold offS
        cases sPa p <;> cases F_spec_l1In n 0 1000000 <;> cases F_spec_AddrOk a <;> cases decide ((b.length : Int) = 12) <;> cases (decide (a.Host = p.At.Host) && decide (a.Port = p.At.Port)) <;> cases decide (candAt (F_spec_PathTick p n) a < 0) <;>
          cases decide (((F_spec_PathTick p n).Cands.length : Int) = 3) <;> simp
      rw [hp]
      simp
    · have h : sPa p = true ∧ (0 ≤ n ∧ n ≤ 1000000) ∧ F_spec_AddrOk a = true ∧ (b.length : Int) = 12 ∧ a ≠ p.At ∧ candAt (F_spec_PathTick p n) a < 0 ∧ ¬ ((F_spec_PathTick p n).Cands.length : Int) = 3 ∧ (offS p n a b).1 = { At := (F_spec_PathTick p n).At, Cands := (F_spec_PathTick p n).Cands ++ [{ A := a, Draw := b, Until := n + 6 : PCand }] : PPaths } := by
        revert ho
        unfold offS
        cases h1 : sPa p
        · intro h; cases h
        cases h2 : F_spec_l1In n 0 1000000
        · intro h; cases h
        cases h3 : F_spec_AddrOk a
        · intro h; cases h
        cases h4 : decide ((b.length : Int) = 12)
        · intro h; cases h
        cases h5 : (decide (a.Host = p.At.Host) && decide (a.Port = p.At.Port))
        rotate_left
        · intro h; cases h
        cases h6 : decide (candAt (F_spec_PathTick p n) a < 0)
        · intro h; cases h
        cases h7 : decide (((F_spec_PathTick p n).Cands.length : Int) = 3)
        rotate_left
        · intro h; cases h
        intro _
        refine ⟨rfl, spec_l1In_t h2, rfl, of_decide_eq_true h4, fun e => ?_, of_decide_eq_true h6, of_decide_eq_false h7, rfl⟩
        rw [addr_iff.2 e] at h5
        cases h5
      obtain ⟨hs, hn, ha, hb, hat, hc, h3, hx⟩ := h
      have hw : F_spec_l1In n 0 1000000 = true := by simp only [F_spec_l1In, cond_eq_ite]; simp [hn.1, hn.2]
      have hT : F_spec_PathTick p n = { At := p.At, Cands := (p.Cands.filter (fun c : PCand => decide (n ≤ c.Until))) : PPaths } := by
        simp only [F_spec_PathTick, hs, hw, cond_true, List.take_length]
      rw [hT] at hc h3 hx
      rw [hx]
      simp only [] at hc h3
      generalize hTT : p.Cands.filter (fun c : PCand => decide (n ≤ c.Until)) = T at hc h3
      have hip := (iPa_iff p).1 ((PathsOk_eq p).trans hs)
      have hTl : T.length ≤ 3 := by
        have := List.length_filter_le (fun c : PCand => decide (n ≤ c.Until)) p.Cands
        rw [hTT] at this
        have := hip.2.1
        omega
      have hTm : ∀ c ∈ T, gc p.At c := fun c hc => hip.2.2.1 c (by rw [← hTT] at hc; exact (List.mem_filter.1 hc).1)
      have hTp : T.Pairwise (fun c e => c.A ≠ e.A) := by rw [← hTT]; exact hip.2.2.2.filter _
      have hno : ∀ c ∈ T, c.A ≠ a := fun c hcT e => by
        have := findF_neg (f := isA a) (l := T) hc c hcT
        rw [isA_iff.2 e] at this
        cases this
      have hx1 : iPa { At := p.At, Cands := T ++ [{ A := a, Draw := b, Until := n + 6 : PCand }] : PPaths } = true := by
        refine (iPa_iff _).2 ⟨hip.1, by simp only [List.length_append, List.length_cons, List.length_nil]; omega, fun c hcm => ?_, ?_⟩
        · rcases List.mem_append.1 hcm with hcm | hcm
          · exact hTm c hcm
          · rw [List.mem_singleton.1 hcm]
            exact ⟨ha, hat, hb, by simp only []; omega, by simp only []; omega⟩
        · refine List.pairwise_append.2 ⟨hTp, List.pairwise_singleton _ _, fun c hcm e he => ?_⟩
          rw [List.mem_singleton.1 he]
          exact hno c hcm
      have hx2 : candAt { At := p.At, Cands := T ++ [{ A := a, Draw := b, Until := n + 6 : PCand }] : PPaths } a = (T.length : Int) := by
        rw [candAt_def, findF_app, if_pos (show findF (isA a) T < 0 from hc), if_pos (show isA a { A := a, Draw := b, Until := n + 6 : PCand } = true from isA_iff.2 rfl)]
      have hg : (T ++ [{ A := a, Draw := b, Until := n + 6 : PCand }]).getD T.length z_PCand = { A := a, Draw := b, Until := n + 6 : PCand } := by
        simp [List.getD_eq_getElem?_getD]
      have hy1 : iPa { At := a, Cands := T : PPaths } = true := (iPa_iff _).2 ⟨ha, by simp only []; omega, fun c hcm => ⟨(hTm c hcm).1, hno c hcm, (hTm c hcm).2.2⟩, hTp⟩
      have hy2 : candAt { At := a, Cands := T : PPaths } a < 0 := hc
      have hw' : F_impl_within n 0 1000000 = true := hw
      have hA : ∀ (t : Int) (u : List UInt8), F_impl_Answer { At := p.At, Cands := T ++ [{ A := a, Draw := b, Until := n + 6 : PCand }] : PPaths } t a u = bif F_impl_within t 0 1000000 then (bif F_bytes_Equal u b then (bif decide (n + 6 < t) then ({ At := p.At, Cands := T ++ [{ A := a, Draw := b, Until := n + 6 : PCand }] : PPaths }, false) else ({ At := a, Cands := T : PPaths }, true)) else ({ At := p.At, Cands := T ++ [{ A := a, Draw := b, Until := n + 6 : PCand }] : PPaths }, false)) else ({ At := p.At, Cands := T ++ [{ A := a, Draw := b, Until := n + 6 : PCand }] : PPaths }, false) := fun t u => by
        unfold F_impl_Answer
        rw [hx1, hx2, decide_eq_false (show ¬ (T.length : Int) < 0 by omega), show ((T.length : Nat) : Int).toNat = T.length by omega, show ((T.length : Int) + 1).toNat = T.length + 1 by omega]
        simp only [cond_true, cond_false, hg, List.take_left]
        rw [show (T ++ [{ A := a, Draw := b, Until := n + 6 : PCand }]).drop (T.length + 1) = [] from List.drop_eq_nil_of_le (by simp), List.append_nil]
      have hC : F_impl_CandOf { At := p.At, Cands := T ++ [{ A := a, Draw := b, Until := n + 6 : PCand }] : PPaths } a = ({ A := a, Draw := b, Until := n + 6 : PCand }, true) := by
        unfold F_impl_CandOf
        rw [hx1, hx2, decide_eq_false (show ¬ (T.length : Int) < 0 by omega), show ((T.length : Nat) : Int).toNat = T.length by omega]
        simp only [cond_true, cond_false, hg]
      have hY : ∀ (t : Int) (u : List UInt8), F_impl_Answer { At := a, Cands := T : PPaths } t a u = ({ At := a, Cands := T : PPaths }, false) := fun t u => by
        unfold F_impl_Answer
        rw [hy1, decide_eq_true hy2]
        cases F_impl_within t 0 1000000 <;> rfl
      simp only [cond_true, hx1, hC, hA, hw', eqS_ne (bent_ne x b (by omega)), eqS_self', cond_false, decide_true, Bool.and_true, Bool.and_self]
      by_cases ht : n + 6 < n + m
      · rw [decide_eq_true ht]
        cases F_impl_within (n + m) 0 1000000 <;> simp
      · rw [decide_eq_false ht]
        by_cases ht2 : 1000000 < n + m
        · have hw2 : F_impl_within (n + m) 0 1000000 = false := by
            simp only [F_impl_within, cond_eq_ite]
            split
            · exact decide_eq_false (by omega)
            · rfl
          rw [decide_eq_true ht2, hw2]
          simp
        · have hw2 : F_impl_within (n + m) 0 1000000 = true := by
            simp only [F_impl_within, cond_eq_ite]
            rw [if_pos (decide_eq_true (by omega))]
            exact decide_eq_true (by omega)
          rw [decide_eq_false ht2, hw2]
          simp [hY, hy1]
  · rfl
end Go.Proofs.Ytdbjmgkiccfhcaa.K
