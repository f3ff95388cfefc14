/- The plain side of FnMoves. -/
import Derived.Test.YtdbjmgkiccfhcaaWm3
namespace Go.Proofs.Ytdbjmgkiccfhcaa.K
set_option linter.unusedSimpArgs false
set_option linter.unusedVariables false
theorem l1In_within : F_spec_l1In = F_impl_within := rfl
theorem AddrOk_eq (a : PAddr) : F_impl_AddrOk a = F_spec_AddrOk a := rfl
theorem getD_take {α : Type} {z : α} {x : List α} {i j : Nat} (h : j < i) : (x.take i).getD j z = x.getD j z := by
  simp only [List.getD_eq_getElem?_getD, List.getElem?_take_of_lt h]
theorem PathsOk_eq (p : PPaths) : iPa p = sPa p := by
  unfold iPa sPa
  rw [AddrOk_eq]
  cases F_spec_AddrOk p.At <;> simp only [cond_true, cond_false]
  cases decide (3 < (p.Cands.length : Int)) <;> simp only [cond_true, cond_false]
  refine allN_congr fun i hi => ?_
  unfold iPaG sPaG
  have hj : allN (iPaJ p i) i = allN (sPaJ p i) i := allN_congr fun j hj => by unfold iPaJ sPaJ; rw [getD_take hj]
  rw [hj, AddrOk_eq, l1In_within]
  unfold F_impl_isNonce
  cases F_spec_AddrOk (p.Cands.getD i z_PCand).A <;> cases decide (((p.Cands.getD i z_PCand).Draw.length : Int) = 12) <;> cases F_impl_within (p.Cands.getD i z_PCand).Until 0 1000006 <;>
    cases (!(decide ((p.Cands.getD i z_PCand).A.Host = p.At.Host) && decide ((p.Cands.getD i z_PCand).A.Port = p.At.Port))) <;> simp
theorem sPa_iff {p : PPaths} (h : sPa p = true) : ∀ i j, i < p.Cands.length → j < i → sPaJ p i j = true := by
  intro i j hi hj
  unfold sPa at h
  cases h1 : F_spec_AddrOk p.At with
  | false => simp only [h1, cond_false] at h; cases h
  | true =>
    cases h8 : decide (3 < (p.Cands.length : Int)) with
    | true => simp only [h1, h8, cond_true] at h; cases h
    | false =>
      simp only [h1, h8, cond_true, cond_false] at h
      have hg := allN_iff.1 h i hi
      unfold sPaG at hg
      simp only [Bool.and_eq_true] at hg
      exact allN_iff.1 hg.2.2.2.2 j hj
theorem findF_hit {α : Type} {f : α → Bool} {z : α} : ∀ {l : List α} {k : Nat}, findF f l = ((k : Nat) : Int) → f (l.getD k z) = true
  | [], k, h => by simp only [findF] at h; omega
  | a :: l, k, h => by
    rcases Bool.eq_false_or_eq_true (f a) with ha | ha
    · simp only [findF, ha, cond_true, if_true] at h
      obtain rfl : k = 0 := by omega
      exact ha
    · have hr := findF_range (p := f) l
      have hk : findF f l = (((k - 1 : Nat)) : Int) ∧ 0 < k := by
        simp only [findF, ha, cond_false, cond_eq_ite, decide_eq_true_eq, Bool.false_eq_true, if_false] at h
        split at h <;> omega
      obtain ⟨m, rfl⟩ : ∃ m, k = m + 1 := ⟨k - 1, by omega⟩
      exact findF_hit (z := z) (l := l) (k := m) (by simpa using hk.1)
theorem filter_unique {α : Type} {f : α → Bool} {z : α} {l : List α} {i : Nat} (hi : i < l.length) (hf : f (l.getD i z) = false) (ho : ∀ j, j < l.length → j ≠ i → f (l.getD j z) = true) : l.filter f = l.take i ++ l.drop (i + 1) := by
  have hg : ∀ j (h : j < l.length), l.getD j z = l[j] := fun j h => by simp only [List.getD_eq_getElem?_getD, List.getElem?_eq_getElem h, Option.getD_some]
  have hs : l = l.take i ++ l[i] :: l.drop (i + 1) := by rw [← List.drop_eq_getElem_cons hi, List.take_append_drop]
  have h1 : (l.take i).filter f = l.take i := List.filter_eq_self.2 fun a ha => by
    obtain ⟨j, hj, rfl⟩ := List.mem_iff_getElem.1 ha
    rw [List.length_take] at hj
    rw [List.getElem_take, ← hg j (by omega)]
    exact ho j (by omega) (by omega)
  have h2 : (l.drop (i + 1)).filter f = l.drop (i + 1) := List.filter_eq_self.2 fun a ha => by
    obtain ⟨j, hj, rfl⟩ := List.mem_iff_getElem.1 ha
    rw [List.length_drop] at hj
    rw [List.getElem_drop, ← hg (i + 1 + j) (by omega)]
    exact ho _ (by omega) (by omega)
  conv => lhs; rw [hs]
  rw [List.filter_append, h1, List.filter_cons, ← hg i hi, hf, h2]
  rfl
theorem Answer_eq (p : PPaths) (n : Int) (a : PAddr) (d : List UInt8) : F_impl_Answer p n a d = F_spec_Answer p n a d := by
  simp only [F_impl_Answer, F_spec_Answer, PathsOk_eq, l1In_within, candS, F_bytes_Equal, F_spec_l1Same, eqS_mk]
  have hr := candAt_range p a
  rcases Bool.eq_false_or_eq_true (sPa p) with h1 | h1
  rotate_left
  · simp only [h1, cond_false]
  simp only [h1, cond_true]
  by_cases h0 : candAt p a < 0
  · simp only [decide_eq_true h0, cond_true, cond_false]
    cases F_impl_within n 0 1000000 <;> rfl
  · simp only [decide_eq_false h0, cond_true, cond_false]
    have hi : (candAt p a).toNat < p.Cands.length := by omega
    have hk : findF (fun c : PCand => decide (c.A.Host = a.Host) && decide (c.A.Port = a.Port)) p.Cands = (((candAt p a).toNat : Nat) : Int) := by show candAt p a = _; omega
    have hp := findF_hit (z := z_PCand) hk
    have hu : (p.Cands.take p.Cands.length).filter (fun c : PCand => !(decide (c.A.Host = a.Host) && decide (c.A.Port = a.Port))) = p.Cands.take (candAt p a).toNat ++ p.Cands.drop (candAt p a + 1).toNat := by
      rw [List.take_length, show (candAt p a + 1).toNat = (candAt p a).toNat + 1 by omega]
      refine filter_unique (z := z_PCand) hi (by rw [hp]; rfl) fun j hj hne => ?_
      simp only [Bool.and_eq_true, decide_eq_true_eq] at hp
      rcases Nat.lt_or_gt_of_ne hne with hlt | hgt
      · have := sPa_iff h1 _ j hi hlt
        unfold sPaJ at this
        rw [hp.1, hp.2] at this
        exact this
      · have := sPa_iff h1 j _ hj hgt
        unfold sPaJ at this
        rw [hp.1, hp.2] at this
        simp only [Bool.not_eq_true', Bool.and_eq_false_iff, decide_eq_false_iff_not] at this ⊢
        rcases this with h | h
        · exact .inl fun q => h q.symm
        · exact .inr fun q => h q.symm
    rw [hu, show decide ((p.Cands.getD (candAt p a).toNat z_PCand).Draw = d) = decide (d = (p.Cands.getD (candAt p a).toNat z_PCand).Draw) from decide_eq_decide.2 ⟨Eq.symm, Eq.symm⟩]
theorem at_self (a : PAddr) : (decide (a.Host = a.Host) && decide (a.Port = a.Port)) = true := by simp
theorem ans_bad {p : PPaths} {n : Int} {a : PAddr} {d : List UInt8} (h : (F_impl_Answer p n a d).2 = false) : (F_impl_Answer p n a d).1 = p := by
  revert h
  unfold F_impl_Answer
  cases iPa p <;> cases F_impl_within n 0 1000000 <;> cases decide (candAt p a < 0) <;> cases F_bytes_Equal d ((p.Cands.getD (candAt p a).toNat z_PCand).Draw) <;> cases decide ((p.Cands.getD (candAt p a).toNat z_PCand).Until < n) <;> simp
theorem eqS_sym (x y : List UInt8) : F_bytes_Equal x y = F_laws_same y x := by
  simp only [F_bytes_Equal, F_laws_same, eqS_mk]
  exact decide_eq_decide.2 ⟨Eq.symm, Eq.symm⟩
theorem ans_good {p : PPaths} {n : Int} {a : PAddr} {d : List UInt8} (h : (F_impl_Answer p n a d).2 = true) : (F_impl_CandOf p a).2 = true ∧ F_laws_same (F_impl_CandOf p a).1.Draw d = true ∧ decide ((F_impl_CandOf p a).1.Until < n) = false ∧ (F_impl_Answer p n a d).1.At = a := by
  revert h
  unfold F_impl_Answer F_impl_CandOf
  cases iPa p
  · intro h; cases h
  cases F_impl_within n 0 1000000
  · intro h; cases h
  cases decide (candAt p a < 0)
  rotate_left
  · intro h; cases h
  cases h4 : F_bytes_Equal d ((p.Cands.getD (candAt p a).toNat z_PCand).Draw)
  · intro h; cases h
  cases h5 : decide ((p.Cands.getD (candAt p a).toNat z_PCand).Until < n)
  rotate_left
  · intro h; cases h
  intro _
  exact ⟨rfl, (eqS_sym _ _).symm.trans h4, h5, rfl⟩
theorem mvR_t (e : PPaths × Int) : mvR e = true := by
  obtain ⟨q, t⟩ := e
  have hg : allN (mvG (q, t)) (F_impl_PathTick q t).Cands.length = true := allN_iff.2 fun j hj => by
    unfold mvG
    cases h1 : iPa q
    · rfl
    cases h2 : decide (0 ≤ t)
    · rfl
    cases h3 : decide (t ≤ 1000000)
    · rfl
    have hw : F_impl_within t 0 1000000 = true := by simp only [F_impl_within, h2, h3, cond_true]
    have hT : F_impl_PathTick q t = F_impl_withoutExpired q t := by simp only [F_impl_PathTick, h1, hw, cond_true]
    have h4 : decide (((F_impl_PathTick q t).Cands.getD j z_PCand).Until < t) = false := by
      refine decide_eq_false ?_
      have hm : (F_impl_PathTick q t).Cands.getD j z_PCand ∈ (F_impl_PathTick q t).Cands := by
        simp only [List.getD_eq_getElem?_getD, List.getElem?_eq_getElem hj, Option.getD_some]
        exact List.getElem_mem hj
      rw [hT] at hm ⊢
      have h5 := of_decide_eq_true (List.mem_filter.1 hm).2
      exact Int.not_lt.2 h5
    simp only [h4, cond_true, cond_false]
  have ha : (F_impl_PathTick q t).At = q.At := by
    unfold F_impl_PathTick
    cases iPa q <;> cases F_impl_within t 0 1000000 <;> rfl
  have hl : (F_impl_PathTick q t).Cands.length ≤ q.Cands.length := by
    unfold F_impl_PathTick
    cases iPa q <;> cases F_impl_within t 0 1000000 <;> simp only [cond_true, cond_false, Nat.le_refl]
    exact Nat.le_trans (List.length_filter_le _ _) (List.length_take_le _ _)
  simp only [mvR, hg, ha, at_self, cond_true]
  exact decide_eq_true (by omega)
theorem law_FnMoves (x : List UInt8) (d : PPaths × Int × PAddr × List UInt8) (e : PPaths × Int) (_ : True) (_ : True) : mvLaw x d e = true := by
  obtain ⟨p, n, a, b⟩ := d
  unfold mvLaw
  cases F_laws_big x
  · simp only [cond_false, ← Answer_eq, beq_self_eq_true, cond_true, mvR_t]
    cases h : (F_impl_Answer p n a b).2
    · rw [ans_bad h]
      simp
    · obtain ⟨g1, g2, g3, g4⟩ := ans_good h
      simp [g1, g2, g3, g4]
  · rfl
end Go.Proofs.Ytdbjmgkiccfhcaa.K
