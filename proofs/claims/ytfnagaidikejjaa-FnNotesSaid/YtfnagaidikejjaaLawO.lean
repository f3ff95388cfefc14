/- The plain side of FnNotes. -/
import Derived.Test.YtfnagaidikejjaaWo4
namespace Go.Proofs.Ytfnagaidikejjaa.K
set_option linter.unusedSimpArgs false
set_option linter.unusedVariables false
set_option maxRecDepth 10000
theorem l1In_within : s_l1In = i_within := rfl
theorem AddrOk_eq (a : PAddr) : i_AddrOk a = s_AddrOk a := by
  simp only [i_AddrOk, s_AddrOk, l1In_within, cond_eq_ite]
  try grind
theorem emptyOr_eq (x : List UInt8) (n : Int) : i_emptyOr x n = s_l18Len (x.length : Int) n := by
  simp only [i_emptyOr, s_l18Len, cond_eq_ite]
  try grind
theorem NoteOk_eq (n : PNote) : i_NoteOk n = s_NoteOk n := by
  simp only [i_NoteOk, s_NoteOk, l1In_within, AddrOk_eq, emptyOr_eq]
  cases i_within n.Kind 1 17 <;> cases i_within n.Id 0 9 <;> simp
  cases i_within n.Role 0 1 <;> simp
  cases i_within n.Epoch 0 4294967295 <;> simp
  cases i_within n.Seq 0 281474976710655 <;> simp
  cases s_l18Len (n.Cn.length : Int) 12 <;> simp
  cases s_l18Len (n.Sn.length : Int) 12 <;> simp
  cases s_l18Len (n.Key.length : Int) 32 <;> simp
  cases i_within n.Now 0 1000000 <;> simp
theorem SameNote_eq (a b : PNote) : i_SameNote a b = s_SameNote a b := by
  simp only [i_SameNote, s_SameNote, b_Equal, s_l1Same, eqS_mk, cond_eq_ite]
  grind
theorem same_self (a : PNote) : i_SameNote a a = true := by
  simp [i_SameNote, b_Equal, eqS_mk]
theorem same_sym (a b : PNote) : i_SameNote b a = i_SameNote a b := by
  simp only [i_SameNote, b_Equal, eqS_mk, cond_eq_ite]
  grind
theorem pick_f (l : List PNote) (k : Int) : i_Pick l k = l.filter (fun n : PNote => decide (n.Kind = k)) := by
  unfold i_Pick
  rw [List.take_length]
theorem pick_at {d : List PNote × Int} {i : Nat} (hi : i < d.1.length) (h : decide ((d.1.getD i z_PNote).Kind = d.2) = true) : ntK d i < (i_Pick d.1 d.2).length ∧ (i_Pick d.1 d.2).getD (ntK d i) z_PNote = d.1.getD i z_PNote := by
  rw [pick_f]
  have e : d.1.getD i z_PNote = d.1[i] := by simp only [List.getD_eq_getElem?_getD, List.getElem?_eq_getElem hi, Option.getD_some]
  rw [e] at h ⊢
  have hs : d.1 = d.1.take i ++ d.1[i] :: d.1.drop (i + 1) := by rw [← List.drop_eq_getElem_cons hi, List.take_append_drop]
  have hf : d.1.filter (fun n : PNote => decide (n.Kind = d.2)) = (d.1.take i).filter (fun n : PNote => decide (n.Kind = d.2)) ++ d.1[i] :: (d.1.drop (i + 1)).filter (fun n : PNote => decide (n.Kind = d.2)) := by
    conv => lhs; rw [hs]
    rw [List.filter_append, List.filter_cons, if_pos h]
  rw [hf]
  unfold ntK
  refine ⟨by simp, ?_⟩
  simp [List.getD_eq_getElem?_getD, List.getElem?_append_right]
theorem ntG_t (d : List PNote × Int) : allN (ntG d) d.1.length = true := allN_iff.2 fun i hi => by
  unfold ntG
  cases h : decide ((d.1.getD i z_PNote).Kind = d.2)
  · rfl
  · obtain ⟨h1, h2⟩ := pick_at hi h
    rw [decide_eq_false (show ¬ ((i_Pick d.1 d.2).length : Int) ≤ ((ntK d i : Nat) : Int) by omega), Int.toNat_natCast, h2, same_self]
    rfl
theorem names : ∀ a b : Fin 20, (bif eqS (i_NoteName ((a.val : Nat) : Int)) (ByteArray.mk ([] : List UInt8).toArray) then true else (bif eqS (i_NoteName ((a.val : Nat) : Int)) (i_NoteName ((b.val : Nat) : Int)) then decide (((a.val : Nat) : Int) = ((b.val : Nat) : Int)) else true)) = true := by decide +kernel
theorem ntS_t (x : List UInt8) : ntS x = true := by
  have h1 : 0 ≤ l_at x 2 % 20 ∧ l_at x 2 % 20 < 20 := by omega
  have h2 : 0 ≤ l_at x 3 % 20 ∧ l_at x 3 % 20 < 20 := by omega
  have h3 := names ⟨(l_at x 2 % 20).toNat, by omega⟩ ⟨(l_at x 3 % 20).toNat, by omega⟩
  rwa [Int.toNat_of_nonneg h1.1, Int.toNat_of_nonneg h2.1] at h3
theorem law_FnNotes (x : List UInt8) (d : List PNote × Int) (e : PNote × PNote) (f : PNote) (_ : True) (_ : True) (_ : True) : ntLaw x d e f = true := by
  have hk : ((ntK d d.1.length : Nat) : Int) = ((i_Pick d.1 d.2).length : Int) := by
    rw [pick_f]; unfold ntK; rw [List.take_length]
  unfold ntLaw
  cases l_big x
  · simp only [cond_false, ntG_t, cond_true, ntT, hk, decide_true, same_self, ← SameNote_eq, ← NoteOk_eq, beq_self_eq_true, same_sym e.1 e.2, ntS_t]
  · rfl
end Go.Proofs.Ytfnagaidikejjaa.K
