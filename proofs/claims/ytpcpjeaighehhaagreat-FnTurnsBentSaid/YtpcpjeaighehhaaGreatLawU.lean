/- The plain side of FnTurnsBent. -/
import Derived.Test.YtpcpjeaighehhaaGreatWu7
namespace Go.Proofs.YtpcpjeaighehhaaGreat.K
set_option linter.unusedSimpArgs false
set_option linter.unusedVariables false
theorem l1In_within : s_l1In = i_within := rfl
theorem eqI_self (x : List Int) : eqI x x = true := by simp [eqI]
theorem bit_eq (w : PWin) (n : Int) : i_hasBit w n = s_l8Bit w n := by
  have h : n % 1024 % 32 = n % 32 := by omega
  simp only [i_hasBit, s_l8Bit, h]
theorem WinOk_eq (w : PWin) : iWin w = sWin w := by
  have hb : i_hasBit w = s_l8Bit w := funext (bit_eq w)
  simp only [iWin, sWin, l1In_within, hb, areW]
  cases h1 : i_within w.Top (-1) 281474976710655 <;> cases h2 : allW w.Bits <;> by_cases h3 : (w.Bits.length : Int) = 32 <;> simp [h3]
  have := impl_within_t h1
  cases h4 : s_l8Bit w w.Top <;> by_cases h5 : w.Top = -1 <;> by_cases h6 : 0 ≤ w.Top <;> simp [h5, h6] <;> omega
theorem EpOk_eq (e : PEp) : i_EpOk e = s_EpOk e := by
  simp only [i_EpOk, s_EpOk, l1In_within, WinOk_eq]
theorem len0 {α : Type} (l : List α) : ((l.length : Nat) : Int) = 0 ↔ l = [] := by
  cases l with
  | nil => simp
  | cons a l => simp; omega
theorem none_eq (e : PEp) : i_sameEp e { N := 0, Key := [], Seq := 0, Win := { Top := 0, Bits := [] : PWin } : PEp } = s_l14None e := by
  simp only [i_sameEp, s_l14None, b_Equal, eqS_mk, eqI, len0]
theorem isRole_eq (n : Int) : i_isRole n = s_l1In n 0 1 := by
  simp only [i_isRole, s_l1In, cond_eq_ite]
  by_cases h0 : n = 0 <;> by_cases h1 : n = 1 <;> by_cases h2 : 0 ≤ n <;> by_cases h3 : n ≤ 1 <;> simp_all <;> omega
theorem ChanOk_eq (c : PChan) : i_ChanOk c = s_ChanOk c := by
  simp only [i_ChanOk, s_ChanOk, i_oldOk, isRole_eq, i_isNonce, EpOk_eq, none_eq, l1In_within, i_within, cond_eq_ite]
  grind
theorem copy_eq (c : PChan) : i_copyChan c = s_l14Copy c := by
  simp [i_copyChan, s_l14Copy, s_l14Ep, s_l9Copy, s_l8Copy, i_copyEp, i_copyWin]
theorem EpNew_eq (n : Int) (k : List UInt8) : i_EpNew n k = s_EpNew n k := by simp only [i_EpNew, s_EpNew, l1In_within, i_WinNew, winNew]
theorem Turn_eq (c : PChan) : i_Turn c = s_Turn c := by simp only [i_Turn, s_Turn, ChanOk_eq, copy_eq, EpNew_eq]
theorem HearRekey_eq (c : PChan) (u : Int) (p : List UInt8) : i_HearRekey c u p = s_HearRekey c u p := by
  simp only [i_HearRekey, s_HearRekey, ChanOk_eq, copy_eq, Turn_eq, l1In_within, show ∀ n, i_RekeyBody n = s_RekeyBody n from fun _ => rfl, show ∀ a b, b_Equal a b = s_l1Same a b from fun _ _ => rfl]
  by_cases h : u = c.Cur.N
  · subst h
    simp only [decide_true, cond_true, show decide (c.Cur.N = c.Cur.N - 1) = false from decide_eq_false (by omega), cond_false]
  · simp only [decide_eq_false h, cond_false]
theorem Want_eq (c : PChan) : i_Want c = s_Want c := by simp only [i_Want, s_Want, ChanOk_eq, copy_eq]
theorem same_self (x : List UInt8) : l_same x x = true := by simp [l_same, eqS_mk]
theorem sameWin_self (w : PWin) : l_sameWin w w = true := by simp [l_sameWin, eqI_self]
theorem sameEp_self (e : PEp) : l_sameEp e e = true := by simp [l_sameEp, same_self, sameWin_self]
theorem sameChan_self (c : PChan) : l_sameChan c c = true := by simp [l_sameChan, same_self, sameEp_self]
theorem derive32 {k : List UInt8} (h : (k.length : Int) = 32) : ((derive k rekey).length : Int) = 32 := by
  have h1 := (derive_le k rekey).2
  rw [rekey, strB_mk] at h1
  simp only [List.length_cons, List.length_nil] at h1
  rw [rekey]
  omega
theorem win_new : iWin i_WinNew = true := by
  have hb : ∀ m, i_hasBit i_WinNew m = false := fun m => by
    have h0 : ∀ j, (List.replicate 32 (0 : Int)).getD j 0 = 0 := fun j => by
      rw [List.getD_eq_getElem?_getD, List.getElem?_replicate]
      split <;> rfl
    simp only [i_hasBit, i_WinNew, h0]
    rw [Int.zero_ediv]
    rfl
  have hn : noneIn (i_hasBit i_WinNew) (i_WinNew.Top + 1) 1024 = true := (noneIn_iff _ _ _).2 fun m _ _ => hb m
  have ha : areW i_WinNew.Bits 32 = true := by decide
  have hi : i_within i_WinNew.Top (-1) 281474976710655 = true := by decide
  have ht : decide (i_WinNew.Top = -1) = true := by decide
  simp only [iWin, hi, ha, hn, ht, cond_true, Bool.true_or]
theorem epNew_ok {n : Int} {k : List UInt8} (h0 : 0 ≤ n) (h1 : n ≤ 4294967295) (h2 : (k.length : Int) = 32) : i_EpNew n k = { N := n, Key := k, Seq := 0, Win := i_WinNew : PEp } ∧ i_EpOk (i_EpNew n k) = true := by
  have hw : i_within n 0 4294967295 = true := by simp only [i_within, decide_eq_true h0, decide_eq_true h1, cond_true]
  have he : i_EpNew n k = { N := n, Key := k, Seq := 0, Win := i_WinNew : PEp } := by simp only [i_EpNew, hw, decide_eq_true h2, cond_true]
  refine ⟨he, ?_⟩
  rw [he]
  simp only [i_EpOk, hw, decide_eq_true h2, win_new, cond_true]
  rfl
theorem want_good {a : PChan} (h : (i_Want a).2 = true) : i_ChanOk (i_Want a).1 = true ∧ decide (0 ≤ leadsP a.Cur.Key (i_Want a).1.Next 1) = true := by
  revert h
  unfold i_Want
  cases h1 : i_ChanOk a
  · intro h; cases h
  cases h2 : decide (a.Role = 0)
  · intro h; cases h
  cases h3 : decide (0 < (a.Next.length : Int))
  rotate_left
  · intro h; cases h
  cases h4 : decide (a.Cur.N = 4294967295)
  rotate_left
  · intro h; cases h
  intro _
  have hc := impl_ChanOk_t h1
  have h1' := h1
  simp only [i_ChanOk, Bool.cond_false_right, Bool.and_eq_true] at h1'
  have hk := (impl_EpOk_t h1'.2.2.1).2.2.1
  have hd := derive32 (k := a.Cur.Key) (by omega)
  have h4' := of_decide_eq_false h4
  refine ⟨?_, decide_eq_true ?_⟩
  · simp only [cond_true, cond_false]
    have ho : i_oldOk { Role := a.Role, Sn := a.Sn, Cur := a.Cur, Old := a.Old, HasOld := a.HasOld, Until := a.Until, Next := derive a.Cur.Key rekey : PChan } = true := h1'.2.2.2.1
    have e0 : decide (((derive a.Cur.Key rekey).length : Int) = 0) = false := decide_eq_false (by omega)
    show i_ChanOk { Role := a.Role, Sn := a.Sn, Cur := a.Cur, Old := a.Old, HasOld := a.HasOld, Until := a.Until, Next := derive a.Cur.Key rekey : PChan } = true
    unfold i_ChanOk
    simp only [ho, h1'.1, h1'.2.1, h1'.2.2.1, h2, e0, decide_eq_true hd, cond_true, cond_false]
    exact decide_eq_true (by omega)
  · simp only [cond_true, cond_false]
    show 0 ≤ leadsP a.Cur.Key (derive a.Cur.Key rekey) 1
    rw [leadsP_y (by decide) (by decide)]
    have hch : chain a.Cur.Key 1 = derive a.Cur.Key rekey := chain_t (i := 1) (by decide) (by decide) rfl
    show 0 ≤ firstI (fun i => decide (chain a.Cur.Key i = derive a.Cur.Key rekey)) 0 2
    cases hq : decide (chain a.Cur.Key ((0 : Nat) : Int) = derive a.Cur.Key rekey)
    · rw [firstI_next (p := fun i => decide (chain a.Cur.Key i = derive a.Cur.Key rekey)) hq, firstI_here (p := fun i => decide (chain a.Cur.Key i = derive a.Cur.Key rekey)) (decide_eq_true hch)]
      decide
    · rw [firstI_here (p := fun i => decide (chain a.Cur.Key i = derive a.Cur.Key rekey)) hq]
      decide
theorem want_bad {a : PChan} (h : (i_Want a).2 = false) : (i_Want a).1 = a := by
  revert h
  unfold i_Want
  cases i_ChanOk a <;> cases decide (a.Role = 0) <;> cases decide (0 < (a.Next.length : Int)) <;> cases decide (a.Cur.N = 4294967295) <;> simp
theorem turn_good {b : PChan} (h : (i_Turn b).2 = true) : i_ChanOk (i_Turn b).1 = true ∧ (i_Turn b).1.Cur.N = b.Cur.N + 1 ∧ (i_Turn b).1.Old = b.Cur := by
  revert h
  unfold i_Turn
  cases h1 : i_ChanOk b
  · intro h; cases h
  cases h2 : decide (b.Role = 1)
  · intro h; cases h
  cases h4 : decide (b.Cur.N = 4294967295)
  rotate_left
  · intro h; cases h
  intro _
  have hc := impl_ChanOk_t h1
  have h1' := h1
  simp only [i_ChanOk, Bool.cond_false_right, Bool.and_eq_true] at h1'
  have hk := (impl_EpOk_t h1'.2.2.1).2.2.1
  have hd := derive32 (k := b.Cur.Key) (by omega)
  have h4' := of_decide_eq_false h4
  have h2' := of_decide_eq_true h2
  have hx := h1'.2.2.2.2
  obtain ⟨he, hep⟩ := epNew_ok (n := b.Cur.N + 1) (k := derive b.Cur.Key rekey) (by omega) (by omega) hd
  have heN : (i_EpNew (b.Cur.N + 1) (derive b.Cur.Key rekey)).N = b.Cur.N + 1 := by rw [he]
  have hn0 : decide ((b.Next.length : Int) = 0) = true := by
    cases hz : decide ((b.Next.length : Int) = 0)
    · rw [hz, decide_eq_false (show ¬ b.Role = 0 by omega)] at hx
      cases hx
    · rfl
  refine ⟨?_, heN, rfl⟩
  simp only [cond_true, cond_false]
  show i_ChanOk { Role := b.Role, Sn := b.Sn, Cur := i_EpNew (b.Cur.N + 1) (derive b.Cur.Key rekey), Old := b.Cur, HasOld := true, Until := -1, Next := b.Next : PChan } = true
  have ho : i_oldOk { Role := b.Role, Sn := b.Sn, Cur := i_EpNew (b.Cur.N + 1) (derive b.Cur.Key rekey), Old := b.Cur, HasOld := true, Until := -1, Next := b.Next : PChan } = true := by
    unfold i_oldOk
    simp only [cond_true, h1'.2.2.1, heN, decide_eq_true (show b.Cur.N = b.Cur.N + 1 - 1 by omega), h2, show i_within (-1) 0 1000005 = false by decide, cond_false, decide_true]
  unfold i_ChanOk
  simp only [ho, hep, h1'.1, h1'.2.1, hn0, cond_true]
theorem turn_bad {b : PChan} (h : (i_Turn b).2 = false) : (i_Turn b).1 = b := by
  revert h
  unfold i_Turn
  cases i_ChanOk b <;> cases decide (b.Role = 1) <;> cases decide (b.Cur.N = 4294967295) <;> simp
theorem hear_good {c : PChan} {u : Int} {p : List UInt8} (h : (i_HearRekey c u p).2 = 0) : (i_HearRekey c u p).1.Cur.N = u + 1 := by
  revert h
  unfold i_HearRekey
  cases h1 : i_ChanOk c
  · intro h; cases h
  cases h2 : decide (c.Role = 1)
  · intro h; cases h
  cases h3 : i_within u 0 4294967294
  · intro h; cases h
  cases h4 : b_Equal p (i_RekeyBody (u + 1))
  · intro h; cases h
  cases h5 : decide (u = c.Cur.N - 1)
  rotate_left
  · intro _
    have := of_decide_eq_true h5
    show c.Cur.N = u + 1
    omega
  cases h6 : decide (u = c.Cur.N)
  · intro h; cases h
  cases h7 : (i_Turn c).2
  · intro h; cases h
  intro _
  have := of_decide_eq_true h6
  show (i_Turn c).1.Cur.N = u + 1
  rw [(turn_good h7).2.1, this]
theorem hear_bad {c : PChan} {u : Int} {p : List UInt8} (h : ¬ (i_HearRekey c u p).2 = 0) : (i_HearRekey c u p).1 = c := by
  revert h
  unfold i_HearRekey
  cases i_ChanOk c <;> cases decide (c.Role = 1) <;> cases i_within u 0 4294967294 <;> cases b_Equal p (i_RekeyBody (u + 1)) <;> cases decide (u = c.Cur.N - 1) <;> cases decide (u = c.Cur.N) <;> cases (i_Turn c).2 <;> simp
theorem law_FnTurnsBent (x : List UInt8) (a b : PChan) (d : PChan × Int × List UInt8) (_ : True) (_ : True) (_ : True) : l_FnTurnsBent x a b d = true := by
  obtain ⟨c, u, p⟩ := d
  have hW : ((i_Want a).2 = true ∧ i_ChanOk (i_Want a).1 = true ∧ decide (0 ≤ leadsP a.Cur.Key (i_Want a).1.Next 1) = true) ∨ ((i_Want a).2 = false ∧ l_sameChan (i_Want a).1 a = true ∧ True) := by
    cases h : (i_Want a).2
    · exact .inr ⟨rfl, by rw [want_bad h]; exact sameChan_self a, trivial⟩
    · exact .inl ⟨rfl, want_good h⟩
  have hT : ((i_Turn b).2 = true ∧ i_ChanOk (i_Turn b).1 = true ∧ decide ((i_Turn b).1.Cur.N = b.Cur.N + 1) = true ∧ l_sameEp (i_Turn b).1.Old b.Cur = true) ∨ ((i_Turn b).2 = false ∧ l_sameChan (i_Turn b).1 b = true ∧ True ∧ True) := by
    cases h : (i_Turn b).2
    · exact .inr ⟨rfl, by rw [turn_bad h]; exact sameChan_self b, trivial, trivial⟩
    · exact .inl ⟨rfl, (turn_good h).1, decide_eq_true (turn_good h).2.1, by rw [(turn_good h).2.2]; exact sameEp_self _⟩
  have hH : (decide ((i_HearRekey c u p).2 = 0) = true ∧ decide ((i_HearRekey c u p).1.Cur.N = u + 1) = true) ∨ (decide ((i_HearRekey c u p).2 = 0) = false ∧ l_sameChan (i_HearRekey c u p).1 c = true) := by
    by_cases h : (i_HearRekey c u p).2 = 0
    · exact .inl ⟨decide_eq_true h, decide_eq_true (hear_good h)⟩
    · exact .inr ⟨decide_eq_false h, by rw [hear_bad h]; exact sameChan_self c⟩
  unfold l_FnTurnsBent
  cases l_big x
  · simp only [cond_false, ← Want_eq, ← Turn_eq, ← HearRekey_eq, beq_self_eq_true, decide_true, cond_true]
    rcases hW with ⟨w1, w2, w3⟩ | ⟨w1, w2, w3⟩ <;> rcases hT with ⟨t1, t2, t3, t4⟩ | ⟨t1, t2, t3, t4⟩ <;> rcases hH with ⟨h1, h2⟩ | ⟨h1, h2⟩ <;> simp only [w1, w2, w3, t1, t2, t3, t4, h1, h2, cond_true, cond_false]
  · rfl
end Go.Proofs.YtpcpjeaighehhaaGreat.K
