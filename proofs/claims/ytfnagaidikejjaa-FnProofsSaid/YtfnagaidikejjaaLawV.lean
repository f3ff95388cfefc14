/- The plain side of FnProofs. -/
import Derived.Test.YtfnagaidikejjaaWp6
namespace Go.Proofs.Ytfnagaidikejjaa.K
set_option linter.unusedSimpArgs false
set_option linter.unusedVariables false
set_option maxRecDepth 10000
theorem l1In_within : s_l1In = i_within := rfl
theorem len0 {α : Type} (l : List α) : ((l.length : Nat) : Int) = 0 ↔ l = [] := by
  cases l with
  | nil => simp
  | cons a l => simp; omega
theorem Sealed_eq (k : Int) : s_Sealed k = i_Sealed k := rfl
theorem bodyOk_eq (k n : Int) : i_bodyOk k n = s_l7Body k n := rfl
theorem same_eq (f g : PFrame) : i_sameFrame f g = decide (f = g) := by
  obtain ⟨a1, a2, a3, a4, a5, a6, a7, a8, a9, a10, a11⟩ := f
  obtain ⟨b1, b2, b3, b4, b5, b6, b7, b8, b9, b10, b11⟩ := g
  rw [Bool.eq_iff_iff]
  simp only [i_sameFrame, Bool.cond_false_right, Bool.and_eq_true, b_Equal, eqS_mk, decide_eq_true_eq, PFrame.mk.injEq]
  grind
theorem FrameOk_eq (f : PFrame) : i_FrameOk f = s_FrameOk f := by
  rw [Bool.eq_iff_iff]
  obtain ⟨a1, a2, a3, a4, a5, a6, a7, a8, a9, a10, a11⟩ := f
  simp only [i_FrameOk, s_FrameOk, Bool.cond_false_right, same_eq, Sealed_eq, i_Sealed, i_isNonce, l1In_within, bodyOk_eq, PFrame.mk.injEq]
  simp only [i_within, cond_eq_ite, Bool.and_eq_true, decide_eq_true_eq, len0]
  grind
theorem ProofBody_eq (i : Int) (c s : List UInt8) (t : Int) (k : List UInt8) : i_ProofBody i c s t k = s_ProofBody i c s t k := by
  simp only [i_ProofBody, s_ProofBody, l1In_within, i_isNonce, joinB, putN4]
  simp
theorem Proof_eq (p : List UInt8) (i : Int) (c s : List UInt8) (t : Int) (k : List UInt8) : i_Proof p i c s t k = s_Proof p i c s t k := by
  simp only [i_Proof, s_Proof, ProofBody_eq, show i_FinishKey p = s_FinishKey p from rfl]
theorem ProofOk_eq (p : List UInt8) (f : PFrame) : i_ProofOk p f = s_ProofOk p f := by
  simp only [i_ProofOk, s_ProofOk, Proof_eq, FrameOk_eq, show ∀ a b, i_SameTag a b = s_SameTag a b from fun _ _ => rfl]
  cases decide (f.Kind = 3) <;> cases s_FrameOk f <;> rfl
theorem cookie_t {f : PFrame} (h : i_FrameOk f = true) (h2 : f.Kind = 2) : f.Proof = [] ∧ f.Epoch = 0 ∧ f.Seq = 0 ∧ f.Body = [] ∧ f.Tag = [] := by
  obtain ⟨a1, a2, a3, a4, a5, a6, a7, a8, a9, a10, a11⟩ := f
  simp only at h2
  subst h2
  simp only [i_FrameOk, same_eq, Bool.cond_false_right, show decide ((2 : Int) = 1) = false from rfl, decide_true, cond_true, cond_false, Bool.and_eq_true, decide_eq_true_eq, PFrame.mk.injEq] at h
  grind
theorem FinishOf_eq (p : List UInt8) (i : Int) (f : PFrame) : i_FinishOf p i f = s_FinishOf p i f := by
  simp only [i_FinishOf, s_FinishOf, Proof_eq, ← FrameOk_eq]
  cases h1 : decide (f.Kind = 2) <;> cases h2 : i_FrameOk f <;> try rfl
  obtain ⟨e1, e2, e3, e4, e5⟩ := cookie_t h2 (of_decide_eq_true h1)
  rw [e2, e3, e4, e5]
theorem same_self (x : List UInt8) : l_same x x = true := by simp [l_same, eqS_mk]
theorem sameFrame_self (f : PFrame) : l_sameFrame f f = true := by simp [l_sameFrame, same_self]
theorem Proof_len (p : List UInt8) (i : Int) (c s : List UInt8) (t : Int) (k : List UInt8) : (i_Proof p i c s t k).length = 0 ∨ ((i_Proof p i c s t k).length = 16 ∧ i_within i 1 9 = true ∧ i_isNonce c = true ∧ i_isNonce s = true ∧ i_within t 0 1000000 = true ∧ (k.length : Int) = 16) := by
  unfold i_Proof
  cases decide (((i_FinishKey p).length : Int) = 0)
  rotate_left
  · exact .inl rfl
  cases h : decide (((i_ProofBody i c s t k).length : Int) = 0)
  rotate_left
  · exact .inl rfl
  simp only [cond_false]
  have h1 := of_decide_eq_false h
  rcases tagP_len (i_FinishKey p) (i_ProofBody i c s t k) with h2 | h2
  · exact .inl h2
  · right
    refine ⟨h2, ?_⟩
    unfold i_ProofBody at h1
    revert h1
    cases i_within i 1 9
    · intro h1; exact absurd rfl h1
    cases i_isNonce c
    · intro h1; exact absurd rfl h1
    cases i_isNonce s
    · intro h1; exact absurd rfl h1
    cases i_within t 0 1000000
    · intro h1; exact absurd rfl h1
    cases hk : decide ((k.length : Int) = 16)
    · intro h1; exact absurd rfl h1
    intro _
    exact ⟨rfl, rfl, rfl, rfl, of_decide_eq_true hk⟩
theorem by8_ne {k : Int} (h1 : 1 ≤ k) (h2 : k ≤ 255) : by8 k ≠ 0 := fun h => by
  have h3 : (by8 k).toNat = 0 := by rw [h]; rfl
  unfold by8 at h3
  rw [UInt8.toNat_ofNat'] at h3
  omega
theorem bent_ne (x b : List UInt8) (h : 0 < b.length) : l_bent x b ≠ b := fun he => by
  unfold l_bent at he
  rw [decide_eq_true (show 0 < (b.length : Int) by omega), cond_true] at he
  have hm : 0 ≤ ((l_at x 2) * 256 + l_at x 3) % (b.length : Int) ∧ ((l_at x 2) * 256 + l_at x 3) % (b.length : Int) < (b.length : Int) := ⟨Int.emod_nonneg _ (by omega), Int.emod_lt_of_pos _ (by omega)⟩
  revert he hm
  generalize ((l_at x 2) * 256 + l_at x 3) % (b.length : Int) = m
  intro he hm
  have h1 := congrArg (fun l => l.getD m.toNat 0) he
  have hi : m.toNat < b.length := by omega
  simp only [List.getD_eq_getElem?_getD, List.getElem?_set_self hi, List.getElem?_eq_getElem hi, Option.getD_some] at h1
  have h2 : by8 (1 + l_at x 4 % 255) = 0 := by
    have h3 := congrArg (fun y => b[m.toNat] ^^^ y) h1
    simpa [← UInt8.xor_assoc] using h3
  exact by8_ne (by omega) (by omega) h2
theorem law_FnProofs (x : List UInt8) (d : List UInt8 × Int × PFrame) (e : List UInt8 × PFrame) (_ : True) (_ : True) : l_FnProofs x d e = true := by
  obtain ⟨p, i, f⟩ := d
  unfold l_FnProofs
  cases l_big x
  rotate_left
  · rfl
  simp only [cond_false, ← FinishOf_eq, ← ProofOk_eq, beq_self_eq_true, cond_true, sameFrame_self]
  have hz : i_ProofOk p { Kind := 0, Id := 0, Cn := [], Sn := [], Tick := 0, Cookie := [], Proof := [], Epoch := 0, Seq := 0, Body := [], Tag := [] : PFrame } = false := rfl
  cases h1 : decide (f.Kind = 2)
  · have e1 : i_FinishOf p i f = ({ Kind := 0, Id := 0, Cn := [], Sn := [], Tick := 0, Cookie := [], Proof := [], Epoch := 0, Seq := 0, Body := [], Tag := [] : PFrame }, false) := by simp only [i_FinishOf, h1, cond_false]
    rw [e1, hz]; rfl
  cases h2 : i_FrameOk f
  · have e1 : i_FinishOf p i f = ({ Kind := 0, Id := 0, Cn := [], Sn := [], Tick := 0, Cookie := [], Proof := [], Epoch := 0, Seq := 0, Body := [], Tag := [] : PFrame }, false) := by simp only [i_FinishOf, h1, h2, cond_true, cond_false]
    rw [e1, hz]; rfl
  cases h3 : decide (((i_Proof p i f.Cn f.Sn f.Tick f.Cookie).length : Int) = 0)
  rotate_left
  · have e1 : i_FinishOf p i f = ({ Kind := 0, Id := 0, Cn := [], Sn := [], Tick := 0, Cookie := [], Proof := [], Epoch := 0, Seq := 0, Body := [], Tag := [] : PFrame }, false) := by simp only [i_FinishOf, h1, h2, h3, cond_true, cond_false]
    rw [e1, hz]; rfl
  have e1 : i_FinishOf p i f = ({ Kind := 3, Id := i, Cn := f.Cn, Sn := f.Sn, Tick := f.Tick, Cookie := f.Cookie, Proof := i_Proof p i f.Cn f.Sn f.Tick f.Cookie, Epoch := 0, Seq := 0, Body := [], Tag := [] : PFrame }, true) := by simp only [i_FinishOf, h1, h2, h3, cond_true, cond_false]
  have h4 := of_decide_eq_false h3
  obtain ⟨p1, p2, p3, p4, p5, p6⟩ := (Proof_len p i f.Cn f.Sn f.Tick f.Cookie).resolve_left (by omega)
  rw [e1]
  have hP : ∀ q : List UInt8, (q.length : Int) = 16 → i_FrameOk { Kind := 3, Id := i, Cn := f.Cn, Sn := f.Sn, Tick := f.Tick, Cookie := f.Cookie, Proof := q, Epoch := 0, Seq := 0, Body := [], Tag := [] : PFrame } = true := fun q hq => by
    simp only [i_FrameOk, show decide ((3 : Int) = 1) = false from rfl, show decide ((3 : Int) = 2) = false from rfl, decide_true, cond_true, cond_false, p2, p3, p4, p5, decide_eq_true p6, decide_eq_true hq, same_eq]
  have hd : decide (diffP (i_Proof p i f.Cn f.Sn f.Tick f.Cookie) (i_Proof p i f.Cn f.Sn f.Tick f.Cookie) = 0) = true := decide_eq_true ((diffP_zero _ _).2 rfl)
  have hq : i_ProofOk p { Kind := 3, Id := i, Cn := f.Cn, Sn := f.Sn, Tick := f.Tick, Cookie := f.Cookie, Proof := i_Proof p i f.Cn f.Sn f.Tick f.Cookie, Epoch := 0, Seq := 0, Body := [], Tag := [] : PFrame } = true := by
    simp only [i_ProofOk, decide_true, cond_true, hP _ (show ((i_Proof p i f.Cn f.Sn f.Tick f.Cookie).length : Int) = 16 by omega), i_SameTag, hd, decide_eq_true (show ((i_Proof p i f.Cn f.Sn f.Tick f.Cookie).length : Int) = 16 by omega)]
  have hb : decide (diffP (l_bent x (i_Proof p i f.Cn f.Sn f.Tick f.Cookie)) (i_Proof p i f.Cn f.Sn f.Tick f.Cookie) = 0) = false := decide_eq_false fun h => bent_ne x _ (by omega) ((diffP_zero _ _).1 h)
  have hn : i_ProofOk p { Kind := 3, Id := i, Cn := f.Cn, Sn := f.Sn, Tick := f.Tick, Cookie := f.Cookie, Proof := l_bent x (i_Proof p i f.Cn f.Sn f.Tick f.Cookie), Epoch := 0, Seq := 0, Body := [], Tag := [] : PFrame } = false := by
    simp only [i_ProofOk, decide_true, cond_true, i_SameTag, hb, Bool.cond_false_right, Bool.and_false]
  simp only [cond_true, hP _ (show ((i_Proof p i f.Cn f.Sn f.Tick f.Cookie).length : Int) = 16 by omega), decide_true, same_self, hq, hn, Bool.not_false]
end Go.Proofs.Ytfnagaidikejjaa.K
