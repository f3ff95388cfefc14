/- The run of FnGrace, step by step. -/
import Derived.Test.YtacoceibbheccaaWm6
import Derived.Test.YtacoceibbheccaaTm
namespace Go.Proofs.Ytacoceibbheccaa.K
set_option linter.unusedSimpArgs false
set_option linter.unusedVariables false
set_option maxRecDepth 10000
set_option maxHeartbeats 2000000
theorem eqI_self (x : List Int) : eqI x x = true := by simp [eqI]
theorem sameS (x : List UInt8) : l_same x x = true := by simp [l_same, eqS_mk]
theorem sameWin_self (w : PWin) : l_sameWin w w = true := by simp [l_sameWin, eqI_self]
theorem sameEp_self (e : PEp) : l_sameEp e e = true := by simp [l_sameEp, sameS, sameWin_self]
theorem sameC (c : PChan) : l_sameChan c c = true := by simp [l_sameChan, sameS, sameEp_self]
def tickZ (c : PChan) : PChan := { Role := c.Role, Sn := c.Sn, Cur := c.Cur, Old := { N := 0, Key := [], Seq := 0, Win := { Top := 0, Bits := [] : PWin } : PEp }, HasOld := false, Until := 0, Next := c.Next : PChan }
theorem grace_eqs {x : List UInt8} {d : PChan × PChan} {e : PChan × PChan × PFrame × PFrame × Bool} (hc : x.length ≤ 1048576) (h1 : PairP x d) (h2 : TurnP x e) : ∃ S G X F, e.2.2.2.2 = true ∧ i_ChanSeal d.2 4 ([7] : List UInt8) = (S, G, 0) ∧ i_ChanOpen e.1 (l_at x 2) e.2.2.2.1 = (X, i_RekeyBody (0 + 1), 0) ∧ i_Seal d.2.Cur.Key 1 d.2.Sn 0 9 4 ([8] : List UInt8) = (F, true) ∧ X.Until = l_at x 2 + 5 ∧ G.Epoch = 0 ∧
    (l_at x 2 + 5 < l_at x 2 + l_at x 3 % 10 → i_ChanOpen X (l_at x 2 + l_at x 3 % 10) F = (X, [], 9) ∧ l_sameChan X X = true ∧ ∃ Z, i_ChanTick X (l_at x 2 + l_at x 3 % 10) = Z ∧ i_ChanOpen Z (l_at x 2 + l_at x 3 % 10) F = (Z, [], 8) ∧ Z.HasOld = false ∧ i_Oldest Z = 1 ∧ (((i_KeysOf Z).length : Nat) : Int) = 1) ∧
    (¬ l_at x 2 + 5 < l_at x 2 + l_at x 3 % 10 → ∃ Y, i_ChanOpen X (l_at x 2 + l_at x 3 % 10) F = (Y, [8], 0) ∧ i_ChanTick X (l_at x 2 + l_at x 3 % 10) = X ∧ l_sameChan X X = true ∧ i_Oldest X = 0) := by
  obtain ⟨p, hp, rfl⟩ := h2
  have hdp := pair_same hp h1
  subst hdp
  have B := (pair_both hc hp).1
  have hf := pair_form hc hp
  have q1 : p.2.Cur.Seq = 0 := by rw [hf]; rfl
  have q2 : p.1.Cur.Win = i_WinNew := by rw [hf]; rfl
  clear hf
  have ht := at_b x 2
  have hu := at_b x 3
  revert ht hu
  generalize l_at x 2 = t
  generalize l_at x 3 = s0
  intro ht hu
  have hs : 0 ≤ s0 % 10 ∧ s0 % 10 ≤ 9 := by omega
  revert hs
  generalize s0 % 10 = s
  intro hs
  have pa := chan_parts B.oa
  have pb := chan_parts B.ob
  have ka := (epOk_iff _).1 pa.2.2.1
  have kb := (epOk_iff _).1 pb.2.2.1
  have NB := next_both (now := t) B (by decide) (by omega)
  have oX := NB.oa
  have pX := chan_parts oX
  have hn : 0 ≤ t + s ∧ t + s ≤ 1000000 := by omega
  have e2 := chanSeal_t (c := p.2) (k := 4) (p := [7]) B.ob (by rw [q1]; decide) (by decide) (by decide) rfl
  have e3 := told (now := t) B (by decide) (by omega)
  have e4 := seal_t (key := p.2.Cur.Key) (r := 1) (sn := p.2.Sn) (e := 0) (s := 9) (k := 4) (p := [8]) kb.2.1 (.inr rfl) (by decide) (by decide) pb.2.1 (by decide) (by decide) rfl
  have u3 := (unseal_t (key := p.2.Cur.Key) (r := 1) (sn := p.2.Sn) (e := 0) (s := 9) (k := 4) (p := [8]) kb.2.1 (.inr rfl) (by decide) (by decide) pb.2.1 (by decide) (by decide) rfl).2.2
  have nX : (nextA p.1 t 0).Cur.N = 1 := by show p.1.Cur.N + 1 = 1; rw [B.na]; rfl
  refine ⟨_, _, nextA p.1 t 0, sealF p.2.Cur.Key 1 p.2.Sn 0 9 4 [8], rfl, e2, e3, e4, rfl, B.nb, fun hl => ?_, fun hl => ?_⟩
  · have oZ : i_ChanOk (tickZ (nextA p.1 t 0)) = true := (chanOk_iff _).2 ⟨pX.1, pX.2.1, pX.2.2.1, (oldOk_iff _).2 (.inr ⟨rfl, by simp [tickZ, i_sameEp, b_Equal, eqS_mk, eqI], rfl⟩), .inl rfl⟩
    refine ⟨open_stale _ oX hn u3 ⟨(show (4 : Int) ≤ 4 by decide), (show (4 : Int) ≤ 8 by decide)⟩ B.sn rfl (by show (0 : Int) = p.1.Cur.N; rw [B.na]) (by show ¬ t + 5 = -1; omega) hl, sameC _, tickZ (nextA p.1 t 0), ?_, open_none _ oZ hn u3 ⟨(show (4 : Int) ≤ 4 by decide), (show (4 : Int) ≤ 8 by decide)⟩ B.sn rfl (by show ¬ (0 : Int) = (nextA p.1 t 0).Cur.N; rw [nX]; decide) rfl, rfl, ?_, ?_⟩
    · have h1 : decide ((nextA p.1 t 0).Until = -1) = false := decide_eq_false (by show ¬ t + 5 = -1; omega)
      have h2 : decide ((nextA p.1 t 0).Until < t + s) = true := decide_eq_true hl
      simp only [i_ChanTick, oX, in_t hn.1 hn.2, show (nextA p.1 t 0).HasOld = true from rfl, h1, h2, cond_true, cond_false]
      rfl
    · simp only [i_Oldest, oZ, show (tickZ (nextA p.1 t 0)).HasOld = false from rfl, cond_true, cond_false]
      exact nX
    · simp only [i_KeysOf, oZ, show (tickZ (nextA p.1 t 0)).HasOld = false from rfl, show decide (0 < (((tickZ (nextA p.1 t 0)).Next.length : Nat) : Int)) = false from rfl, cond_true, cond_false]
      rfl
  · have hm : i_WinMay (nextA p.1 t 0).Old.Win 9 = true := by
      show i_WinMay p.1.Cur.Win 9 = true
      rw [q2]
      exact may_new win_new (by decide) (by decide) (by decide)
    have e := open_old (c := nextA p.1 t 0) (now := t + s) (s := 9) (k := 4) (p := [8]) oX rfl (.inr (by show t + s ≤ t + 5; omega)) hn (by decide) (by decide) rfl hm
    have hF : sealF (nextA p.1 t 0).Old.Key (1 - (nextA p.1 t 0).Role) (nextA p.1 t 0).Sn (nextA p.1 t 0).Old.N 9 4 [8] = sealF p.2.Cur.Key 1 p.2.Sn 0 9 4 [8] := by
      show sealF p.1.Cur.Key (1 - p.1.Role) p.1.Sn p.1.Cur.N 9 4 [8] = _
      rw [B.ra, B.na, B.key, B.sn]
      rfl
    rw [hF] at e
    refine ⟨_, e, ?_, sameC _, ?_⟩
    · have h2 : decide ((nextA p.1 t 0).Until < t + s) = false := decide_eq_false hl
      simp only [i_ChanTick, oX, in_t hn.1 hn.2, show (nextA p.1 t 0).HasOld = true from rfl, h2, cond_true, cond_false]
      cases decide ((nextA p.1 t 0).Until = -1) <;> rfl
    · simp only [i_Oldest, oX, show (nextA p.1 t 0).HasOld = true from rfl, cond_true]
      exact B.na
end Go.Proofs.Ytacoceibbheccaa.K
