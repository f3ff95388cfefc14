/- The run of FnLost, step by step. -/
import Derived.Test.YtacoceibbheccaaTn
namespace Go.Proofs.Ytacoceibbheccaa.K
set_option linter.unusedSimpArgs false
set_option linter.unusedVariables false
set_option maxRecDepth 10000
set_option maxHeartbeats 2000000
def lostA (a : PChan) : PChan := { Role := a.Role, Sn := a.Sn, Cur := { N := a.Cur.N, Key := a.Cur.Key, Seq := a.Cur.Seq + 1 + 1, Win := a.Cur.Win : PEp }, Old := a.Old, HasOld := a.HasOld, Until := a.Until, Next := derive a.Cur.Key rekey : PChan }
def lostB (b : PChan) : PChan := { Role := b.Role, Sn := b.Sn, Cur := { N := b.Cur.N + 1, Key := derive b.Cur.Key rekey, Seq := 1, Win := i_WinNew : PEp }, Old := { N := b.Cur.N, Key := b.Cur.Key, Seq := b.Cur.Seq, Win := (iAdd (iAdd b.Cur.Win 0).1 1).1 : PEp }, HasOld := true, Until := -1, Next := b.Next : PChan }
def lostC (b : PChan) : PChan := { Role := b.Role, Sn := b.Sn, Cur := { N := b.Cur.N + 1, Key := derive b.Cur.Key rekey, Seq := 1 + 1, Win := i_WinNew : PEp }, Old := { N := b.Cur.N, Key := b.Cur.Key, Seq := b.Cur.Seq, Win := (iAdd (iAdd b.Cur.Win 0).1 1).1 : PEp }, HasOld := true, Until := -1, Next := b.Next : PChan }
def lostD (a : PChan) : PChan := { Role := a.Role, Sn := a.Sn, Cur := { N := a.Cur.N + 1, Key := derive a.Cur.Key rekey, Seq := 0, Win := (iAdd i_WinNew 1).1 : PEp }, Old := (lostA a).Cur, HasOld := true, Until := 1 + 5, Next := [] : PChan }
def dataF (a : PChan) (p : List UInt8) : PFrame := sealF (derive a.Cur.Key rekey) 1 a.Sn (a.Cur.N + 1) 1 4 p
theorem lost_eqs {x : List UInt8} {d : PChan × PChan × PFrame × PFrame × Bool} (hc : x.length ≤ 1048576) (h : TurnP x d) : ∃ A B C D F G, i_AskRekey d.1 = (A, F, 0) ∧ i_ChanOpen d.2.1 1 F = (B, i_RekeyBody (0 + 1), 0) ∧ i_HearRekey B F.Epoch (i_RekeyBody (0 + 1)) = (B, 0) ∧ i_ChanSeal B 4 (x.take (((x.length : Int) % 8).toNat)) = (C, G, 0) ∧ i_ChanOpen A 1 G = (D, x.take (((x.length : Int) % 8).toNat), 0) ∧ C.Cur.N = 1 ∧ D.Cur.N = 1 ∧ ((D.Next.length : Nat) : Int) = 0 ∧ D.Cur.Key = C.Cur.Key ∧ d.2.2.2.2 = true := by
  obtain ⟨p, hp, rfl⟩ := h
  have B := (pair_both hc hp).1
  have pa := chan_parts B.oa
  have pb := chan_parts B.ob
  have ka := (epOk_iff _).1 pa.2.2.1
  have kb := (epOk_iff _).1 pb.2.2.1
  have hd4 : ∀ q : List UInt8, q.length ≤ 40 → i_bodyOk 4 (q.length : Int) = true := fun q hq => by
    show decide ((q.length : Int) ≤ 40) = true
    exact decide_eq_true (by omega)
  have hdl : (x.take (((x.length : Int) % 8).toNat)).length ≤ 40 := by rw [List.length_take]; omega
  revert hdl
  generalize x.take (((x.length : Int) % 8).toNat) = q
  intro hdl
  have e1 : i_AskRekey (askA p.1) = (lostA p.1, sealF p.1.Cur.Key 0 p.1.Sn 0 1 7 (i_RekeyBody (0 + 1)), 0) := by
    have e := ask_t (c := askA p.1) (askA_ok B (by decide)) B.ra (derive32 ka.2.1) (by show p.1.Cur.Seq + 1 < _; rw [B.sq]; decide) (by show p.1.Cur.N < _; rw [B.na]; decide)
    rw [e]
    show (lostA p.1, sealF p.1.Cur.Key 0 p.1.Sn p.1.Cur.N (p.1.Cur.Seq + 1) 7 (i_RekeyBody (p.1.Cur.N + 1)), (0 : Int)) = _
    rw [B.na, B.sq]
    rfl
  have hm0 : i_WinMay p.2.Cur.Win 0 = true := by rw [B.win]; exact may_new win_new (by decide) (by decide) (by decide)
  have hm1 : i_WinMay (iAdd p.2.Cur.Win 0).1 1 = true := may_new (add_ok hm0).2 (by decide) (by decide) (by rw [add_top hm0, B.win]; decide)
  have oB := (acked B (by decide)).2
  have e2 : i_ChanOpen (ackB p.2) 1 (sealF p.1.Cur.Key 0 p.1.Sn 0 1 7 (i_RekeyBody (0 + 1))) = (lostB p.2, i_RekeyBody (0 + 1), 0) := by
    have e := open_old (c := ackB p.2) (now := 1) (s := 1) (k := 7) (p := i_RekeyBody (0 + 1)) oB rfl (.inl rfl) (by decide) (by decide) (by decide) (body_ok (by decide) (by decide) (.inl rfl)) hm1
    have hf : sealF (ackB p.2).Old.Key (1 - (ackB p.2).Role) (ackB p.2).Sn (ackB p.2).Old.N 1 7 (i_RekeyBody (0 + 1)) = sealF p.1.Cur.Key 0 p.1.Sn 0 1 7 (i_RekeyBody (0 + 1)) := by
      show sealF p.2.Cur.Key (1 - p.2.Role) p.2.Sn p.2.Cur.N 1 7 _ = _
      rw [B.rb, B.key, B.sn, B.nb]
      rfl
    rw [hf] at e
    exact e
  have oL : i_ChanOk (lostB p.2) = true := by
    have hq := chan_parts oB
    have ho := ((oldOk_iff _).1 hq.2.2.2.1).resolve_right (fun q => Bool.noConfusion (show true = false from q.1))
    exact (chanOk_iff _).2 ⟨hq.1, hq.2.1, hq.2.2.1, (oldOk_iff _).2 (.inl ⟨rfl, epOpen_ok ho.2.1 hm1, ho.2.2.1, .inr ⟨rfl, B.rb⟩⟩), hq.2.2.2.2⟩
  have e3 : i_HearRekey (lostB p.2) 0 (i_RekeyBody (0 + 1)) = (lostB p.2, 0) := by
    have he : b_Equal (i_RekeyBody (0 + 1)) (i_RekeyBody (0 + 1)) = true := by simp [b_Equal, eqS_mk]
    have h1 : decide ((lostB p.2).Role = 1) = true := decide_eq_true B.rb
    have h2 : decide ((0 : Int) = (lostB p.2).Cur.N - 1) = true := decide_eq_true (by show (0 : Int) = p.2.Cur.N + 1 - 1; rw [B.nb]; rfl)
    simp only [i_HearRekey, oL, h1, show i_within 0 0 4294967294 = true from rfl, he, h2, cond_true]
  have e4 : i_ChanSeal (lostB p.2) 4 q = (lostC p.2, dataF p.1 q, 0) := by
    have e := chanSeal_t (c := lostB p.2) (k := 4) (p := q) oL (show (1 : Int) < 281474976709656 by decide) (by decide) (by decide) (hd4 q hdl)
    rw [e]
    refine Prod.ext rfl (Prod.ext ?_ rfl)
    show sealF (derive p.2.Cur.Key rekey) p.2.Role p.2.Sn (p.2.Cur.N + 1) 1 4 q = _
    unfold dataF
    rw [B.rb, B.key, B.sn, B.nb, B.na]
  have oA : i_ChanOk (lostA p.1) = true := chanSeal_ok (c := askA p.1) (askA_ok B (by decide)) (by show p.1.Cur.Seq + 1 < _; rw [B.sq]; decide)
  have e5 : i_ChanOpen (lostA p.1) 1 (dataF p.1 q) = (lostD p.1, q, 0) := by
    have e := open_next (c := lostA p.1) (now := 1) (s := 1) (k := 4) (p := q) oA (derive32 ka.2.1) (by decide) (by decide) (by decide) (hd4 q hdl) (by decide) win_new
    have hf : sealF (lostA p.1).Next (1 - (lostA p.1).Role) (lostA p.1).Sn ((lostA p.1).Cur.N + 1) 1 4 q = dataF p.1 q := by
      show sealF (derive p.1.Cur.Key rekey) (1 - p.1.Role) p.1.Sn (p.1.Cur.N + 1) 1 4 q = _
      rw [B.ra]
      rfl
    rw [hf] at e
    exact e
  have eE : (sealF p.1.Cur.Key 0 p.1.Sn 0 1 7 (i_RekeyBody (0 + 1))).Epoch = 0 := rfl
  exact ⟨lostA p.1, lostB p.2, lostC p.2, lostD p.1, sealF p.1.Cur.Key 0 p.1.Sn 0 1 7 (i_RekeyBody (0 + 1)), dataF p.1 q, e1, e2, e3, e4, e5, by show p.2.Cur.N + 1 = 1; rw [B.nb]; rfl, by show p.1.Cur.N + 1 = 1; rw [B.na]; rfl, rfl, by show derive p.1.Cur.Key rekey = derive p.2.Cur.Key rekey; rw [B.key], rfl⟩
end Go.Proofs.Ytacoceibbheccaa.K
