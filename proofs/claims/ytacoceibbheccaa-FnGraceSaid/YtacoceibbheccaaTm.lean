/- What one end of a session seals the other end opens; windows and ends stay right. -/
import Derived.Test.YtacoceibbheccaaWm5
namespace Go.Proofs.Ytacoceibbheccaa.K
set_option linter.unusedSimpArgs false
set_option linter.unusedVariables false
set_option maxRecDepth 10000
theorem len0 {α : Type} (l : List α) : ((l.length : Nat) : Int) = 0 ↔ l = [] := by
  cases l with
  | nil => simp
  | cons a l => simp; omega
theorem in_t {n a b : Int} (h1 : a ≤ n) (h2 : n ≤ b) : i_within n a b = true := by simp only [i_within, decide_eq_true h1, decide_eq_true h2, cond_true]
theorem role_t {r : Int} (h : r = 0 ∨ r = 1) : i_isRole r = true := by
  rcases h with rfl | rfl <;> rfl
theorem same_eq (f g : PFrame) : i_sameFrame f g = decide (f = g) := by
  obtain ⟨a1, a2, a3, a4, a5, a6, a7, a8, a9, a10, a11⟩ := f
  obtain ⟨b1, b2, b3, b4, b5, b6, b7, b8, b9, b10, b11⟩ := g
  rw [Bool.eq_iff_iff]
  simp only [i_sameFrame, Bool.cond_false_right, Bool.and_eq_true, b_Equal, eqS_mk, decide_eq_true_eq, PFrame.mk.injEq]
  grind
section frame
variable {k e s r : Int} {sn b t p key : List UInt8}
theorem body40 (h : i_bodyOk k (b.length : Int) = true) : b.length ≤ 40 := by
  simp only [i_bodyOk, cond_eq_ite, decide_eq_true_eq] at h
  (repeat' split at h) <;> (have hq := of_decide_eq_true h; omega)
theorem frame_ok (h4 : 4 ≤ k) (h8 : k ≤ 8) (hs : (sn.length : Int) = 12) (he : 0 ≤ e ∧ e ≤ 4294967295) (hq : 0 ≤ s ∧ s ≤ 281474976710655) (ht : (t.length : Int) = 16) (hb : i_bodyOk k (b.length : Int) = true) :
    i_FrameOk { Kind := k, Id := 0, Cn := [], Sn := sn, Tick := 0, Cookie := [], Proof := [], Epoch := e, Seq := s, Body := b, Tag := t : PFrame } = true := by
  have h5 : i_Sealed k = true := in_t h4 h8
  simp only [i_FrameOk, decide_eq_false (show ¬ k = 1 by omega), decide_eq_false (show ¬ k = 2 by omega), decide_eq_false (show ¬ k = 3 by omega), cond_false, h5, i_isNonce, decide_eq_true hs, in_t he.1 he.2, in_t hq.1 hq.2, decide_eq_true ht, hb, cond_true, same_eq, decide_true]
theorem tag_in (hr : r = 0 ∨ r = 1) (h4 : 4 ≤ k) (h8 : k ≤ 8) (hs : (sn.length : Int) = 12) (he : 0 ≤ e ∧ e ≤ 4294967295) (hq : 0 ≤ s ∧ s ≤ 281474976710655) (ht : (t.length : Int) = 16) (hb : i_bodyOk k (b.length : Int) = true) :
    i_TagInput r { Kind := k, Id := 0, Cn := [], Sn := sn, Tick := 0, Cookie := [], Proof := [], Epoch := e, Seq := s, Body := b, Tag := t : PFrame } = joinB [([116] : List UInt8), headOf r sn e s, ([by8 k] : List UInt8), b] := by
  have h5 : i_Sealed k = true := in_t h4 h8
  simp only [i_TagInput, role_t hr, h5, frame_ok h4 h8 hs he hq ht hb, cond_true]
/-- what Seal makes -/
def sealF (key : List UInt8) (r : Int) (sn : List UInt8) (e s k : Int) (p : List UInt8) : PFrame := { Kind := k, Id := 0, Cn := [], Sn := sn, Tick := 0, Cookie := [], Proof := [], Epoch := e, Seq := s, Body := mixB key (headOf r sn e s) p, Tag := tagP key (joinB [([116] : List UInt8), headOf r sn e s, ([by8 k] : List UInt8), mixB key (headOf r sn e s) p]) : PFrame }
theorem mix_len (hk : (key.length : Int) = 32) (hb : i_bodyOk k (p.length : Int) = true) : (mixB key (headOf r sn e s) p).length = p.length := by
  have h1 := mixB_len key (headOf r sn e s) p
  have h2 := headOf_len r sn e s
  have h3 := body40 hb
  omega
theorem tag16 (hk : (key.length : Int) = 32) (hb : i_bodyOk k (p.length : Int) = true) : ((tagP key (joinB [([116] : List UInt8), headOf r sn e s, ([by8 k] : List UInt8), mixB key (headOf r sn e s) p])).length : Int) = 16 := by
  have h2 := headOf_len r sn e s
  have h3 := body40 hb
  have h4 := mix_len (r := r) (sn := sn) (e := e) (s := s) hk hb
  have h5 : (joinB [([116] : List UInt8), headOf r sn e s, ([by8 k] : List UInt8), mixB key (headOf r sn e s) p]).length ≤ 100 := by
    simp only [joinB, List.flatten_cons, List.flatten_nil, List.length_append, List.length_cons, List.length_nil]; omega
  have h6 := hmac_len (key := key) (b := joinB [([116] : List UInt8), headOf r sn e s, ([by8 k] : List UInt8), mixB key (headOf r sn e s) p]) (by omega) (by omega)
  unfold tagP
  rw [List.length_take, h6]
  rfl
theorem seal_t (hk : (key.length : Int) = 32) (hr : r = 0 ∨ r = 1) (h4 : 4 ≤ k) (h8 : k ≤ 8) (hs : (sn.length : Int) = 12) (he : 0 ≤ e ∧ e ≤ 4294967295) (hq : 0 ≤ s ∧ s ≤ 281474976710655) (hb : i_bodyOk k (p.length : Int) = true) :
    i_Seal key r sn e s k p = (sealF key r sn e s k p, true) := by
  have h5 : i_Sealed k = true := in_t h4 h8
  have h6 := mix_len (r := r) (sn := sn) (e := e) (s := s) hk hb
  have hl : ((List.replicate 16 (0 : UInt8)).length : Int) = 16 := by rw [List.length_replicate]; rfl
  simp only [i_Seal, decide_eq_true hk, role_t hr, h5, frame_ok h4 h8 hs he hq hl hb, cond_true]
  rw [tag_in (b := mixB key (headOf r sn e s) p) hr h4 h8 hs he hq hl (by rw [h6]; exact hb)]
  rfl
theorem unseal_t (hk : (key.length : Int) = 32) (hr : r = 0 ∨ r = 1) (h4 : 4 ≤ k) (h8 : k ≤ 8) (hs : (sn.length : Int) = 12) (he : 0 ≤ e ∧ e ≤ 4294967295) (hq : 0 ≤ s ∧ s ≤ 281474976710655) (hb : i_bodyOk k (p.length : Int) = true) :
    i_TagInput r (sealF key r sn e s k p) = joinB [([116] : List UInt8), headOf r sn e s, ([by8 k] : List UInt8), mixB key (headOf r sn e s) p] ∧ i_Unseal key r (sealF key r sn e s k p) = (p, true) ∧ i_FrameOk (sealF key r sn e s k p) = true := by
  have h6 := mix_len (r := r) (sn := sn) (e := e) (s := s) hk hb
  have h7 := tag16 (r := r) (sn := sn) (e := e) (s := s) hk hb
  have hb2 : i_bodyOk k ((mixB key (headOf r sn e s) p).length : Int) = true := by rw [h6]; exact hb
  have hi : i_TagInput r (sealF key r sn e s k p) = joinB [([116] : List UInt8), headOf r sn e s, ([by8 k] : List UInt8), mixB key (headOf r sn e s) p] := tag_in hr h4 h8 hs he hq h7 hb2
  refine ⟨hi, ?_, frame_ok h4 h8 hs he hq h7 hb2⟩
  have hd : diffP (tagP key (joinB [([116] : List UInt8), headOf r sn e s, ([by8 k] : List UInt8), mixB key (headOf r sn e s) p])) (tagP key (joinB [([116] : List UInt8), headOf r sn e s, ([by8 k] : List UInt8), mixB key (headOf r sn e s) p])) = 0 := (diffP_zero _ _).2 rfl
  have hn : ¬ ((joinB [([116] : List UInt8), headOf r sn e s, ([by8 k] : List UInt8), mixB key (headOf r sn e s) p]).length : Int) = 0 := by
    simp only [joinB, List.flatten_cons, List.flatten_nil, List.length_append, List.length_cons, List.length_nil]; omega
  have hm := mixB_mixB (key := key) (head := headOf r sn e s) (b := p) (by have := body40 hb; omega) (by have := headOf_len r sn e s; omega) (by omega)
  have h7' : ((sealF key r sn e s k p).Tag.length : Int) = 16 := h7
  have hd' : diffP (sealF key r sn e s k p).Tag (tagP key (joinB [([116] : List UInt8), headOf r sn e s, ([by8 k] : List UInt8), mixB key (headOf r sn e s) p])) = 0 := hd
  simp only [i_Unseal, hi, decide_eq_true hk, decide_eq_false hn, cond_true, cond_false, i_SameTag, decide_eq_true h7', hd', decide_true]
  exact congrArg (fun x => (x, true)) hm
end frame
section win
theorem bit_L (w : PWin) (m : Int) : i_hasBit w m = bitL w.Bits m := rfl
theorem may_new {w : PWin} {n : Int} (hw : iWin w = true) (h0 : 0 ≤ n) (h1 : n ≤ 281474976710655) (ht : w.Top < n) : i_WinMay w n = true := by
  simp only [i_WinMay, hw, in_t h0 h1, decide_eq_true ht, cond_true]
theorem win_parts {w : PWin} (h : iWin w = true) : allW w.Bits = true ∧ w.Bits.length = 32 ∧ -1 ≤ w.Top ∧ w.Top ≤ 281474976710655 ∧ (∀ m : Int, w.Top + 1 ≤ m → m < 1024 → bitL w.Bits m = false) ∧ (w.Top = -1 ∨ bitL w.Bits w.Top = true) := by
  have h0 := iWin_t h
  refine ⟨h0.1, h0.2.1, h0.2.2.1, h0.2.2.2, ?_, ?_⟩
  all_goals
    simp only [iWin, Bool.cond_false_right, Bool.and_eq_true, Bool.or_eq_true, decide_eq_true_eq] at h
  · exact (noneIn_iff _ _ _).1 h.2.2.1
  · exact h.2.2.2
theorem win_of {w : PWin} (h1 : allW w.Bits = true) (h2 : w.Bits.length = 32) (h3 : -1 ≤ w.Top) (h4 : w.Top ≤ 281474976710655) (h5 : ∀ m : Int, w.Top + 1 ≤ m → m < 1024 → bitL w.Bits m = false) (h6 : w.Top = -1 ∨ bitL w.Bits w.Top = true) : iWin w = true := by
  have ha : areW w.Bits 32 = true := by simp only [areW, h1, Bool.true_and]; exact decide_eq_true (by omega)
  have hn : noneIn (i_hasBit w) (w.Top + 1) 1024 = true := (noneIn_iff _ _ _).2 h5
  have ht : (decide (w.Top = -1) || i_hasBit w w.Top) = true := by
    rw [Bool.or_eq_true, decide_eq_true_eq]
    exact h6
  simp only [iWin, in_t h3 h4, ha, hn, ht, cond_true]
theorem add_ok {w : PWin} {n : Int} (h : i_WinMay w n = true) : iAdd w n = ({ Top := if w.Top < n then n else w.Top, Bits := addW w.Bits w.Top n : PWin }, true) ∧ iWin (iAdd w n).1 = true := by
  have e1 : iAdd w n = ({ Top := if w.Top < n then n else w.Top, Bits := addW w.Bits w.Top n : PWin }, true) := by unfold iAdd; rw [h]; rfl
  refine ⟨e1, ?_⟩
  rw [e1]
  have h0 := iMay_t h
  have hw : iWin w = true := by
    cases hq : iWin w with
    | true => rfl
    | false => unfold i_WinMay at h; rw [hq] at h; cases h
  obtain ⟨p1, p2, p3, p4, p5, p6⟩ := win_parts hw
  refine win_of (setB_w (clrN_w p1 _ _) _) (by show (addW w.Bits w.Top n).length = 32; rw [addW, setB_len, clrN_len, p2]) ?_ ?_ ?_ ?_
  · show -1 ≤ (if w.Top < n then n else w.Top); split <;> omega
  · show (if w.Top < n then n else w.Top) ≤ _; split <;> omega
  · intro m hm1 hm2
    replace hm1 : (if w.Top < n then n else w.Top) + 1 ≤ m := hm1
    show bitL (addW w.Bits w.Top n) m = false
    have hm3 : w.Top + 1 ≤ m ∧ n < m := by split at hm1 <;> omega
    rw [bitL_add p1 p2 p3, p5 m hm3.1 hm2, decide_eq_false (show ¬ m % 1024 = n % 1024 by omega)]
    rfl
  · show (if w.Top < n then n else w.Top) = -1 ∨ bitL (addW w.Bits w.Top n) (if w.Top < n then n else w.Top) = true
    right
    rw [bitL_add p1 p2 p3]
    by_cases ht : w.Top < n
    · rw [if_pos ht, decide_eq_true (show n % 1024 = n % 1024 from rfl), Bool.or_true]
    · rw [if_neg ht, if_neg (show ¬ w.Top + 1 < n - 1023 by omega), p6.resolve_left (by omega)]
      have hd : decide ((w.Top - (w.Top + 1)) % 1024 < n - (w.Top + 1)) = false := decide_eq_false (by omega)
      rw [hd]
      rfl
theorem add_top {w : PWin} {n : Int} (h : i_WinMay w n = true) : (iAdd w n).1.Top = if w.Top < n then n else w.Top := by rw [(add_ok h).1]
/-- a number that was taken is not taken again -/
theorem may_again {w : PWin} {n : Int} (h : i_WinMay w n = true) : i_WinMay (iAdd w n).1 n = false := by
  have h0 := iMay_t h
  have hw := (add_ok h).2
  have ht := add_top h
  have hb : i_hasBit (iAdd w n).1 n = true := by
    rw [bit_L, (add_ok h).1]
    show bitL (addW w.Bits w.Top n) n = true
    rw [bitL_add h0.1 h0.2.1 h0.2.2.1, decide_eq_true (show n % 1024 = n % 1024 from rfl), Bool.or_true]
  have hn : ¬ (iAdd w n).1.Top < n := by rw [ht]; split <;> omega
  simp only [i_WinMay, hw, in_t h0.2.2.2.2.1 h0.2.2.2.2.2, decide_eq_false hn, cond_true, cond_false, hb, Bool.not_true]
  cases decide (((iAdd w n).1.Top - 1024) + 1 ≤ n) <;> rfl
end win
section ends
theorem epOk_iff (e : PEp) : i_EpOk e = true ↔ (0 ≤ e.N ∧ e.N ≤ 4294967295) ∧ (e.Key.length : Int) = 32 ∧ (0 ≤ e.Seq ∧ e.Seq ≤ 281474976710656) ∧ iWin e.Win = true := by
  simp only [i_EpOk, i_within, Bool.cond_false_right, Bool.and_eq_true, decide_eq_true_eq]
theorem oldOk_iff (c : PChan) : i_oldOk c = true ↔ (c.HasOld = true ∧ i_EpOk c.Old = true ∧ c.Old.N = c.Cur.N - 1 ∧ ((0 ≤ c.Until ∧ c.Until ≤ 1000005) ∨ (c.Until = -1 ∧ c.Role = 1))) ∨ (c.HasOld = false ∧ i_sameEp c.Old { N := 0, Key := [], Seq := 0, Win := { Top := 0, Bits := [] : PWin } : PEp } = true ∧ c.Until = 0) := by
  simp only [i_oldOk, i_within, cond_eq_ite]
  cases c.HasOld <;> simp
theorem chanOk_iff (c : PChan) : i_ChanOk c = true ↔ (c.Role = 0 ∨ c.Role = 1) ∧ (c.Sn.length : Int) = 12 ∧ i_EpOk c.Cur = true ∧ i_oldOk c = true ∧ ((c.Next.length : Int) = 0 ∨ (c.Role = 0 ∧ (c.Next.length : Int) = 32 ∧ c.Cur.N < 4294967295)) := by
  simp only [i_ChanOk, i_isRole, i_isNonce, cond_eq_ite]
  grind
variable {c : PChan} {ep : PEp} {k e s r now : Int} {sn p key : List UInt8}
theorem epSeal_t (ho : i_EpOk ep = true) (hq : ep.Seq < 281474976709656) (hr : r = 0 ∨ r = 1) (hs : (sn.length : Int) = 12) (h4 : 4 ≤ k) (h8 : k ≤ 8) (hb : i_bodyOk k (p.length : Int) = true) :
    i_EpSeal ep r sn k p = ({ N := ep.N, Key := ep.Key, Seq := ep.Seq + 1, Win := ep.Win : PEp }, sealF ep.Key r sn ep.N ep.Seq k p, 0) := by
  have h := (epOk_iff ep).1 ho
  have e1 := seal_t (e := ep.N) (s := 0) h.2.1 hr h4 h8 hs h.1 ⟨by omega, by omega⟩ hb
  have e2 := seal_t (e := ep.N) (s := ep.Seq) h.2.1 hr h4 h8 hs h.1 ⟨h.2.2.1.1, by omega⟩ hb
  simp only [i_EpSeal, i_EpSeal_j1, ho, e1, e2, cond_true, decide_eq_false (show ¬ 281474976709656 ≤ ep.Seq by omega), decide_eq_false (show ¬ ep.Seq = 281474976710656 by omega), cond_false]
  cases decide (k = 4) <;> rfl
theorem epOpen_t (ho : i_EpOk ep = true) (hq : i_WinMay ep.Win s = true) (hr : r = 0 ∨ r = 1) (hs : (sn.length : Int) = 12) (h4 : 4 ≤ k) (h8 : k ≤ 8) (hb : i_bodyOk k (p.length : Int) = true) :
    i_EpOpen ep r (sealF ep.Key r sn ep.N s k p) = ({ N := ep.N, Key := ep.Key, Seq := ep.Seq, Win := (iAdd ep.Win s).1 : PEp }, p, 0) := by
  have h := (epOk_iff ep).1 ho
  have h0 := iMay_t hq
  obtain ⟨u1, u2, u3⟩ := unseal_t (e := ep.N) (s := s) h.2.1 hr h4 h8 hs h.1 h0.2.2.2.2 hb
  have hn : ¬ ((i_TagInput r (sealF ep.Key r sn ep.N s k p)).length : Int) = 0 := by
    rw [u1]; simp only [joinB, List.flatten_cons, List.flatten_nil, List.length_append, List.length_cons, List.length_nil]; omega
  simp only [i_EpOpen, ho, decide_eq_false hn, u2, cond_true, cond_false, show (sealF ep.Key r sn ep.N s k p).Epoch = ep.N from rfl, show (sealF ep.Key r sn ep.N s k p).Seq = s from rfl, decide_true, (add_ok hq).1]
theorem epOpen_ok (ho : i_EpOk ep = true) (hq : i_WinMay ep.Win s = true) : i_EpOk { N := ep.N, Key := ep.Key, Seq := ep.Seq, Win := (iAdd ep.Win s).1 : PEp } = true :=
  (epOk_iff _).2 ⟨((epOk_iff ep).1 ho).1, ((epOk_iff ep).1 ho).2.1, ((epOk_iff ep).1 ho).2.2.1, (add_ok hq).2⟩
theorem epSeal_ok (ho : i_EpOk ep = true) (hq : ep.Seq < 281474976709656) : i_EpOk { N := ep.N, Key := ep.Key, Seq := ep.Seq + 1, Win := ep.Win : PEp } = true :=
  (epOk_iff _).2 ⟨((epOk_iff ep).1 ho).1, ((epOk_iff ep).1 ho).2.1, ⟨by have := ((epOk_iff ep).1 ho).2.2.1; show 0 ≤ ep.Seq + 1; omega, by show ep.Seq + 1 ≤ _; omega⟩, ((epOk_iff ep).1 ho).2.2.2⟩
theorem chanSeal_t (ho : i_ChanOk c = true) (hq : c.Cur.Seq < 281474976709656) (h4 : 4 ≤ k) (h8 : k ≤ 8) (hb : i_bodyOk k (p.length : Int) = true) :
    i_ChanSeal c k p = ({ Role := c.Role, Sn := c.Sn, Cur := { N := c.Cur.N, Key := c.Cur.Key, Seq := c.Cur.Seq + 1, Win := c.Cur.Win : PEp }, Old := c.Old, HasOld := c.HasOld, Until := c.Until, Next := c.Next : PChan }, sealF c.Cur.Key c.Role c.Sn c.Cur.N c.Cur.Seq k p, 0) := by
  have h := (chanOk_iff c).1 ho
  have e1 := epSeal_t (ep := c.Cur) (k := k) (p := p) h.2.2.1 hq h.1 h.2.1 h4 h8 hb
  simp only [i_ChanSeal, ho, cond_true, e1]
theorem chanSeal_ok (ho : i_ChanOk c = true) (hq : c.Cur.Seq < 281474976709656) : i_ChanOk { Role := c.Role, Sn := c.Sn, Cur := { N := c.Cur.N, Key := c.Cur.Key, Seq := c.Cur.Seq + 1, Win := c.Cur.Win : PEp }, Old := c.Old, HasOld := c.HasOld, Until := c.Until, Next := c.Next : PChan } = true := by
  have h := (chanOk_iff c).1 ho
  exact (chanOk_iff _).2 ⟨h.1, h.2.1, epSeal_ok h.2.2.1 hq, h.2.2.2.1, h.2.2.2.2⟩
theorem open_front (f : PFrame) (ho : i_ChanOk c = true) (hn : 0 ≤ now ∧ now ≤ 1000000) (hf : i_FrameOk f = true) (hk : 4 ≤ f.Kind ∧ f.Kind ≤ 8) (hs : f.Sn = c.Sn) : i_ChanOpen c now f = (bif decide (f.Epoch = c.Cur.N) then i_ChanOpen_j5 c now f else bif bif c.HasOld then decide (f.Epoch = c.Old.N) else false then i_ChanOpen_j5 c now f else bif bif decide (0 < (c.Next.length : Int)) then decide (f.Epoch = c.Cur.N + 1) else false then i_ChanOpen_j5 c now f else (c, [], 8)) := by
  have hd : decide (diffP f.Sn c.Sn = 0) = true := decide_eq_true ((diffP_zero _ _).2 hs)
  have h3 : i_ChanOpen c now f = i_ChanOpen_j3 c now f := by
    simp only [i_ChanOpen, ho, in_t hn.1 hn.2, show i_Sealed f.Kind = true from in_t hk.1 hk.2, hf, cond_true, i_ChanOpen_j2]
    cases c.HasOld <;> cases decide (0 < (c.Next.length : Int)) <;> rfl
  rw [h3]
  simp only [i_ChanOpen_j3, hd, cond_true]
theorem old_not (ho : i_ChanOk c = true) (h : e = c.Cur.N ∨ e = c.Cur.N + 1) : (bif c.HasOld then decide (e = c.Old.N) else false) = false := by
  have h1 := (oldOk_iff c).1 ((chanOk_iff c).1 ho).2.2.2.1
  cases hq : c.HasOld
  · rfl
  · rw [hq] at h1
    simp only [true_and, Bool.true_eq_false, false_and, or_false] at h1
    rw [cond_true]
    exact decide_eq_false (by omega)
theorem next_not (h : e = c.Cur.N) : (bif decide (0 < (c.Next.length : Int)) then decide (e = c.Cur.N + 1) else false) = false := by
  cases decide (0 < (c.Next.length : Int))
  · rfl
  · rw [cond_true]; exact decide_eq_false (by omega)
theorem open_cur (ho : i_ChanOk c = true) (hn : 0 ≤ now ∧ now ≤ 1000000) (h4 : 4 ≤ k) (h8 : k ≤ 8) (hb : i_bodyOk k (p.length : Int) = true) (hq : i_WinMay c.Cur.Win s = true) :
    i_ChanOpen c now (sealF c.Cur.Key (1 - c.Role) c.Sn c.Cur.N s k p) = ({ Role := c.Role, Sn := c.Sn, Cur := { N := c.Cur.N, Key := c.Cur.Key, Seq := c.Cur.Seq, Win := (iAdd c.Cur.Win s).1 : PEp }, Old := c.Old, HasOld := c.HasOld, Until := bif c.HasOld && decide (c.Until = -1) then now + 5 else c.Until, Next := c.Next : PChan }, p, 0) := by
  have h := (chanOk_iff c).1 ho
  have hr : 1 - c.Role = 0 ∨ 1 - c.Role = 1 := by omega
  have h0 := iMay_t hq
  have u3 := (unseal_t (e := c.Cur.N) (s := s) ((epOk_iff _).1 h.2.2.1).2.1 hr h4 h8 h.2.1 ((epOk_iff _).1 h.2.2.1).1 h0.2.2.2.2 hb).2.2
  have e1 := epOpen_t (ep := c.Cur) (k := k) (p := p) h.2.2.1 hq hr h.2.1 h4 h8 hb
  rw [open_front _ ho hn u3 ⟨h4, h8⟩ rfl]
  simp only [show (sealF c.Cur.Key (1 - c.Role) c.Sn c.Cur.N s k p).Epoch = c.Cur.N from rfl, decide_true, cond_true, i_ChanOpen_j5, i_ChanOpen_j6, old_not ho (.inl rfl), next_not (e := c.Cur.N) rfl, cond_false, e1]
  cases c.HasOld <;> cases decide (c.Until = -1) <;> rfl
theorem open_next (ho : i_ChanOk c = true) (hx : (c.Next.length : Int) = 32) (hn : 0 ≤ now ∧ now ≤ 1000000) (h4 : 4 ≤ k) (h8 : k ≤ 8) (hb : i_bodyOk k (p.length : Int) = true) (hq : 0 ≤ s ∧ s ≤ 281474976710655) (hw : iWin i_WinNew = true) :
    i_ChanOpen c now (sealF c.Next (1 - c.Role) c.Sn (c.Cur.N + 1) s k p) = ({ Role := c.Role, Sn := c.Sn, Cur := { N := c.Cur.N + 1, Key := c.Next, Seq := 0, Win := (iAdd i_WinNew s).1 : PEp }, Old := c.Cur, HasOld := true, Until := now + 5, Next := [] : PChan }, p, 0) := by
  have h := (chanOk_iff c).1 ho
  have hc := (epOk_iff _).1 h.2.2.1
  have hr : 1 - c.Role = 0 ∨ 1 - c.Role = 1 := by omega
  have hl : c.Cur.N < 4294967295 := by omega
  have hm := may_new hw hq.1 hq.2 (show i_WinNew.Top < s by show -1 < s; omega)
  have hE : i_EpNew (c.Cur.N + 1) c.Next = { N := c.Cur.N + 1, Key := c.Next, Seq := 0, Win := i_WinNew : PEp } := by
    simp only [i_EpNew, in_t (show 0 ≤ c.Cur.N + 1 by omega) (show c.Cur.N + 1 ≤ 4294967295 by omega), decide_eq_true hx, cond_true]
  have hEo : i_EpOk { N := c.Cur.N + 1, Key := c.Next, Seq := 0, Win := i_WinNew : PEp } = true := (epOk_iff _).2 ⟨⟨by show 0 ≤ c.Cur.N + 1; omega, by show c.Cur.N + 1 ≤ _; omega⟩, hx, ⟨Int.le_refl _, (show (0 : Int) ≤ 281474976710656 by decide)⟩, hw⟩
  have u3 := (unseal_t (e := c.Cur.N + 1) (s := s) hx hr h4 h8 h.2.1 ⟨by omega, by omega⟩ hq hb).2.2
  have e1 := epOpen_t (ep := { N := c.Cur.N + 1, Key := c.Next, Seq := 0, Win := i_WinNew : PEp }) (k := k) (p := p) hEo hm hr h.2.1 h4 h8 hb
  rw [open_front _ ho hn u3 ⟨h4, h8⟩ rfl]
  have hne : decide (c.Cur.N + 1 = c.Cur.N) = false := decide_eq_false (by omega)
  have hpos : decide (0 < (c.Next.length : Int)) = true := decide_eq_true (by omega)
  simp only [show (sealF c.Next (1 - c.Role) c.Sn (c.Cur.N + 1) s k p).Epoch = c.Cur.N + 1 from rfl, hne, hpos, cond_true, cond_false, i_ChanOpen_j5, i_ChanOpen_j6, old_not (e := c.Cur.N + 1) ho (.inr rfl), decide_true, hE, e1]
theorem open_old (ho : i_ChanOk c = true) (hh : c.HasOld = true) (hu : c.Until = -1 ∨ now ≤ c.Until) (hn : 0 ≤ now ∧ now ≤ 1000000) (h4 : 4 ≤ k) (h8 : k ≤ 8) (hb : i_bodyOk k (p.length : Int) = true) (hq : i_WinMay c.Old.Win s = true) :
    i_ChanOpen c now (sealF c.Old.Key (1 - c.Role) c.Sn c.Old.N s k p) = ({ Role := c.Role, Sn := c.Sn, Cur := c.Cur, Old := { N := c.Old.N, Key := c.Old.Key, Seq := c.Old.Seq, Win := (iAdd c.Old.Win s).1 : PEp }, HasOld := c.HasOld, Until := c.Until, Next := c.Next : PChan }, p, 0) := by
  have h := (chanOk_iff c).1 ho
  have h1 := ((oldOk_iff c).1 h.2.2.2.1).resolve_right (fun q => by rw [hh] at q; exact absurd q.1 (by decide))
  have hr : 1 - c.Role = 0 ∨ 1 - c.Role = 1 := by omega
  have h0 := iMay_t hq
  have u3 := (unseal_t (e := c.Old.N) (s := s) ((epOk_iff _).1 h1.2.1).2.1 hr h4 h8 h.2.1 ((epOk_iff _).1 h1.2.1).1 h0.2.2.2.2 hb).2.2
  have e1 := epOpen_t (ep := c.Old) (k := k) (p := p) h1.2.1 hq hr h.2.1 h4 h8 hb
  rw [open_front _ ho hn u3 ⟨h4, h8⟩ rfl]
  have hne : decide (c.Old.N = c.Cur.N) = false := decide_eq_false (by omega)
  have hst : (bif decide (c.Until = -1) then i_ChanOpen_j6 c now (sealF c.Old.Key (1 - c.Role) c.Sn c.Old.N s k p) else bif decide (c.Until < now) then (c, [], 9) else i_ChanOpen_j6 c now (sealF c.Old.Key (1 - c.Role) c.Sn c.Old.N s k p)) = i_ChanOpen_j6 c now (sealF c.Old.Key (1 - c.Role) c.Sn c.Old.N s k p) := by
    rcases hu with hu | hu
    · rw [decide_eq_true hu]; rfl
    · rw [decide_eq_false (show ¬ c.Until < now by omega)]; cases decide (c.Until = -1) <;> rfl
  simp only [show (sealF c.Old.Key (1 - c.Role) c.Sn c.Old.N s k p).Epoch = c.Old.N from rfl, hne, hh, decide_true, cond_true, cond_false, i_ChanOpen_j5]
  refine (show _ = _ from hst).trans ?_
  simp only [i_ChanOpen_j6, show (sealF c.Old.Key (1 - c.Role) c.Sn c.Old.N s k p).Epoch = c.Old.N from rfl, hh, decide_true, cond_true, e1]
theorem open_stale (f : PFrame) (ho : i_ChanOk c = true) (hn : 0 ≤ now ∧ now ≤ 1000000) (hf : i_FrameOk f = true) (hk : 4 ≤ f.Kind ∧ f.Kind ≤ 8) (hs : f.Sn = c.Sn) (hh : c.HasOld = true) (he : f.Epoch = c.Old.N) (hu : c.Until ≠ -1) (hl : c.Until < now) : i_ChanOpen c now f = (c, [], 9) := by
  have h := (chanOk_iff c).1 ho
  have h1 := ((oldOk_iff c).1 h.2.2.2.1).resolve_right (fun q => by rw [hh] at q; exact absurd q.1 (by decide))
  rw [open_front _ ho hn hf hk hs]
  simp only [decide_eq_false (show ¬ f.Epoch = c.Cur.N by omega), hh, decide_eq_true he, i_ChanOpen_j5, decide_eq_false hu, decide_eq_true hl, cond_true, cond_false]
theorem open_none (f : PFrame) (ho : i_ChanOk c = true) (hn : 0 ≤ now ∧ now ≤ 1000000) (hf : i_FrameOk f = true) (hk : 4 ≤ f.Kind ∧ f.Kind ≤ 8) (hs : f.Sn = c.Sn) (hh : c.HasOld = false) (he : f.Epoch ≠ c.Cur.N) (hx : c.Next = []) : i_ChanOpen c now f = (c, [], 8) := by
  rw [open_front _ ho hn hf hk hs]
  simp only [decide_eq_false he, hh, hx, cond_true, cond_false, List.length_nil]
  rfl
end ends
section round
theorem derive32 {k : List UInt8} (h : (k.length : Int) = 32) : ((derive k rekey).length : Int) = 32 := by
  have h1 := (derive_le k rekey).2
  rw [rekey, strB_mk] at h1
  simp only [List.length_cons, List.length_nil] at h1
  rw [rekey]
  omega
theorem win_new : iWin i_WinNew = true := by
  have hb : ∀ m, i_hasBit i_WinNew m = false := fun m => by
    have h0 : ∀ j, (List.replicate 32 (0 : Int)).getD j 0 = 0 := fun j => by
      rw [List.getD_eq_getElem?_getD, List.getElem?_replicate]
      split <;> rfl
    simp only [i_hasBit, i_WinNew, h0]
    rw [Int.zero_ediv]
    rfl
  have hn : noneIn (i_hasBit i_WinNew) (i_WinNew.Top + 1) 1024 = true := (noneIn_iff _ _ _).2 fun m _ _ => hb m
  have ha : areW i_WinNew.Bits 32 = true := by decide
  have hi : i_within i_WinNew.Top (-1) 281474976710655 = true := by decide
  have ht : decide (i_WinNew.Top = -1) = true := by decide
  simp only [iWin, hi, ha, hn, ht, cond_true, Bool.true_or]
theorem body_len {n : Int} (h0 : 0 ≤ n) (h1 : n ≤ 4294967295) : (i_RekeyBody n).length = 4 := by
  simp only [i_RekeyBody, in_t h0 h1, cond_true, putN4, List.length_append, putK_len, List.length_nil]
theorem body_ok {n k : Int} (h0 : 0 ≤ n) (h1 : n ≤ 4294967295) (hk : k = 7 ∨ k = 8) : i_bodyOk k ((i_RekeyBody n).length : Int) = true := by
  rw [body_len h0 h1]
  rcases hk with rfl | rfl <;> rfl
/-- both ends at an epoch; neither is ahead -/
structure Both (a b : PChan) (n : Int) : Prop where
  oa : i_ChanOk a = true
  ob : i_ChanOk b = true
  ra : a.Role = 0
  rb : b.Role = 1
  sn : b.Sn = a.Sn
  na : a.Cur.N = n
  nb : b.Cur.N = n
  key : b.Cur.Key = a.Cur.Key
  nx : a.Next = []
  sq : a.Cur.Seq = 0
  win : b.Cur.Win = i_WinNew
def wantA (a : PChan) : PChan := { Role := a.Role, Sn := a.Sn, Cur := a.Cur, Old := a.Old, HasOld := a.HasOld, Until := a.Until, Next := derive a.Cur.Key rekey : PChan }
def askA (a : PChan) : PChan := { Role := a.Role, Sn := a.Sn, Cur := { N := a.Cur.N, Key := a.Cur.Key, Seq := a.Cur.Seq + 1, Win := a.Cur.Win : PEp }, Old := a.Old, HasOld := a.HasOld, Until := a.Until, Next := derive a.Cur.Key rekey : PChan }
def hearB (b : PChan) (now : Int) : PChan := { Role := b.Role, Sn := b.Sn, Cur := { N := b.Cur.N, Key := b.Cur.Key, Seq := b.Cur.Seq, Win := (iAdd b.Cur.Win 0).1 : PEp }, Old := b.Old, HasOld := b.HasOld, Until := bif b.HasOld && decide (b.Until = -1) then now + 5 else b.Until, Next := b.Next : PChan }
def turnB (b : PChan) : PChan := { Role := b.Role, Sn := b.Sn, Cur := { N := b.Cur.N + 1, Key := derive b.Cur.Key rekey, Seq := 0, Win := i_WinNew : PEp }, Old := { N := b.Cur.N, Key := b.Cur.Key, Seq := b.Cur.Seq, Win := (iAdd b.Cur.Win 0).1 : PEp }, HasOld := true, Until := -1, Next := b.Next : PChan }
def ackB (b : PChan) : PChan := { Role := b.Role, Sn := b.Sn, Cur := { N := b.Cur.N + 1, Key := derive b.Cur.Key rekey, Seq := 1, Win := i_WinNew : PEp }, Old := { N := b.Cur.N, Key := b.Cur.Key, Seq := b.Cur.Seq, Win := (iAdd b.Cur.Win 0).1 : PEp }, HasOld := true, Until := -1, Next := b.Next : PChan }
def nextA (a : PChan) (now s : Int) : PChan := { Role := a.Role, Sn := a.Sn, Cur := { N := a.Cur.N + 1, Key := derive a.Cur.Key rekey, Seq := 0, Win := (iAdd i_WinNew s).1 : PEp }, Old := { N := a.Cur.N, Key := a.Cur.Key, Seq := a.Cur.Seq + 1, Win := a.Cur.Win : PEp }, HasOld := true, Until := now + 5, Next := [] : PChan }
def askF (a : PChan) (s : Int) : PFrame := sealF a.Cur.Key 0 a.Sn a.Cur.N s 7 (i_RekeyBody (a.Cur.N + 1))
def ackF (a : PChan) : PFrame := sealF (derive a.Cur.Key rekey) 1 a.Sn (a.Cur.N + 1) 0 8 (i_RekeyBody (a.Cur.N + 1))
variable {a b : PChan} {n now s : Int}
theorem chan_parts {c : PChan} (h : i_ChanOk c = true) : (c.Role = 0 ∨ c.Role = 1) ∧ (c.Sn.length : Int) = 12 ∧ i_EpOk c.Cur = true ∧ i_oldOk c = true ∧ ((c.Next.length : Int) = 0 ∨ (c.Role = 0 ∧ (c.Next.length : Int) = 32 ∧ c.Cur.N < 4294967295)) := (chanOk_iff c).1 h
theorem want_t (h : Both a b n) (hn : n < 4294967295) : i_Want a = (wantA a, true) ∧ i_ChanOk (wantA a) = true := by
  have hp := chan_parts h.oa
  have hk := ((epOk_iff _).1 hp.2.2.1).2.1
  have hz : decide (0 < (a.Next.length : Int)) = false := by rw [h.nx]; rfl
  refine ⟨?_, (chanOk_iff _).2 ⟨hp.1, hp.2.1, hp.2.2.1, hp.2.2.2.1, .inr ⟨h.ra, derive32 hk, by show a.Cur.N < _; have := h.na; omega⟩⟩⟩
  simp only [i_Want, h.oa, decide_eq_true h.ra, hz, decide_eq_false (show ¬ a.Cur.N = 4294967295 by have := h.na; omega), cond_true, cond_false]
  rfl
/-- asking, from an end that is ahead; s is its number -/
theorem ask_t {c : PChan} (ho : i_ChanOk c = true) (hr : c.Role = 0) (hx : (c.Next.length : Int) = 32) (hs : c.Cur.Seq < 281474976709656) (hn : c.Cur.N < 4294967295) :
    i_AskRekey c = ({ Role := c.Role, Sn := c.Sn, Cur := { N := c.Cur.N, Key := c.Cur.Key, Seq := c.Cur.Seq + 1, Win := c.Cur.Win : PEp }, Old := c.Old, HasOld := c.HasOld, Until := c.Until, Next := c.Next : PChan }, sealF c.Cur.Key 0 c.Sn c.Cur.N c.Cur.Seq 7 (i_RekeyBody (c.Cur.N + 1)), 0) := by
  have hp := chan_parts ho
  have hk := (epOk_iff _).1 hp.2.2.1
  have e := chanSeal_t (c := c) (k := 7) (p := i_RekeyBody (c.Cur.N + 1)) ho hs (by decide) (by decide) (body_ok (by omega) (by omega) (.inl rfl))
  rw [hr] at e
  have hd : decide ((c.Next.length : Int) = 0) = false := decide_eq_false (by omega)
  simp only [i_AskRekey, ho, hd, e, cond_true, cond_false, hr]
theorem askA_ok (h : Both a b n) (hn : n < 4294967295) : i_ChanOk (askA a) = true := by
  have := chanSeal_ok (c := wantA a) (want_t h hn).2 (by show a.Cur.Seq < _; rw [h.sq]; decide)
  exact this
theorem asked (h : Both a b n) (hn : n < 4294967295) : i_AskRekey (wantA a) = (askA a, askF a 0, 0) := by
  have hp := chan_parts h.oa
  have hk := ((epOk_iff _).1 hp.2.2.1).2.1
  have e := ask_t (c := wantA a) (want_t h hn).2 h.ra (derive32 hk) (by show a.Cur.Seq < _; rw [h.sq]; decide) (by show a.Cur.N < _; have := h.na; omega)
  rw [e]
  show (_, sealF a.Cur.Key 0 a.Sn a.Cur.N a.Cur.Seq 7 _, _) = _
  rw [h.sq]
  rfl
theorem heard1 (h : Both a b n) (hn : n < 4294967295) (ht : 0 ≤ now ∧ now ≤ 1000000) : i_ChanOpen b now (askF a 0) = (hearB b now, i_RekeyBody (n + 1), 0) ∧ i_ChanOk (hearB b now) = true := by
  have hp := chan_parts h.ob
  have hk := (epOk_iff _).1 hp.2.2.1
  have hm : i_WinMay b.Cur.Win 0 = true := by rw [h.win]; exact may_new win_new (by decide) (by decide) (by decide)
  have hN : 0 ≤ n := by have := h.nb; omega
  have e := open_cur (c := b) (k := 7) (p := i_RekeyBody (n + 1)) h.ob ht (by decide) (by decide) (body_ok (by omega) (by omega) (.inl rfl)) hm
  have hf : sealF b.Cur.Key (1 - b.Role) b.Sn b.Cur.N 0 7 (i_RekeyBody (n + 1)) = askF a 0 := by
    unfold askF
    rw [h.rb, h.key, h.sn, h.nb, h.na]
    rfl
  rw [hf] at e
  refine ⟨e, (chanOk_iff _).2 ⟨hp.1, hp.2.1, epOpen_ok hp.2.2.1 hm, ?_, hp.2.2.2.2⟩⟩
  have h1 := (oldOk_iff b).1 hp.2.2.2.1
  refine (oldOk_iff _).2 ?_
  show (b.HasOld = true ∧ i_EpOk b.Old = true ∧ b.Old.N = b.Cur.N - 1 ∧ ((0 ≤ (bif b.HasOld && decide (b.Until = -1) then now + 5 else b.Until) ∧ (bif b.HasOld && decide (b.Until = -1) then now + 5 else b.Until) ≤ 1000005) ∨ ((bif b.HasOld && decide (b.Until = -1) then now + 5 else b.Until) = -1 ∧ b.Role = 1))) ∨ (b.HasOld = false ∧ _ ∧ (bif b.HasOld && decide (b.Until = -1) then now + 5 else b.Until) = 0)
  rcases h1 with ⟨q1, q2, q3, q4⟩ | ⟨q1, q2, q3⟩
  · left
    refine ⟨q1, q2, q3, ?_⟩
    rw [q1, Bool.true_and]
    by_cases hu : b.Until = -1
    · rw [decide_eq_true hu, cond_true]; left; omega
    · rw [decide_eq_false hu, cond_false]; exact q4
  · right
    refine ⟨q1, q2, ?_⟩
    rw [q1, Bool.false_and, cond_false]
    exact q3
theorem noNext {c : PChan} (h : i_ChanOk c = true) (hr : c.Role = 1) : c.Next = [] := by
  have := (chan_parts h).2.2.2.2
  exact (len0 _).1 (by omega)
theorem turnB_ok (h : Both a b n) (hn : n < 4294967295) : i_ChanOk (turnB b) = true := by
  have hp := chan_parts h.ob
  have hk := (epOk_iff _).1 hp.2.2.1
  have hm : i_WinMay b.Cur.Win 0 = true := by rw [h.win]; exact may_new win_new (by decide) (by decide) (by decide)
  refine (chanOk_iff _).2 ⟨hp.1, hp.2.1, (epOk_iff _).2 ⟨⟨by show 0 ≤ b.Cur.N + 1; omega, by show b.Cur.N + 1 ≤ _; have := h.nb; omega⟩, derive32 hk.2.1, ⟨Int.le_refl _, (show (0 : Int) ≤ 281474976710656 by decide)⟩, win_new⟩, (oldOk_iff _).2 (.inl ⟨rfl, epOpen_ok hp.2.2.1 hm, by show b.Cur.N = b.Cur.N + 1 - 1; omega, .inr ⟨rfl, h.rb⟩⟩), .inl (by show (b.Next.length : Int) = 0; rw [noNext h.ob h.rb]; rfl)⟩
theorem heard2 (h : Both a b n) (hn : n < 4294967295) (ht : 0 ≤ now ∧ now ≤ 1000000) : i_HearRekey (hearB b now) n (i_RekeyBody (n + 1)) = (turnB b, 0) := by
  have hp := chan_parts h.ob
  have hk := (epOk_iff _).1 hp.2.2.1
  have ho := (heard1 h hn ht).2
  have hN : 0 ≤ n := by have := h.nb; omega
  have he : b_Equal (i_RekeyBody (n + 1)) (i_RekeyBody (n + 1)) = true := by simp [b_Equal, eqS_mk]
  have e1 : decide (n = (hearB b now).Cur.N - 1) = false := decide_eq_false (by show ¬ n = b.Cur.N - 1; have := h.nb; omega)
  have e2 : decide (n = (hearB b now).Cur.N) = true := decide_eq_true h.nb.symm
  have e3 : decide ((hearB b now).Role = 1) = true := decide_eq_true h.rb
  have e4 : decide ((hearB b now).Cur.N = 4294967295) = false := decide_eq_false (by show ¬ b.Cur.N = 4294967295; have := h.nb; omega)
  have eT : i_Turn (hearB b now) = (turnB b, true) := by
    simp only [i_Turn, ho, e3, e4, cond_true, cond_false]
    have eN : i_EpNew ((hearB b now).Cur.N + 1) (derive (hearB b now).Cur.Key rekey) = { N := b.Cur.N + 1, Key := derive b.Cur.Key rekey, Seq := 0, Win := i_WinNew : PEp } := by
      show i_EpNew (b.Cur.N + 1) (derive b.Cur.Key rekey) = _
      simp only [i_EpNew, in_t (show 0 ≤ b.Cur.N + 1 by omega) (show b.Cur.N + 1 ≤ 4294967295 by have := h.nb; omega), decide_eq_true (derive32 hk.2.1), cond_true]
    rw [show ∀ x, derive x (ByteArray.mk ([114, 101, 107, 101, 121] : List UInt8).toArray) = derive x rekey from fun _ => rfl, eN]
    rfl
  simp only [i_HearRekey, ho, e3, in_t hN (show n ≤ 4294967294 by omega), he, e1, e2, eT, cond_true, cond_false]
theorem acked (h : Both a b n) (hn : n < 4294967295) : i_Ack (turnB b) = (ackB b, ackF a, 0) ∧ i_ChanOk (ackB b) = true := by
  have ho := turnB_ok h hn
  have hN : 0 ≤ n := by have := ((epOk_iff _).1 (chan_parts h.ob).2.2.1).1; have := h.nb; omega
  have e := chanSeal_t (c := turnB b) (k := 8) (p := i_RekeyBody (b.Cur.N + 1)) ho (show (0 : Int) < 281474976709656 by decide) (by decide) (by decide) (body_ok (by have := h.nb; omega) (by have := h.nb; omega) (.inr rfl))
  have hs := chanSeal_ok (c := turnB b) ho (show (0 : Int) < 281474976709656 by decide)
  refine ⟨?_, hs⟩
  have e3 : decide ((turnB b).Role = 1) = true := decide_eq_true h.rb
  simp only [i_Ack, ho, e3, cond_true, show (turnB b).Cur.N = b.Cur.N + 1 from rfl, e]
  refine Prod.ext rfl (Prod.ext ?_ rfl)
  show sealF (derive b.Cur.Key rekey) b.Role b.Sn (b.Cur.N + 1) 0 8 (i_RekeyBody (b.Cur.N + 1)) = _
  unfold ackF
  rw [h.rb, h.key, h.sn, h.nb, h.na]
theorem told (h : Both a b n) (hn : n < 4294967295) (ht : 0 ≤ now ∧ now ≤ 1000000) : i_ChanOpen (askA a) now (ackF a) = (nextA a now 0, i_RekeyBody (n + 1), 0) := by
  have ho := askA_ok h hn
  have hp := chan_parts h.oa
  have hk := ((epOk_iff _).1 hp.2.2.1)
  have hN : 0 ≤ n := by have := h.na; omega
  have e := open_next (c := askA a) (s := 0) (k := 8) (p := i_RekeyBody (n + 1)) ho (derive32 hk.2.1) ht (by decide) (by decide) (body_ok (by omega) (by omega) (.inr rfl)) ⟨Int.le_refl _, by decide⟩ win_new
  have hf : sealF (askA a).Next (1 - (askA a).Role) (askA a).Sn ((askA a).Cur.N + 1) 0 8 (i_RekeyBody (n + 1)) = ackF a := by
    show sealF (derive a.Cur.Key rekey) (1 - a.Role) a.Sn (a.Cur.N + 1) 0 8 (i_RekeyBody (n + 1)) = _
    unfold ackF
    rw [h.ra, h.na]
    rfl
  rw [hf] at e
  exact e
theorem next_both (h : Both a b n) (hn : n < 4294967295) (ht : 0 ≤ now ∧ now ≤ 1000000) : Both (nextA a now 0) (ackB b) (n + 1) := by
  have hp := chan_parts h.oa
  have hk := (epOk_iff _).1 hp.2.2.1
  have hm : i_WinMay i_WinNew 0 = true := may_new win_new (by decide) (by decide) (by decide)
  refine ⟨(chanOk_iff _).2 ⟨hp.1, hp.2.1, (epOk_iff _).2 ⟨⟨by show 0 ≤ a.Cur.N + 1; omega, by show a.Cur.N + 1 ≤ _; have := h.na; omega⟩, derive32 hk.2.1, ⟨Int.le_refl _, (show (0 : Int) ≤ 281474976710656 by decide)⟩, (add_ok hm).2⟩, (oldOk_iff _).2 (.inl ⟨rfl, epSeal_ok hp.2.2.1 (by rw [h.sq]; decide), by show a.Cur.N = a.Cur.N + 1 - 1; omega, .inl ⟨by show 0 ≤ now + 5; omega, by show now + 5 ≤ _; omega⟩⟩), .inl rfl⟩, (acked h hn).2, h.ra, h.rb, h.sn, by show a.Cur.N + 1 = _; rw [h.na], by show b.Cur.N + 1 = _; rw [h.nb], by show derive b.Cur.Key rekey = derive a.Cur.Key rekey; rw [h.key], rfl, rfl, rfl⟩
theorem pair_both {code : List UInt8} {p : PChan × PChan} (hc : code.length ≤ 1048576) (h : PairP code p) : Both p.1 p.2 0 ∧ p.1.Cur.Key = sha code := by
  obtain ⟨hs, rfl⟩ := h
  revert hs
  generalize snF code = sn
  intro hs
  have hk : ((sha code).length : Int) = 32 := by rw [sha_len hc]; rfl
  have hE : i_EpNew 0 (sha code) = { N := 0, Key := sha code, Seq := 0, Win := i_WinNew : PEp } := by
    simp only [i_EpNew, show i_within 0 0 4294967295 = true from rfl, decide_eq_true hk, cond_true]
  have hC : ∀ r : Int, r = 0 ∨ r = 1 → i_ChanNew r sn (sha code) = { Role := r, Sn := sn, Cur := { N := 0, Key := sha code, Seq := 0, Win := i_WinNew : PEp }, Old := { N := 0, Key := [], Seq := 0, Win := { Top := 0, Bits := [] : PWin } : PEp }, HasOld := false, Until := 0, Next := [] : PChan } := fun r hr => by
    simp only [i_ChanNew, role_t hr, i_isNonce, decide_eq_true (show (sn.length : Int) = 12 by omega), decide_eq_true hk, cond_true, hE]
  have hO : ∀ r : Int, r = 0 ∨ r = 1 → i_ChanOk { Role := r, Sn := sn, Cur := { N := 0, Key := sha code, Seq := 0, Win := i_WinNew : PEp }, Old := { N := 0, Key := [], Seq := 0, Win := { Top := 0, Bits := [] : PWin } : PEp }, HasOld := false, Until := 0, Next := [] : PChan } = true := fun r hr =>
    (chanOk_iff _).2 ⟨hr, by show (sn.length : Int) = 12; omega, (epOk_iff _).2 ⟨⟨Int.le_refl _, (show (0 : Int) ≤ 4294967295 by decide)⟩, hk, ⟨Int.le_refl _, (show (0 : Int) ≤ 281474976710656 by decide)⟩, win_new⟩, (oldOk_iff _).2 (.inr ⟨rfl, by simp [i_sameEp, b_Equal, eqS_mk, eqI], rfl⟩), .inl rfl⟩
  rw [hC 0 (.inl rfl), hC 1 (.inr rfl)]
  exact ⟨⟨hO 0 (.inl rfl), hO 1 (.inr rfl), rfl, rfl, rfl, rfl, rfl, rfl, rfl, rfl, rfl⟩, rfl⟩
end round
section turned
variable {code : List UInt8} {p : PChan × PChan}
theorem tnE (hc : code.length ≤ 1048576) (h : PairP code p) : (askF p.1 0).Epoch = 0 := (pair_both hc h).1.na
theorem tA (hc : code.length ≤ 1048576) (h : PairP code p) : i_Want p.1 = (wantA p.1, true) := (want_t (pair_both hc h).1 (by decide)).1
theorem tB (hc : code.length ≤ 1048576) (h : PairP code p) : i_AskRekey (wantA p.1) = (askA p.1, askF p.1 0, 0) := asked (pair_both hc h).1 (by decide)
theorem tC (hc : code.length ≤ 1048576) (h : PairP code p) : i_ChanOpen p.2 0 (askF p.1 0) = (hearB p.2 0, i_RekeyBody (0 + 1), 0) := (heard1 (pair_both hc h).1 (by decide) (by decide)).1
theorem tD (hc : code.length ≤ 1048576) (h : PairP code p) : i_HearRekey (hearB p.2 0) 0 (i_RekeyBody (0 + 1)) = (turnB p.2, 0) := heard2 (pair_both hc h).1 (by decide) (by decide)
theorem tE (hc : code.length ≤ 1048576) (h : PairP code p) : i_Ack (turnB p.2) = (ackB p.2, ackF p.1, 0) := (acked (pair_both hc h).1 (by decide)).1
theorem tn1 (hc : code.length ≤ 1048576) (h : PairP code p) : (i_Want p.1).2 = true := by simp only [tA hc h]
theorem tn2 (hc : code.length ≤ 1048576) (h : PairP code p) : decide ((i_AskRekey (i_Want p.1).1).2.2 = 0) = true := by simp only [tA hc h, tB hc h, decide_true]
theorem tn3 (hc : code.length ≤ 1048576) (h : PairP code p) : decide ((i_ChanOpen p.2 0 (i_AskRekey (i_Want p.1).1).2.1).2.2 = 0) = true := by simp only [tA hc h, tB hc h, tC hc h, decide_true]
theorem tn4 (hc : code.length ≤ 1048576) (h : PairP code p) : decide ((i_HearRekey (i_ChanOpen p.2 0 (i_AskRekey (i_Want p.1).1).2.1).1 (i_AskRekey (i_Want p.1).1).2.1.Epoch (i_ChanOpen p.2 0 (i_AskRekey (i_Want p.1).1).2.1).2.1).2 = 0) = true := by simp only [tA hc h, tB hc h, tC hc h, tnE hc h, tD hc h, decide_true]
def TurnP (code : List UInt8) (x : PChan × PChan × PFrame × PFrame × Bool) : Prop := ∃ p, PairP code p ∧ x = (askA p.1, ackB p.2, askF p.1 0, ackF p.1, true)
def mkC (r : Int) (sn key : List UInt8) : PChan := { Role := r, Sn := sn, Cur := { N := 0, Key := key, Seq := 0, Win := i_WinNew : PEp }, Old := { N := 0, Key := [], Seq := 0, Win := { Top := 0, Bits := [] : PWin } : PEp }, HasOld := false, Until := 0, Next := [] : PChan }
theorem pair_form (hc : code.length ≤ 1048576) (h : PairP code p) : p = (mkC 0 (snF code) (sha code), mkC 1 (snF code) (sha code)) := by
  obtain ⟨hs, rfl⟩ := h
  have hk : ((sha code).length : Int) = 32 := by rw [sha_len hc]; rfl
  have hE : i_EpNew 0 (sha code) = { N := 0, Key := sha code, Seq := 0, Win := i_WinNew : PEp } := by
    simp only [i_EpNew, show i_within 0 0 4294967295 = true from rfl, decide_eq_true hk, cond_true]
  have hC : ∀ r : Int, r = 0 ∨ r = 1 → i_ChanNew r (snF code) (sha code) = mkC r (snF code) (sha code) := fun r hr => by
    simp only [i_ChanNew, role_t hr, i_isNonce, decide_eq_true (show ((snF code).length : Int) = 12 by omega), decide_eq_true hk, cond_true, hE, mkC]
  rw [hC 0 (.inl rfl), hC 1 (.inr rfl)]
theorem pair_same {q : PChan × PChan} (h1 : PairP code p) (h2 : PairP code q) : p = q := h1.2.trans h2.2.symm
end turned
end Go.Proofs.Ytacoceibbheccaa.K
