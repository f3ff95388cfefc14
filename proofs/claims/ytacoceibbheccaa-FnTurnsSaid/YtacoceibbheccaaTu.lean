/- A round of a key update, as FnTurns asks for it. -/
import Derived.Test.YtacoceibbheccaaTn
import Derived.Test.YtacoceibbheccaaWl7
namespace Go.Proofs.Ytacoceibbheccaa.K
set_option linter.unusedSimpArgs false
set_option linter.unusedVariables false
set_option maxRecDepth 10000
section u
variable {a b : PChan} {n now s : Int}
theorem uA (h : Both a b n) (hn : n < 4294967295) : i_Want a = (wantA a, true) := (want_t h hn).1
theorem uB (h : Both a b n) (hn : n < 4294967295) : i_AskRekey (wantA a) = (askA a, askF a 0, 0) := asked h hn
theorem uE (h : Both a b n) : (askF a 0).Epoch = n := h.na
theorem uC (h : Both a b n) (hn : n < 4294967295) (ht : 0 ≤ now ∧ now ≤ 1000000) : i_ChanOpen b now (askF a 0) = (hearB b now, i_RekeyBody (n + 1), 0) := (heard1 h hn ht).1
theorem uD (h : Both a b n) (hn : n < 4294967295) (ht : 0 ≤ now ∧ now ≤ 1000000) : i_HearRekey (hearB b now) n (i_RekeyBody (n + 1)) = (turnB b, 0) := heard2 h hn ht
theorem uF (h : Both a b n) (hn : n < 4294967295) : i_Ack (turnB b) = (ackB b, ackF a, 0) := (acked h hn).1
theorem uG (h : Both a b n) (hn : n < 4294967295) (ht : 0 ≤ now ∧ now ≤ 1000000) : i_ChanOpen (askA a) now (ackF a) = (nextA a now 0, i_RekeyBody (n + 1), 0) := told h hn ht
theorem uH (h : Both a b n) : (nextA a now s).Cur.N = n + 1 := by show a.Cur.N + 1 = n + 1; rw [h.na]
theorem uI (h : Both a b n) : (ackB b).Cur.N = n + 1 := by show b.Cur.N + 1 = n + 1; rw [h.nb]
theorem uJ : (nextA a now s).Cur.Key = derive a.Cur.Key rekey := rfl
theorem uK (h : Both a b n) : (ackB b).Cur.Key = derive a.Cur.Key rekey := by show derive b.Cur.Key rekey = _; rw [h.key]
theorem uL {K : List UInt8} {k : Nat} (h : a.Cur.Key = chainN K k) (hk : ((k : Nat) : Int) ≤ 60) : chain K (((k : Nat) : Int) + 1) = derive a.Cur.Key rekey := by
  rw [h]
  exact chain_t (i := k + 1) (by omega) (by omega) (by omega)
theorem uL' {K : List UInt8} {k : Nat} (h : a.Cur.Key = chainN K k) : derive a.Cur.Key rekey = chainN K (k + 1) := by rw [h]; rfl
theorem uM (h : Both a b n) (hn : n < 4294967295) (ht : 0 ≤ now ∧ now ≤ 1000000) : i_ChanOk (nextA a now 0) = true := (next_both h hn ht).oa
theorem uN (h : Both a b n) (hn : n < 4294967295) : i_ChanOk (ackB b) = true := (acked h hn).2
theorem uP {k : Nat} (h : Both a b ((k : Nat) : Int)) (hn : ((k : Nat) : Int) < 100) : Both (nextA a ((k : Nat) : Int) 0) (ackB b) (((k + 1 : Nat)) : Int) := by
  have hz := next_both (now := ((k : Nat) : Int)) h (by omega) (by omega)
  have he : ((k : Nat) : Int) + 1 = ((k + 1 : Nat) : Int) := by omega
  rwa [he] at hz
theorem uQ (h : Both a b n) (hn : n < 4294967295) (ht : 0 ≤ now ∧ now ≤ 1000000) : i_Oldest (nextA a now 0) = n + 1 - 1 := by
  have := uM h hn ht
  unfold i_Oldest
  rw [this]
  show a.Cur.N = n + 1 - 1
  have := h.na
  omega
end u
end Go.Proofs.Ytacoceibbheccaa.K
