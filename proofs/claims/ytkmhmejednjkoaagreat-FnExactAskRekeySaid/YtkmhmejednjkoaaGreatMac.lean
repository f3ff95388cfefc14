import Derived.Test.YtkmhmejednjkoaaGreatSha
import Derived.Lib.ConvBytes
namespace Go.Proofs.YtkmhmejednjkoaaGreat.K
set_option linter.unusedSimpArgs false
set_option linter.unusedVariables false
def keyBase (key : List UInt8) : List UInt8 := bif decide (64 < (key.length : Int)) then sha key else key
def blockKey (key : List UInt8) : List UInt8 := bif decide (1048576 < (key.length : Int)) then [] else keyBase key ++ List.replicate (64 - (keyBase key).length) 0
theorem keyBase_len (key : List UInt8) : (keyBase key).length ≤ 64 := by
  unfold keyBase
  cases h : decide (64 < (key.length : Int))
  · have := of_decide_eq_false h; simp only [cond_false]; omega
  · have := sha_le key; simp only [cond_true]; omega
theorem blockKey_len {key : List UInt8} (h : key.length ≤ 1048576) : (blockKey key).length = 64 := by
  have := keyBase_len key
  unfold blockKey
  rw [decide_eq_false (by omega), cond_false, List.length_append, List.length_replicate]
  omega
theorem blockKey_le (key : List UInt8) : (blockKey key).length ≤ 64 ∧ (1048576 < key.length ∨ (blockKey key).length = 64) := by
  by_cases h : key.length ≤ 1048576
  · have := blockKey_len h; omega
  · refine ⟨?_, .inl (by omega)⟩
    unfold blockKey; rw [decide_eq_true (by omega), cond_true]; simp
def maskB (b : List UInt8) (x : UInt8) : List UInt8 := b.map fun y => y ^^^ x
theorem maskB_len (b : List UInt8) (x : UInt8) : (maskB b x).length = b.length := List.length_map _
theorem map_next {α β : Type} {f : α → β} {x : List α} {z : α} {k : Nat} (h : k < x.length) : (x.take k).map f ++ [f (x.getD k z)] = (x.take (k + 1)).map f := by
  rw [List.take_succ_eq_append_getElem h, List.map_append]
  simp only [List.map_cons, List.map_nil, List.getD_eq_getElem?_getD, List.getElem?_eq_getElem h, Option.getD_some]
theorem map_end {α β : Type} {f : α → β} {x : List α} {k : Nat} (h : x.length ≤ k) : (x.take k).map f = x.map f := by rw [List.take_of_length_le h]
def hmac (key b : List UInt8) : List UInt8 := bif decide (1048576 < (key.length : Int)) then [] else bif decide (1048512 < (b.length : Int)) then [] else sha (maskB (blockKey key) 92 ++ sha (maskB (blockKey key) 54 ++ b))
theorem hmac_le (key b : List UInt8) : (hmac key b).length ≤ 32 ∧ ((hmac key b).length = 32 ∨ ((hmac key b).length = 0 ∧ (1048576 < key.length ∨ 1048512 < b.length))) := by
  unfold hmac
  by_cases h1 : key.length ≤ 1048576
  · rw [decide_eq_false (by omega), cond_false]
    by_cases h2 : b.length ≤ 1048512
    · rw [decide_eq_false (by omega), cond_false]
      have hk := blockKey_len h1
      have hs := sha_le (maskB (blockKey key) 54 ++ b)
      rw [sha_len (by rw [List.length_append, maskB_len]; omega)]
      omega
    · rw [decide_eq_true (by omega), cond_true]; simp; omega
  · rw [decide_eq_true (by omega), cond_true]; simp; omega
def expN (prk info : List UInt8) : Nat → List UInt8 × List UInt8
  | 0 => ([], [])
  | k + 1 => ((expN prk info k).1 ++ hmac prk ((expN prk info k).2 ++ info ++ [by8 ((k : Int) + 1)]), hmac prk ((expN prk info k).2 ++ info ++ [by8 ((k : Int) + 1)]))
def expand (prk info : List UInt8) (n : Int) : List UInt8 × Bool :=
  bif decide (0 ≤ n) && decide (n ≤ 8160) && decide ((info.length : Int) ≤ 100) && decide ((prk.length : Int) ≤ 1048576) then ((expN prk info ((n + 31) / 32).toNat).1.take n.toNat, true) else ([], false)
def strB (s : ByteArray) : List UInt8 := s.data.toList
section s2b
variable {P : Program} {ops : Array Oper} {Q : Exit → Act → World → Prop} {n : Nat} {e : Env} {w : World} {o : Oper} {rest : List Oper}
end s2b
def derive (key : List UInt8) (label : ByteArray) : List UInt8 := (expand key (strB label) 32).1
def rekey : ByteArray := ByteArray.mk ([114, 101, 107, 101, 121] : List UInt8).toArray
def chainN (key : List UInt8) : Nat → List UInt8
  | 0 => key
  | k + 1 => derive (chainN key k) rekey
def chain (key : List UInt8) (n : Int) : List UInt8 := bif decide (0 ≤ n) && decide (n ≤ 64) then chainN key n.toNat else []
end Go.Proofs.YtkmhmejednjkoaaGreat.K
