/- Plain functions that loops compute. -/
import Derived.Test.YtacefhmlgneegaaOps
import Derived.Test.YtacefhmlgneegaaHeld
namespace Go.Proofs.Ytacefhmlgneegaa.K
set_option linter.unusedSimpArgs false
def putK (v n : Int) : Nat → List UInt8
  | 0 => []
  | j + 1 => putK v n j ++ [by8 ((v / (2 : Int) ^ (8 * (n - 1 - ((j : Nat) : Int))).toNat) % 256)]
theorem putK_len (v n : Int) : ∀ j, (putK v n j).length = j
  | 0 => rfl
  | j + 1 => by simp [putK, putK_len v n j]
def putN (b : List UInt8) (v n : Int) : List UInt8 := if n < 1 ∨ 6 < n then b else b ++ putK v n n.toNat
theorem putN_out {b : List UInt8} {v n : Int} (h : n < 1 ∨ 6 < n) : putN b v n = b := by rw [putN, if_pos h]
theorem putN_end {b : List UInt8} {v n : Int} {j : Nat} (h : ¬ (n < 1 ∨ 6 < n)) (hj : ((j : Nat) : Int) ≤ n) (he : ¬ 0 ≤ n - 1 - ((j : Nat) : Int)) : putN b v n = b ++ putK v n j := by
  rw [putN, if_neg h]
  congr 2
  omega
theorem putN_len (b : List UInt8) (v n : Int) : (putN b v n).length ≤ b.length + 6 := by
  unfold putN
  split
  · omega
  · rw [List.length_append, putK_len]; omega
end Go.Proofs.Ytacefhmlgneegaa.K
