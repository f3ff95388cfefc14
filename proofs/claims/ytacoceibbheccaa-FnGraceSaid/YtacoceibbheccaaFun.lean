/- Plain functions that loops compute. -/
import Derived.Test.YtacoceibbheccaaOps
import Derived.Test.YtacoceibbheccaaHeld
namespace Go.Proofs.Ytacoceibbheccaa.K
set_option linter.unusedSimpArgs false
def putK (v n : Int) : Nat → List UInt8
  | 0 => []
  | j + 1 => putK v n j ++ [by8 ((v / (2 : Int) ^ (8 * (n - 1 - ((j : Nat) : Int))).toNat) % 256)]
theorem putK_len (v n : Int) : ∀ j, (putK v n j).length = j
  | 0 => rfl
  | j + 1 => by simp [putK, putK_len v n j]
def putN (b : List UInt8) (v n : Int) : List UInt8 := if n < 1 ∨ 6 < n then b else b ++ putK v n n.toNat
theorem putN_out {b : List UInt8} {v n : Int} (h : n < 1 ∨ 6 < n) : putN b v n = b := by rw [putN, if_pos h]
theorem putN_end {b : List UInt8} {v n : Int} {j : Nat} (h : ¬ (n < 1 ∨ 6 < n)) (hj : ((j : Nat) : Int) ≤ n) (he : ¬ 0 ≤ n - 1 - ((j : Nat) : Int)) : putN b v n = b ++ putK v n j := by
  rw [putN, if_neg h]
  congr 2
  omega
theorem putN_len (b : List UInt8) (v n : Int) : (putN b v n).length ≤ b.length + 6 := by
  unfold putN
  split
  · omega
  · rw [List.length_append, putK_len]; omega
def allW (x : List Int) : Bool := x.all fun v => decide (0 ≤ v ∧ v ≤ 4294967295)
theorem allW_nil : allW [] = true := rfl
theorem allW_next {x : List Int} {k : Nat} (h : allW (x.take k) = true) (hk : k < x.length) (hv : 0 ≤ x.getD k 0 ∧ x.getD k 0 ≤ 4294967295) : allW (x.take (k + 1)) = true := by
  rw [List.take_succ_eq_append_getElem hk]
  simp only [List.getD_eq_getElem?_getD, List.getElem?_eq_getElem hk, Option.getD_some] at hv
  unfold allW at h ⊢
  rw [List.all_append, h]
  simpa using hv
theorem allW_all {x : List Int} {k : Nat} (h : allW (x.take k) = true) (hk : x.length ≤ k) : allW x = true := by
  rwa [List.take_of_length_le hk] at h
theorem allW_no {x : List Int} {k : Nat} (hk : k < x.length) (hv : x.getD k 0 < 0 ∨ 4294967295 < x.getD k 0) : allW x = false := by
  rcases Bool.eq_false_or_eq_true (allW x) with h | h
  · unfold allW at h
    rw [List.all_eq_true] at h
    have := h x[k] (List.getElem_mem hk)
    simp only [List.getD_eq_getElem?_getD, List.getElem?_eq_getElem hk, Option.getD_some] at hv
    simp at this
    omega
  · exact h
theorem allW_get {x : List Int} (h : allW x = true) {k : Nat} (hk : k < x.length) : 0 ≤ x.getD k 0 ∧ x.getD k 0 ≤ 4294967295 := by
  unfold allW at h
  rw [List.all_eq_true] at h
  have := h x[k] (List.getElem_mem hk)
  simp only [List.getD_eq_getElem?_getD, List.getElem?_eq_getElem hk, Option.getD_some]
  simpa using this
def areW (x : List Int) (n : Int) : Bool := allW x && decide ((x.length : Int) = n)
theorem areW_t {x : List Int} {n : Int} (h : areW x n = true) : allW x = true ∧ (x.length : Int) = n := by
  simpa [areW] using h
def noneIn (f : Int → Bool) (a b : Int) : Bool := (List.range (b - a).toNat).all fun k => !f (a + (k : Int))
theorem noneIn_iff (f : Int → Bool) (a b : Int) : noneIn f a b = true ↔ ∀ m : Int, a ≤ m → m < b → f m = false := by
  unfold noneIn
  rw [List.all_eq_true]
  constructor
  · intro h m h1 h2
    have := h (m - a).toNat (List.mem_range.2 (by omega))
    rw [show a + (((m - a).toNat : Nat) : Int) = m by omega] at this
    simpa using this
  · intro h k hk
    have := h (a + (k : Int)) (by omega) (by have := List.mem_range.1 hk; omega)
    simp [this]
theorem noneIn_t {f : Int → Bool} {a b q : Int} (h : ∀ m : Int, a ≤ m → m < q → f m = false) (hq : ¬ q < b) : noneIn f a b = true := (noneIn_iff f a b).2 fun m h1 h2 => h m h1 (by omega)
theorem noneIn_f {f : Int → Bool} {a b q : Int} (h : f q = true) (h1 : a ≤ q) (h2 : q < b) : noneIn f a b = false := by
  rcases Bool.eq_false_or_eq_true (noneIn f a b) with hn | hn
  · rw [(noneIn_iff f a b).1 hn q h1 h2] at h; cases h
  · exact hn
theorem none_next {f : Int → Bool} {a q : Int} (h : ∀ m : Int, a ≤ m → m < q → f m = false) (hq : f q = false) : ∀ m : Int, a ≤ m → m < q + 1 → f m = false := fun m h1 h2 => by
  rcases Int.lt_or_eq_of_le (Int.le_of_lt_add_one h2) with h3 | rfl
  · exact h m h1 h3
  · exact hq
end Go.Proofs.Ytacoceibbheccaa.K
