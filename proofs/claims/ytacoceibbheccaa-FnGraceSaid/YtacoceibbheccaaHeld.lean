/- Marks that are read back: plain functions on lists. -/
import Derived.Test.YtacoceibbheccaaCore
import Derived.Test.YtacoceibbheccaaPlain
namespace Go.Proofs.Ytacoceibbheccaa.K
def heldB : List UInt8 → Int → Int
  | [], k => k
  | b :: l, k => if ((b.toNat : Nat) : Int) = (((by8 k).toNat : Nat) : Int) then heldB l (k + 1) else -1
def heldI : List Int → Int → Int
  | [], k => k
  | b :: l, k => if b = k then heldI l (k + 1) else -1
def cpB (x : List UInt8) : List UInt8 := x
def cpI (x : List Int) : List Int := x
theorem cpB_end {x : List UInt8} {k : Nat} (h : x.length ≤ k) : cpB x = x.take k ++ List.replicate (x.length - k) (0 : UInt8) := by
  rw [List.take_of_length_le h, show x.length - k = 0 by omega]; simp [cpB]
theorem cpI_end {x : List Int} {k : Nat} (h : x.length ≤ k) : cpI x = x.take k ++ List.replicate (x.length - k) (0 : Int) := by
  rw [List.take_of_length_le h, show x.length - k = 0 by omega]; simp [cpI]
theorem cp_next {α : Type} {x : List α} {z : α} {k : Nat} (h : k < x.length) : (x.take k ++ List.replicate (x.length - k) z).set k (x.getD k z) = x.take (k + 1) ++ List.replicate (x.length - (k + 1)) z := by
  rw [List.set_append_right _ _ (by simp; omega), List.length_take, Nat.min_eq_left (by omega), Nat.sub_self,
    show x.length - k = (x.length - (k + 1)) + 1 by omega, List.replicate_succ, List.set_cons_zero]
  rw [List.take_succ_eq_append_getElem h, List.append_assoc]
  simp only [List.getD_eq_getElem?_getD, List.getElem?_eq_getElem h, Option.getD_some, List.singleton_append]
theorem cpB_next {x : List UInt8} {k : Nat} (h : k < x.length) : (x.take k ++ List.replicate (x.length - k) (0 : UInt8)).set k (x.getD k 0) = x.take (k + 1) ++ List.replicate (x.length - (k + 1)) (0 : UInt8) := cp_next h
theorem cpI_next {x : List Int} {k : Nat} (h : k < x.length) : (x.take k ++ List.replicate (x.length - k) (0 : Int)).set k (x.getD k 0) = x.take (k + 1) ++ List.replicate (x.length - (k + 1)) (0 : Int) := cp_next h
theorem heldB_le : ∀ (l : List UInt8) (k : Int), heldB l k = -1 ∨ heldB l k = k + (l.length : Int)
  | [], k => by simp [heldB]
  | b :: l, k => by
    have := heldB_le l (k + 1)
    simp only [heldB, List.length_cons]
    split <;> omega
theorem heldI_le : ∀ (l : List Int) (k : Int), heldI l k = -1 ∨ heldI l k = k + (l.length : Int)
  | [], k => by simp [heldI]
  | b :: l, k => by
    have := heldI_le l (k + 1)
    simp only [heldI, List.length_cons]
    split <;> omega
theorem heldB_marks : ∀ (n : Nat) (k : Int), heldB (marksB k n) k = k + n
  | 0, k => by simp [heldB, marksB]
  | n + 1, k => by simp only [marksB, heldB, if_true, heldB_marks n (k + 1)]; push_cast; omega
theorem heldI_marks : ∀ (n : Nat) (k : Int), heldI (marksI k n) k = k + n
  | 0, k => by simp [heldI, marksI]
  | n + 1, k => by simp only [marksI, heldI, if_true, heldI_marks n (k + 1)]; push_cast; omega
theorem heldB_next {a : List UInt8} {k : Int} {i : Nat} (h : heldB a k = heldB (a.drop i) (k + i)) (hi : i < a.length) (he : (((a.getD i 0).toNat : Nat) : Int) = (((by8 (k + i)).toNat : Nat) : Int)) : heldB a k = heldB (a.drop (i + 1)) (k + ((i + 1 : Nat) : Int)) := by
  rw [h, List.drop_eq_getElem_cons hi, heldB]
  simp only [List.getD_eq_getElem?_getD, List.getElem?_eq_getElem hi, Option.getD_some] at he
  rw [if_pos he]
  congr 1
  push_cast
  omega
theorem heldB_ne {a : List UInt8} {k : Int} {i : Nat} (h : heldB a k = heldB (a.drop i) (k + i)) (hi : i < a.length) (he : ¬ (((a.getD i 0).toNat : Nat) : Int) = (((by8 (k + i)).toNat : Nat) : Int)) : heldB a k = -1 := by
  rw [h, List.drop_eq_getElem_cons hi, heldB]
  simp only [List.getD_eq_getElem?_getD, List.getElem?_eq_getElem hi, Option.getD_some] at he
  rw [if_neg he]
theorem heldB_end {a : List UInt8} {k : Int} {i : Nat} (h : heldB a k = heldB (a.drop i) (k + i)) (hi : a.length ≤ i) : heldB a k = k + i := by
  rw [h, List.drop_eq_nil_of_le hi, heldB]
theorem heldI_next {a : List Int} {k : Int} {i : Nat} (h : heldI a k = heldI (a.drop i) (k + i)) (hi : i < a.length) (he : a.getD i 0 = k + i) : heldI a k = heldI (a.drop (i + 1)) (k + ((i + 1 : Nat) : Int)) := by
  rw [h, List.drop_eq_getElem_cons hi, heldI]
  simp only [List.getD_eq_getElem?_getD, List.getElem?_eq_getElem hi, Option.getD_some] at he
  rw [if_pos he]
  congr 1
  push_cast
  omega
theorem heldI_ne {a : List Int} {k : Int} {i : Nat} (h : heldI a k = heldI (a.drop i) (k + i)) (hi : i < a.length) (he : ¬ a.getD i 0 = k + i) : heldI a k = -1 := by
  rw [h, List.drop_eq_getElem_cons hi, heldI]
  simp only [List.getD_eq_getElem?_getD, List.getElem?_eq_getElem hi, Option.getD_some] at he
  rw [if_neg he]
theorem heldI_end {a : List Int} {k : Int} {i : Nat} (h : heldI a k = heldI (a.drop i) (k + i)) (hi : a.length ≤ i) : heldI a k = k + i := by
  rw [h, List.drop_eq_nil_of_le hi, heldI]
end Go.Proofs.Ytacoceibbheccaa.K
