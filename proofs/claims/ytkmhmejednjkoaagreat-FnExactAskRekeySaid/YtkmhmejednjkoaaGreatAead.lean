import Derived.Test.YtkmhmejednjkoaaGreatHash
import Derived.Test.YtkmhmejednjkoaaGreatList
namespace Go.Proofs.YtkmhmejednjkoaaGreat.K
set_option linter.unusedSimpArgs false
set_option linter.unusedVariables false
section stream
variable {key head b x : List UInt8} {i n : Int} {k : Nat}
def blkOf (key head : List UInt8) (i : Int) : List UInt8 := bif decide (0 ≤ i) && decide (i ≤ 6) && decide ((head.length : Int) ≤ 100) then hmac key (putN (115 :: head) i 4) else []
theorem blkOf_f (h : i < 0 ∨ 6 < i ∨ 100 < (head.length : Int)) : blkOf key head i = [] := by
  unfold blkOf
  have : (decide (0 ≤ i) && decide (i ≤ 6) && decide ((head.length : Int) ≤ 100)) = false := by
    simp only [Bool.and_eq_false_iff, decide_eq_false_iff_not]; omega
  rw [this, cond_false]
theorem blkOf_t (h0 : 0 ≤ i) (h1 : i ≤ 6) (h2 : (head.length : Int) ≤ 100) (hb : x = 115 :: head) : blkOf key head i = hmac key (putN x i 4) := by
  unfold blkOf
  rw [decide_eq_true h0, decide_eq_true h1, decide_eq_true h2, hb]
  rfl
theorem blkOf_len (key head : List UInt8) (i : Int) : (blkOf key head i).length ≤ 32 ∧ (i < 0 ∨ 6 < i ∨ 100 < (head.length : Int) ∨ 1048576 < (key.length : Int) ∨ (blkOf key head i).length = 32) := by
  by_cases h : i < 0 ∨ 6 < i ∨ 100 < (head.length : Int)
  · rw [blkOf_f h]; exact ⟨Nat.zero_le _, by omega⟩
  · rw [blkOf_t (by omega) (by omega) (by omega) rfl]
    have h1 := hmac_le key (putN (115 :: head) i 4)
    have h2 := putN_len (115 :: head) i 4
    simp only [List.length_cons] at h2
    omega
def strN (key head : List UInt8) : Nat → List UInt8
  | 0 => []
  | k + 1 => strN key head k ++ blkOf key head ((k : Nat) : Int)
theorem strN_len (h1 : (key.length : Int) ≤ 1048576) (h2 : (head.length : Int) ≤ 100) : ∀ k, k ≤ 7 → (strN key head k).length = 32 * k
  | 0, _ => rfl
  | k + 1, h => by
    have h3 := blkOf_len key head ((k : Nat) : Int)
    rw [strN, List.length_append, strN_len h1 h2 k (by omega)]
    omega
theorem strN_or (h1 : (key.length : Int) ≤ 1048576) (h2 : (head.length : Int) ≤ 100) (k : Nat) : 7 < k ∨ (strN key head k).length = 32 * k := by
  by_cases h : k ≤ 7
  · exact .inr (strN_len h1 h2 k h)
  · exact .inl (by omega)
theorem strN_take (h1 : (key.length : Int) ≤ 1048576) (h2 : (head.length : Int) ≤ 100) : ∀ (j k m : Nat), k + j ≤ 7 → m ≤ 32 * k → (strN key head (k + j)).take m = (strN key head k).take m
  | 0, k, m, _, _ => rfl
  | j + 1, k, m, h, hm => by
    rw [← Nat.add_assoc, strN, List.take_append_of_le_length (by rw [strN_len h1 h2 _ (by omega)]; omega)]
    exact strN_take h1 h2 j k m (by omega) hm
def stream (key head : List UInt8) (n : Int) : List UInt8 := bif decide (0 ≤ n) && decide (n ≤ 200) && decide ((head.length : Int) ≤ 100) && decide ((key.length : Int) ≤ 1048576) then (strN key head 7).take n.toNat else []
theorem stream_f (h : n < 0 ∨ 200 < n ∨ 100 < (head.length : Int) ∨ 1048576 < (key.length : Int)) : stream key head n = [] := by
  unfold stream
  have : (decide (0 ≤ n) && decide (n ≤ 200) && decide ((head.length : Int) ≤ 100) && decide ((key.length : Int) ≤ 1048576)) = false := by
    simp only [Bool.and_eq_false_iff, decide_eq_false_iff_not]; omega
  rw [this, cond_false]
theorem stream_t (h0 : 0 ≤ n) (h1 : n ≤ 200) (h2 : (head.length : Int) ≤ 100) (h3 : (key.length : Int) ≤ 1048576) (hk : n ≤ 32 * (k : Int)) (hk2 : 32 * (k : Int) < n + 32) : stream key head n = (strN key head k).take n.toNat := by
  unfold stream
  rw [decide_eq_true h0, decide_eq_true h1, decide_eq_true h2, decide_eq_true h3]
  have := strN_take h3 h2 (7 - k) k n.toNat (by omega) (by omega)
  rw [show k + (7 - k) = 7 by omega] at this
  exact this
theorem stream_len (key head : List UInt8) (n : Int) : (stream key head n).length ≤ 200 ∧ (n < 0 ∨ 200 < n ∨ 100 < (head.length : Int) ∨ 1048576 < (key.length : Int) ∨ (stream key head n).length = n.toNat) := by
  by_cases h : n < 0 ∨ 200 < n ∨ 100 < (head.length : Int) ∨ 1048576 < (key.length : Int)
  · rw [stream_f h]; exact ⟨Nat.zero_le _, by omega⟩
  · have hl := strN_len (key := key) (head := head) (by omega) (by omega) 7 (Nat.le_refl _)
    have : (stream key head n).length = n.toNat := by
      unfold stream
      rw [decide_eq_true (show 0 ≤ n by omega), decide_eq_true (show n ≤ 200 by omega), decide_eq_true (show (head.length : Int) ≤ 100 by omega), decide_eq_true (show (key.length : Int) ≤ 1048576 by omega)]
      show ((strN key head 7).take n.toNat).length = n.toNat
      rw [List.length_take, hl]; omega
    omega
def zipX (b s : List UInt8) : List UInt8 := List.zipWith (fun x y => x ^^^ y) b s
theorem zipX_next {b s : List UInt8} (h : k < b.length) (hs : k < s.length) : zipX (b.take k) (s.take k) ++ [b.getD k 0 ^^^ s.getD k 0] = zipX (b.take (k + 1)) (s.take (k + 1)) := by
  have h1 : b.getD k 0 = b[k] := by simp [List.getD_eq_getElem?_getD, List.getElem?_eq_getElem h]
  have h2 : s.getD k 0 = s[k] := by simp [List.getD_eq_getElem?_getD, List.getElem?_eq_getElem hs]
  rw [List.take_succ_eq_append_getElem h, List.take_succ_eq_append_getElem hs, h1, h2]
  unfold zipX
  rw [List.zipWith_append (by simp only [List.length_take]; omega)]
  rfl
theorem zipX_next' {b s : List UInt8} (h : k < b.length) (hs : k < s.length) : zipX (b.take k) (s.take k) ++ [s.getD k 0 ^^^ b.getD k 0] = zipX (b.take (k + 1)) (s.take (k + 1)) := by
  rw [← zipX_next h hs, UInt8.xor_comm]
theorem zipX_le (b s : List UInt8) (k : Nat) : (zipX (b.take k) (s.take k)).length ≤ k := by
  unfold zipX
  rw [List.length_zipWith, List.length_take]
  omega
def mixB (key head b : List UInt8) : List UInt8 := bif decide ((b.length : Int) ≤ 200) && decide ((head.length : Int) ≤ 100) && decide ((key.length : Int) ≤ 1048576) then zipX b (stream key head (b.length : Int)) else []
theorem mixB_f (h : 200 < (b.length : Int) ∨ 100 < (head.length : Int) ∨ 1048576 < (key.length : Int)) : mixB key head b = [] := by
  unfold mixB
  have : (decide ((b.length : Int) ≤ 200) && decide ((head.length : Int) ≤ 100) && decide ((key.length : Int) ≤ 1048576)) = false := by
    simp only [Bool.and_eq_false_iff, decide_eq_false_iff_not]; omega
  rw [this, cond_false]
theorem mixB_y (h1 : (b.length : Int) ≤ 200) (h2 : (head.length : Int) ≤ 100) (h3 : (key.length : Int) ≤ 1048576) : mixB key head b = zipX b (stream key head (b.length : Int)) := by
  unfold mixB
  rw [decide_eq_true h1, decide_eq_true h2, decide_eq_true h3]
  rfl
theorem mixB_t (h1 : (b.length : Int) ≤ 200) (h2 : (head.length : Int) ≤ 100) (h3 : (key.length : Int) ≤ 1048576) (hk : b.length ≤ k) : mixB key head b = zipX (b.take k) ((stream key head (b.length : Int)).take k) := by
  have := stream_len key head (b.length : Int)
  rw [mixB_y h1 h2 h3, List.take_of_length_le hk, List.take_of_length_le (by omega)]
theorem mixB_len (key head b : List UInt8) : (mixB key head b).length ≤ b.length ∧ (200 < (b.length : Int) ∨ 100 < (head.length : Int) ∨ 1048576 < (key.length : Int) ∨ (mixB key head b).length = b.length) := by
  by_cases h : 200 < (b.length : Int) ∨ 100 < (head.length : Int) ∨ 1048576 < (key.length : Int)
  · rw [mixB_f h]; exact ⟨Nat.zero_le _, by omega⟩
  · have hs := stream_len key head (b.length : Int)
    rw [mixB_y (by omega) (by omega) (by omega)]
    unfold zipX
    rw [List.length_zipWith]
    omega
end stream
section head
def headOf (role : Int) (sn : List UInt8) (epoch seq : Int) : List UInt8 := if (role = 0 ∨ role = 1) ∧ (sn.length : Int) = 12 ∧ (0 ≤ epoch ∧ epoch ≤ 4294967295) ∧ (0 ≤ seq ∧ seq ≤ 281474976710655) then by8 role :: (sn ++ (putK epoch 4 4 ++ putK seq 6 6)) else []
variable {role epoch seq : Int} {sn x : List UInt8}
theorem headOf_f (h : (¬ role = 0 ∧ ¬ role = 1) ∨ ¬ (sn.length : Int) = 12 ∨ epoch < 0 ∨ 4294967295 < epoch ∨ seq < 0 ∨ 281474976710655 < seq) : headOf role sn epoch seq = [] := by
  unfold headOf
  rw [if_neg (by omega)]
theorem headOf_t (h1 : role = 0 ∨ role = 1) (h2 : (sn.length : Int) = 12) (h3 : 0 ≤ epoch ∧ epoch ≤ 4294967295) (h4 : 0 ≤ seq ∧ seq ≤ 281474976710655) (hx : x = by8 role :: (sn ++ (putK epoch 4 4 ++ putK seq 6 6))) : headOf role sn epoch seq = x := by
  unfold headOf
  rw [if_pos ⟨h1, h2, h3, h4⟩, hx]
theorem headOf_len (role : Int) (sn : List UInt8) (epoch seq : Int) : (headOf role sn epoch seq).length = 0 ∨ (headOf role sn epoch seq).length = 23 := by
  unfold headOf
  split
  · rename_i h
    right
    simp only [List.length_cons, List.length_append, putK_len]
    omega
  · exact .inl rfl
theorem putN_len0 (v n : Int) : (putN [] v n).length ≤ 6 := by simpa using putN_len [] v n
theorem putN6 (b : List UInt8) (x : Int) : putN b x 6 = b ++ putK x 6 6 := rfl
end head
section tag
def tagP (key b : List UInt8) : List UInt8 := (hmac key b).take 16
theorem tagP_f {key b : List UInt8} (h : (hmac key b).length = 0) : tagP key b = [] := by
  unfold tagP
  rw [List.length_eq_zero_iff.1 h]
  rfl
theorem tagP_len (key b : List UInt8) : (tagP key b).length = 0 ∨ (tagP key b).length = 16 := by
  have := hmac_le key b
  unfold tagP
  rw [List.length_take]
  omega
end tag
section win
end win
end Go.Proofs.YtkmhmejednjkoaaGreat.K
