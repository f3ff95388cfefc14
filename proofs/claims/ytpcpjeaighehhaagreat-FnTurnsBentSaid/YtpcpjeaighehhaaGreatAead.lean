import Derived.Test.YtpcpjeaighehhaaGreatHash
import Derived.Test.YtpcpjeaighehhaaGreatList
namespace Go.Proofs.YtpcpjeaighehhaaGreat.K
set_option linter.unusedSimpArgs false
set_option linter.unusedVariables false
section stream
variable {key head b x : List UInt8} {i n : Int} {k : Nat}
def blkOf (key head : List UInt8) (i : Int) : List UInt8 := bif decide (0 ≤ i) && decide (i ≤ 6) && decide ((head.length : Int) ≤ 100) then hmac key (putN (115 :: head) i 4) else []
def strN (key head : List UInt8) : Nat → List UInt8
  | 0 => []
  | k + 1 => strN key head k ++ blkOf key head ((k : Nat) : Int)
def stream (key head : List UInt8) (n : Int) : List UInt8 := bif decide (0 ≤ n) && decide (n ≤ 200) && decide ((head.length : Int) ≤ 100) && decide ((key.length : Int) ≤ 1048576) then (strN key head 7).take n.toNat else []
end stream
section head
variable {role epoch seq : Int} {sn x : List UInt8}
theorem putN_len0 (v n : Int) : (putN [] v n).length ≤ 6 := by simpa using putN_len [] v n
theorem shl1_b (n : Nat) (h : n ≤ 31) : 0 < 1 * (2 : Int) ^ n ∧ 1 * (2 : Int) ^ n < 4294967296 := by
  have h2 : (2 : Nat) ^ n ≤ 2 ^ 31 := Nat.pow_le_pow_right (by decide) h
  have h3 : (2 : Nat) ^ 31 = 2147483648 := by decide
  have h4 : 0 < (2 : Nat) ^ n := Nat.pow_pos (by decide)
  have h5 : 1 * (2 : Int) ^ n = ((2 ^ n : Nat) : Int) := by rw [Int.one_mul]; simp
  omega
end head
section tag
end tag
theorem own_pre {α : Type} {f : α → Value} {w : World} {lo c k : Nat} {E : TypeId} {a : Option Addr} {x : List α} (h : w.ownsRow lo E 1 (.slice a x.length c) x.length (x.map f)) (hk : k ≤ x.length) :
    w.ownsRow lo E 1 (.slice (subA a c 0 1) (x.take k).length (c - 0)) (x.take k).length ((x.take k).map f) := by
  have h1 := own_take h hk
  rw [subA0, Nat.sub_zero, List.length_take, Nat.min_eq_left hk, List.map_take]
  rwa [Nat.mul_one] at h1
section win
def andnI (a b : Int) : Int := ((a.toNat ^^^ (a.toNat &&& b.toNat) : Nat) : Int)
theorem andnI_b {a b : Int} (h1 : a < 4294967296) : 0 ≤ andnI a b ∧ andnI a b < 4294967296 := b32 (Nat.xor_lt_two_pow (lt32 h1) (Nat.lt_of_le_of_lt Nat.and_le_left (lt32 h1)))
theorem i64_andn {a b : Int} (h0 : 0 ≤ a) (h1 : a < 9223372036854775808) (h2 : 0 ≤ b) (h3 : b < 9223372036854775808) : bits .andNot .i64 a b = andnI a b := by
  have hb : bits .andNot .i64 a b = IntKind.i64.wrap (((BitVec.ofInt 64 a &&& ~~~ BitVec.ofInt 64 b).toNat : Nat) : Int) := rfl
  have e1 : (BitVec.ofInt 64 a &&& ~~~ BitVec.ofInt 64 b) = BitVec.ofInt 64 a ^^^ (BitVec.ofInt 64 a &&& BitVec.ofInt 64 b) := by
    refine BitVec.eq_of_getLsbD_eq fun i hi => ?_
    simp only [BitVec.getLsbD_and, BitVec.getLsbD_not, BitVec.getLsbD_xor, hi, decide_true, Bool.true_and]
    cases (BitVec.ofInt 64 a).getLsbD i <;> cases (BitVec.ofInt 64 b).getLsbD i <;> rfl
  rw [hb, e1, BitVec.toNat_xor, BitVec.toNat_and, ofInt_nat h0 h1, ofInt_nat h2 h3, i64_nat (Nat.xor_lt_two_pow (nat_lt63 h1) (Nat.lt_of_le_of_lt Nat.and_le_left (nat_lt63 h1)))]
  rfl
theorem wl_andn {P : Program} {ops : Array Oper} {Q : Exit → Act → World → Prop} {n : Nat} {e : Env} {w : World} {o : Oper} {rest : List Oper} (a b : Int) (hw : Want n ops o e) {d : Nat} (hd : o.dst = some d) (hdn : Nat.blt d n = true)
    (hr : (execOp (ev e) o).run P w = .ok (.value (.int .i64 (bits .andNot .i64 a b))) w) (h0 : 0 ≤ a) (h1 : a < 9223372036854775808) (h2 : 0 ≤ b) (h3 : b < 9223372036854775808)
    (hk : WL P ops Q rest n (upd e d (.int .i64 (andnI a b))) w) : WL P ops Q (o :: rest) n e w := wl_val hw hd hdn hr (by rw [i64_andn h0 h1 h2 h3]; exact hk)
def pow5 (k : Int) : Int := 1 * (2 : Int) ^ (k % 32).toNat
theorem pow5_b (k : Int) : 0 < pow5 k ∧ pow5 k < 4294967296 ∧ (pow5 k).toNat = 2 ^ (k % 32).toNat := by
  have h1 : (k % 32).toNat ≤ 31 := by omega
  have h2 : (2 : Nat) ^ (k % 32).toNat ≤ 2 ^ 31 := Nat.pow_le_pow_right (by decide) h1
  have h3 : (2 : Nat) ^ 31 = 2147483648 := by decide
  have h4 : 0 < (2 : Nat) ^ (k % 32).toNat := Nat.pow_pos (by decide)
  have h5 : pow5 k = ((2 ^ (k % 32).toNat : Nat) : Int) := by unfold pow5; rw [Int.one_mul]; simp
  omega
def atW (l : List Int) (k : Int) : Int := l.getD ((k % 1024) / 32).toNat 0
def clrB (l : List Int) (k : Int) : List Int := l.set ((k % 1024) / 32).toNat (andnI (atW l k) (pow5 k))
def setB (l : List Int) (k : Int) : List Int := l.set ((k % 1024) / 32).toNat (orI (atW l k) (pow5 k))
theorem clrS (l : List Int) (k : Int) : l.set ((k % 1024) / 32).toNat (andnI (l.getD ((k % 1024) / 32).toNat 0) (1 * (2 : Int) ^ ((k % 1024) % 32).toNat)) = clrB l k := by
  unfold clrB atW pow5
  rw [show k % 1024 % 32 = k % 32 by omega]
theorem setS (l : List Int) (k : Int) : l.set ((k % 1024) / 32).toNat (orI (l.getD ((k % 1024) / 32).toNat 0) (1 * (2 : Int) ^ ((k % 1024) % 32).toNat)) = setB l k := by
  unfold setB atW pow5
  rw [show k % 1024 % 32 = k % 32 by omega]
def clrN (l : List Int) (a : Int) : Nat → List Int
  | 0 => l
  | j + 1 => clrB (clrN l a j) (a + ((j : Nat) : Int))
theorem allW_set {l : List Int} (h : allW l = true) (i : Nat) {v : Int} (h0 : 0 ≤ v) (h1 : v < 4294967296) : allW (l.set i v) = true := by
  unfold allW at h ⊢
  rw [List.all_eq_true] at h ⊢
  intro x hx
  rcases List.mem_or_eq_of_mem_set hx with hx | rfl
  · exact h x hx
  · simp; omega
theorem atW_b {l : List Int} (h : allW l = true) (k : Int) : 0 ≤ atW l k ∧ atW l k < 4294967296 := wget h _
theorem clrB_w {l : List Int} (h : allW l = true) (k : Int) : allW (clrB l k) = true := allW_set h _ (andnI_b (atW_b h k).2).1 (andnI_b (atW_b h k).2).2
theorem setB_w {l : List Int} (h : allW l = true) (k : Int) : allW (setB l k) = true := allW_set h _ (orI_b (atW_b h k).2 (pow5_b k).2.1).1 (orI_b (atW_b h k).2 (pow5_b k).2.1).2
theorem clrN_w {l : List Int} (h : allW l = true) (a : Int) : ∀ j, allW (clrN l a j) = true
  | 0 => h
  | j + 1 => clrB_w (clrN_w h a j) _
theorem clrN_len (l : List Int) (a : Int) : ∀ j, (clrN l a j).length = l.length
  | 0 => rfl
  | j + 1 => by rw [clrN, clrB, List.length_set, clrN_len l a j]
theorem setB_len (l : List Int) (k : Int) : (setB l k).length = l.length := by rw [setB, List.length_set]
def bitL (l : List Int) (n : Int) : Bool := decide ((atW l n / (2 : Int) ^ (n % 32).toNat) % 2 = 1)
theorem bitL_nat {l : List Int} (h : allW l = true) (n : Int) : bitL l n = (atW l n).toNat.testBit (n % 32).toNat := by
  have hb := atW_b h n
  unfold bitL
  rw [Nat.testBit_eq_decide_div_mod_eq]
  have h1 : atW l n = (((atW l n).toNat : Nat) : Int) := by omega
  have h2 : (2 : Int) ^ (n % 32).toNat = ((2 ^ (n % 32).toNat : Nat) : Int) := by simp
  have h3 : (atW l n / (2 : Int) ^ (n % 32).toNat) % 2 = (((atW l n).toNat / 2 ^ (n % 32).toNat % 2 : Nat) : Int) := by
    rw [h2]; conv => lhs; rw [h1]
    simp
  rw [h3]
  have h4 : (((atW l n).toNat / 2 ^ (n % 32).toNat % 2 : Nat) : Int) = 1 ↔ (atW l n).toNat / 2 ^ (n % 32).toNat % 2 = 1 := by omega
  exact decide_eq_decide.2 h4
theorem atW_set (l : List Int) (k n v : Int) (hl : l.length = 32) : atW (l.set ((k % 1024) / 32).toNat v) n = if (k % 1024) / 32 = (n % 1024) / 32 then v else atW l n := by
  unfold atW
  rw [List.getD_eq_getElem?_getD, List.getElem?_set]
  split
  · rename_i h
    rw [if_pos (by omega), if_pos (by omega)]
    rfl
  · rename_i h
    rw [if_neg (by omega), List.getD_eq_getElem?_getD]
theorem bitL_clr {l : List Int} (h : allW l = true) (hl : l.length = 32) (k n : Int) : bitL (clrB l k) n = (bitL l n && !decide (n % 1024 = k % 1024)) := by
  rw [bitL_nat (clrB_w h k), bitL_nat h]
  unfold clrB
  rw [atW_set l k n _ hl]
  split
  · rename_i hw
    have hat : atW l k = atW l n := by unfold atW; rw [hw]
    have h1 : (andnI (atW l k) (pow5 k)).toNat = (atW l n).toNat ^^^ ((atW l n).toNat &&& 2 ^ (k % 32).toNat) := by
      unfold andnI
      rw [(pow5_b k).2.2, hat]
      exact Int.toNat_natCast _
    rw [h1, Nat.testBit_xor, Nat.testBit_and, Nat.testBit_two_pow]
    have h2 : decide ((k % 32).toNat = (n % 32).toNat) = decide (n % 1024 = k % 1024) := decide_eq_decide.2 (by omega)
    rw [h2]
    cases (atW l n).toNat.testBit (n % 32).toNat <;> cases decide (n % 1024 = k % 1024) <;> rfl
  · rename_i hw
    rw [decide_eq_false (by omega)]
    simp
theorem bitL_set {l : List Int} (h : allW l = true) (hl : l.length = 32) (k n : Int) : bitL (setB l k) n = (bitL l n || decide (n % 1024 = k % 1024)) := by
  rw [bitL_nat (setB_w h k), bitL_nat h]
  unfold setB
  rw [atW_set l k n _ hl]
  split
  · rename_i hw
    have hat : atW l k = atW l n := by unfold atW; rw [hw]
    have h1 : (orI (atW l k) (pow5 k)).toNat = (atW l n).toNat ||| 2 ^ (k % 32).toNat := by
      unfold orI
      rw [(pow5_b k).2.2, hat]
      exact Int.toNat_natCast _
    rw [h1, Nat.testBit_or, Nat.testBit_two_pow]
    have h2 : decide ((k % 32).toNat = (n % 32).toNat) = decide (n % 1024 = k % 1024) := decide_eq_decide.2 (by omega)
    rw [h2]
  · rename_i hw
    rw [decide_eq_false (by omega)]
    simp
theorem bitL_clrN {l : List Int} (h : allW l = true) (hl : l.length = 32) (a m : Int) : ∀ j : Nat, j ≤ 1024 → bitL (clrN l a j) m = (bitL l m && !decide ((m - a) % 1024 < ((j : Nat) : Int)))
  | 0, _ => by
    rw [decide_eq_false (by omega)]
    simp [clrN]
  | j + 1, hj => by
    rw [clrN, bitL_clr (clrN_w h a j) (by rw [clrN_len, hl]), bitL_clrN h hl a m j (by omega), Bool.and_assoc]
    congr 1
    by_cases h1 : (m - a) % 1024 < ((j : Nat) : Int)
    · rw [decide_eq_true h1, decide_eq_true (show (m - a) % 1024 < (((j + 1 : Nat)) : Int) by omega)]; rfl
    · by_cases h2 : m % 1024 = (a + ((j : Nat) : Int)) % 1024
      · rw [decide_eq_true h2, decide_eq_true (show (m - a) % 1024 < (((j + 1 : Nat)) : Int) by omega), Bool.not_true, Bool.and_false]
      · rw [decide_eq_false h1, decide_eq_false h2, decide_eq_false (show ¬ (m - a) % 1024 < (((j + 1 : Nat)) : Int) by omega)]; rfl
theorem words_ext {l r : List Int} (h1 : allW l = true) (h2 : allW r = true) (hl : l.length = 32) (hr : r.length = 32) (h : ∀ m : Int, 0 ≤ m → m < 1024 → bitL l m = bitL r m) : l = r := by
  refine List.ext_getElem (by omega) fun i hi hi2 => ?_
  have e1 : ∀ (x : List Int), x.length = 32 → ∀ q : Nat, q < 32 → atW x (32 * (i : Int) + (q : Int)) = x.getD i 0 := fun x hx q hq => by
    unfold atW
    congr 1
    omega
  have e2 : l.getD i 0 = l[i] := by simp [List.getD_eq_getElem?_getD, List.getElem?_eq_getElem hi]
  have e3 : r.getD i 0 = r[i] := by simp [List.getD_eq_getElem?_getD, List.getElem?_eq_getElem hi2]
  have b1 := wget h1 i
  have b2 := wget h2 i
  rw [← e2, ← e3]
  have : (l.getD i 0).toNat = (r.getD i 0).toNat := by
    refine Nat.eq_of_testBit_eq fun q => ?_
    by_cases hq : q < 32
    · have h3 := h (32 * (i : Int) + (q : Int)) (by omega) (by omega)
      rw [bitL_nat h1, bitL_nat h2, e1 l hl q hq, e1 r hr q hq] at h3
      rwa [show ((32 * (i : Int) + (q : Int)) % 32).toNat = q by omega] at h3
    · have hp : (2 : Nat) ^ 32 ≤ 2 ^ q := Nat.pow_le_pow_right (by decide) (by omega)
      have hp2 : (2 : Nat) ^ 32 = 4294967296 := by decide
      rw [Nat.testBit_lt_two_pow (by omega), Nat.testBit_lt_two_pow (by omega)]
  omega
def addW (l : List Int) (top n : Int) : List Int := setB (clrN l (if top + 1 < n - 1023 then n - 1023 else top + 1) (n - (if top + 1 < n - 1023 then n - 1023 else top + 1)).toNat) n
theorem bitL_add {l : List Int} (h : allW l = true) (hl : l.length = 32) {top n : Int} (ht : -1 ≤ top) (m : Int) : bitL (addW l top n) m = ((bitL l m && !decide ((m - (if top + 1 < n - 1023 then n - 1023 else top + 1)) % 1024 < n - (if top + 1 < n - 1023 then n - 1023 else top + 1))) || decide (m % 1024 = n % 1024)) := by
  unfold addW
  rw [bitL_set (clrN_w h _ _) (by rw [clrN_len, hl]), bitL_clrN h hl _ _ _ (by omega)]
  congr 4
  exact propext (by omega)
theorem addW_spec {l : List Int} (h : allW l = true) (hl : l.length = 32) {top n : Int} {j : Nat} (ht : -1 ≤ top) (hj : j ≤ 1024) (hn : top + ((j : Nat) : Int) ≤ n ∨ j = 0) (he : n < top + 1 + ((j : Nat) : Int) ∨ j = 1024) : setB (clrN l (top + 1) j) n = addW l top n := by
  refine words_ext (setB_w (clrN_w h _ _) _) (setB_w (clrN_w h _ _) _) (by rw [setB_len, clrN_len, hl]) (by rw [addW, setB_len, clrN_len, hl]) fun m h0 h1 => ?_
  rw [bitL_add h hl ht, bitL_set (clrN_w h _ _) (by rw [clrN_len, hl]), bitL_clrN h hl _ _ _ hj]
  by_cases hm : m % 1024 = n % 1024
  · rw [decide_eq_true hm, Bool.or_true, Bool.or_true]
  · congr 3
    exact decide_eq_decide.2 (by omega)
end win
end Go.Proofs.YtpcpjeaighehhaaGreat.K
