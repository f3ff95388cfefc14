/- What loops over words, blocks and keys compute. It names no program. -/
import Derived.Test.YtacoceibbheccaaMac
namespace Go.Proofs.Ytacoceibbheccaa.K
set_option linter.unusedSimpArgs false
set_option linter.unusedVariables false
def rw64 (i : Int) : Int := bif decide (i < 0) then 0 else bif decide (63 < i) then 0 else kw.getD i.toNat 0
theorem rw64_k {k : Nat} (h : k < 64) : rw64 ((k : Nat) : Int) = kw.getD k 0 := by
  unfold rw64
  rw [decide_eq_false (by omega), decide_eq_false (by omega), cond_false, cond_false, Int.toNat_natCast]
theorem rw64_b (i : Int) : 0 ≤ rw64 i ∧ rw64 i < 4294967296 := by
  unfold rw64
  cases decide (i < 0) <;> cases decide (63 < i) <;> simp only [cond_true, cond_false] <;> first | omega | exact wget kw_w _
def cutP (b : List UInt8) (f n : Int) : List UInt8 × Bool := bif decide (0 ≤ f) && decide (0 ≤ n) && decide (f + n ≤ (b.length : Int)) then ((b.drop f.toNat).take n.toNat, true) else ([], false)
theorem cutP_f {b : List UInt8} {f n : Int} (h : f < 0 ∨ n < 0 ∨ (b.length : Int) < f + n) : cutP b f n = ([], false) := by
  unfold cutP
  have : (decide (0 ≤ f) && decide (0 ≤ n) && decide (f + n ≤ (b.length : Int))) = false := by
    simp only [Bool.and_eq_false_iff, decide_eq_false_iff_not]; omega
  rw [this, cond_false]
theorem cutP_t {b l : List UInt8} {f n : Int} (h0 : 0 ≤ f) (h1 : 0 ≤ n) (h2 : f + n ≤ (b.length : Int)) (hl : (b.drop f.toNat).take n.toNat = l) : cutP b f n = (l, true) := by
  unfold cutP
  rw [decide_eq_true h0, decide_eq_true h1, decide_eq_true h2, hl]
  rfl
theorem cutP_len (b : List UInt8) (f n : Int) : (cutP b f n).1.length ≤ n.toNat ∧ (cutP b f n).1.length ≤ b.length := by
  unfold cutP
  cases decide (0 ≤ f) && decide (0 ≤ n) && decide (f + n ≤ (b.length : Int))
  · exact ⟨Nat.zero_le _, Nat.zero_le _⟩
  · simp only [cond_true, List.length_take, List.length_drop]; omega
def getN3 (b : List UInt8) (i k : Int) : Int × Int × Bool := bif decide (1 ≤ k) && decide (k ≤ 6) && decide (0 ≤ i) && decide (i + k ≤ (b.length : Int)) then (getNv b i.toNat k.toNat, i + k, true) else (0, 0, false)
theorem getN3_f {b : List UInt8} {i k : Int} (h : k < 1 ∨ 6 < k ∨ i < 0 ∨ (b.length : Int) < i + k) : getN3 b i k = (0, 0, false) := by
  unfold getN3
  have : (decide (1 ≤ k) && decide (k ≤ 6) && decide (0 ≤ i) && decide (i + k ≤ (b.length : Int))) = false := by
    simp only [Bool.and_eq_false_iff, decide_eq_false_iff_not]; omega
  rw [this, cond_false]
theorem getN3_y {b : List UInt8} {i k : Int} (h1 : 1 ≤ k) (h2 : k ≤ 6) (h3 : 0 ≤ i) (h4 : i + k ≤ (b.length : Int)) : getN3 b i k = (getNv b i.toNat k.toNat, i + k, true) := by
  unfold getN3
  rw [decide_eq_true h1, decide_eq_true h2, decide_eq_true h3, decide_eq_true h4]
  rfl
theorem cutP_2 {b : List UInt8} {f n : Int} (h : (cutP b f n).2 = true) : 0 ≤ f ∧ 0 ≤ n ∧ f + n ≤ (b.length : Int) := by
  by_cases hh : f < 0 ∨ n < 0 ∨ (b.length : Int) < f + n
  · rw [cutP_f hh] at h; cases h
  · omega
theorem getN3_c {b : List UInt8} {i k : Int} (h : (cutP b i k).2 = false) : getN3 b i k = (0, 0, false) := by
  refine getN3_f ?_
  by_cases hh : k < 1 ∨ 6 < k ∨ i < 0 ∨ (b.length : Int) < i + k
  · exact hh
  · rw [cutP_t (by omega) (by omega) (by omega) rfl] at h; cases h
theorem getN3_t {b : List UInt8} {i k : Int} {j : Nat} (h1 : 1 ≤ k) (h2 : k ≤ 6) (h : (cutP b i k).2 = true) (hj : (cutP b i k).1.length ≤ j) : getN3 b i k = (getV ((cutP b i k).1.take j) 0, i + k, true) := by
  have hc := cutP_2 h
  rw [getN3_y h1 h2 hc.1 hc.2.2, List.take_of_length_le hj, cutP_t hc.1 hc.2.1 hc.2.2 rfl]
  rfl
theorem getN3_s {b : List UInt8} {i k : Int} {j : Nat} (h1 : 1 ≤ k) (h2 : k ≤ 6) (h : 0 ≤ i ∧ i + k ≤ (b.length : Int)) (hj : ((j : Nat) : Int) = k) : getN3 b i k = (getV ((b.drop i.toNat).take j) 0, i + k, true) := by
  rw [getN3_y h1 h2 h.1 h.2, show k.toNat = j by omega]
  rfl
theorem getV_b6 (l : List UInt8) (i : Nat) (h : i ≤ 6) : 0 ≤ getV (l.take i) 0 ∧ getV (l.take i) 0 < 281474976710656 := by
  have h1 := getNv_b l 0 i h
  have h2 : (256 : Nat) ^ i ≤ 256 ^ 6 := Nat.pow_le_pow_right (by decide) h
  have h3 : ((256 ^ i : Nat) : Int) = (256 : Int) ^ i := by simp
  have h4 : (256 : Nat) ^ 6 = 281474976710656 := by decide
  unfold getNv at h1
  rw [List.drop_zero] at h1
  omega
theorem getV_next {l : List UInt8} {i : Nat} (h : i < l.length) : 256 * getV (l.take i) 0 + ((l.getD i 0).toNat : Int) = getV (l.take (i + 1)) 0 := by
  rw [List.take_succ_eq_append_getElem h, getV_snoc, Int.mul_comm]
  simp only [List.getD_eq_getElem?_getD, List.getElem?_eq_getElem h, Option.getD_some]
theorem getV_nexts {b : List UInt8} {a : Int} {i : Nat} (h0 : 0 ≤ a) (h : a + (i : Int) < (b.length : Int)) : getV ((b.drop a.toNat).take i) 0 * 256 + ((b.getD (a + ((i : Nat) : Int)).toNat 0).toNat : Int) = getV ((b.drop a.toNat).take (i + 1)) 0 := by
  have hl : i < (b.drop a.toNat).length := by rw [List.length_drop]; omega
  rw [← getV_next hl, Int.mul_comm]
  congr 3
  simp only [List.getD_eq_getElem?_getD, List.getElem?_drop, show (a + ((i : Nat) : Int)).toNat = a.toNat + i by omega]
def schedP (b : List UInt8) : List Int := bif decide ((b.length : Int) = 64) then schedule b else []
theorem schedP_f {b : List UInt8} (h : ¬ (b.length : Int) = 64) : schedP b = [] := by unfold schedP; rw [decide_eq_false h, cond_false]
theorem schedP_y {b : List UInt8} (h : (b.length : Int) = 64) : schedP b = schedule b := by unfold schedP; rw [decide_eq_true h, cond_true]
theorem schedP_t {b : List UInt8} {m : Nat} (h : (b.length : Int) = 64) (h1 : 48 ≤ m) (h2 : m ≤ 48) : schedP b = schedN b m ++ List.replicate (48 - m) 0 := by
  obtain rfl : m = 48 := by omega
  rw [schedP_y h]
  simp [schedule]
theorem schedP_u {b : List UInt8} {m : Nat} (h : (b.length : Int) = 64) (h1 : 48 ≤ m) (h2 : m ≤ 48) : schedP b = schedN b m := by
  obtain rfl : m = 48 := by omega
  rw [schedP_y h]
  rfl
theorem schedP_len (b : List UInt8) : (schedP b).length = 64 ∨ ¬ (b.length : Int) = 64 := by
  by_cases h : (b.length : Int) = 64
  · rw [schedP_y h]; exact .inl (schedN_len b 48)
  · exact .inr h
theorem schedP_w (b : List UInt8) : allW (schedP b) = true := by
  unfold schedP
  cases decide ((b.length : Int) = 64)
  · rfl
  · exact schedN_w b 48
theorem getN3_4 {b : List UInt8} {k : Nat} (hk : k < 16) (hb : (b.length : Int) = 64) : (getN3 b (4 * ((k : Nat) : Int)) 4).1 = getNv b (4 * k) 4 := by
  rw [getN3_y (by omega) (by omega) (by omega) (by omega), show (4 * ((k : Nat) : Int)).toNat = 4 * k by omega]
  rfl
theorem set_mid {α : Type} {l : List α} {z v : α} {n k : Nat} (hk : k = l.length) (hn : 0 < n) : (l ++ List.replicate n z).set k v = (l ++ [v]) ++ List.replicate (n - 1) z := by
  subst hk
  rw [List.set_append_right _ _ (Nat.le_refl _), Nat.sub_self]
  obtain ⟨m, rfl⟩ : ∃ m, n = m + 1 := ⟨n - 1, by omega⟩
  rw [List.replicate_succ, List.set_cons_zero, List.append_assoc]
  rfl
theorem sched16_next {b : List UInt8} {k : Nat} (hk : k < 16) (hb : (b.length : Int) = 64) : (sched16 b k ++ List.replicate (64 - k) (0 : Int)).set k (getN3 b (4 * ((k : Nat) : Int)) 4).1 = sched16 b (k + 1) ++ List.replicate (64 - (k + 1)) (0 : Int) := by
  rw [getN3_4 hk hb, set_mid (sched16_len b k).symm (by omega)]
  rfl
theorem sched16_app {b : List UInt8} {k : Nat} (hk : k < 16) (hb : (b.length : Int) = 64) : sched16 b k ++ [(getN3 b (4 * ((k : Nat) : Int)) 4).1] = sched16 b (k + 1) := by rw [getN3_4 hk hb]; rfl
theorem schedL_w (b : List UInt8) (m : Nat) : allW (schedN b m ++ List.replicate (48 - m) (0 : Int)) = true := by
  have h := schedN_w b m
  unfold allW at *
  rw [List.all_append, h]
  simp
def schedV (l : List Int) (m : Nat) : Int := (((l.getD ((16 + ((m : Nat) : Int)) - 7).toNat 0 + l.getD ((16 + ((m : Nat) : Int)) - 16).toNat 0) + sigLow (l.getD ((16 + ((m : Nat) : Int)) - 15).toNat 0)) + sigHigh (l.getD ((16 + ((m : Nat) : Int)) - 2).toNat 0)) % 4294967296
theorem schedV_eq (b : List UInt8) (m : Nat) : schedV (schedN b m) m = schedNext (schedN b m) (m + 16) := by
  unfold schedV schedNext
  rw [show ((16 + ((m : Nat) : Int)) - 7).toNat = m + 16 - 7 by omega, show ((16 + ((m : Nat) : Int)) - 16).toNat = m + 16 - 16 by omega, show ((16 + ((m : Nat) : Int)) - 15).toNat = m + 16 - 15 by omega, show ((16 + ((m : Nat) : Int)) - 2).toNat = m + 16 - 2 by omega]
theorem getD_app {l r : List Int} {k : Nat} (h : k < l.length) : (l ++ r).getD k 0 = l.getD k 0 := by
  simp only [List.getD_eq_getElem?_getD, List.getElem?_append_left h]
theorem schedV_app (b : List UInt8) (m n : Nat) : schedV (schedN b m ++ List.replicate n 0) m = schedV (schedN b m) m := by
  have hl := schedN_len b m
  unfold schedV
  rw [getD_app (by omega), getD_app (by omega), getD_app (by omega), getD_app (by omega)]
theorem schedN_next {b : List UInt8} {m : Nat} (hm : m < 48) : (schedN b m ++ List.replicate (48 - m) (0 : Int)).set (16 + ((m : Nat) : Int)).toNat (schedV (schedN b m ++ List.replicate (48 - m) (0 : Int)) m) = schedN b (m + 1) ++ List.replicate (48 - (m + 1)) (0 : Int) := by
  have hl := schedN_len b m
  rw [schedV_app, schedV_eq, set_mid (show (16 + ((m : Nat) : Int)).toNat = (schedN b m).length by omega) (by omega)]
  rfl
theorem schedN_app {b : List UInt8} {m : Nat} : schedN b m ++ [schedV (schedN b m) m] = schedN b (m + 1) := by rw [schedV_eq]; rfl
section cmp
variable {w : List Int} {s : S8} {k : Nat}
theorem cmp_ia {v : Int} (hk : k < 64) (hv : v = (((cmpN w s k).z + big1 (cmpN w s k).e + choice (cmpN w s k).e (cmpN w s k).f (cmpN w s k).g + rw64 ((k : Nat) : Int) + w.getD k 0) + uOf (cmpN w s k)) % 4294967296) : v = (cmpN w s (k + 1)).a := by rw [hv, rw64_k hk]; rfl
theorem cmp_ie {v : Int} (hk : k < 64) (hv : v = ((cmpN w s k).d + ((cmpN w s k).z + big1 (cmpN w s k).e + choice (cmpN w s k).e (cmpN w s k).f (cmpN w s k).g + rw64 ((k : Nat) : Int) + w.getD k 0)) % 4294967296) : v = (cmpN w s (k + 1)).e := by rw [hv, rw64_k hk]; rfl
theorem cmp_sa {t u : Int} (hk : k < 64) (ht : t = (cmpN w s k).z + big1 (cmpN w s k).e + xorI (andI (cmpN w s k).e (cmpN w s k).f) (andI (xorI (cmpN w s k).e 4294967295) (cmpN w s k).g) + kw.getD k 0 + w.getD k 0) (hu : u = uOf (cmpN w s k)) : (t % 4294967296 + u % 4294967296) % 4294967296 = (cmpN w s (k + 1)).a := by
  rw [ht, hu, xorI_comm (cmpN w s k).e 4294967295]
  show _ = (tOf w k (cmpN w s k) + uOf (cmpN w s k)) % 4294967296
  unfold tOf choice
  omega
theorem cmp_se {t : Int} (hk : k < 64) (ht : t = (cmpN w s k).z + big1 (cmpN w s k).e + xorI (andI (cmpN w s k).e (cmpN w s k).f) (andI (xorI (cmpN w s k).e 4294967295) (cmpN w s k).g) + kw.getD k 0 + w.getD k 0) : ((cmpN w s k).d + t % 4294967296) % 4294967296 = (cmpN w s (k + 1)).e := by
  rw [ht, xorI_comm (cmpN w s k).e 4294967295]
  show _ = ((cmpN w s k).d + tOf w k (cmpN w s k)) % 4294967296
  unfold tOf choice
  omega
theorem s8l_w (h : s.ok) : allW s.list = true := by
  obtain ⟨ha, hb, hc, hd, he, hf, hg, hz⟩ := h
  unfold allW S8.list
  simp only [List.all_cons, List.all_nil, Bool.and_true, Bool.and_eq_true, decide_eq_true_eq]
  omega
end cmp
theorem compress_f {h : List Int} {b : List UInt8} (hw : areW h 8 = false) : compress h b = h := by unfold compress; rw [hw, cond_false]
theorem compress_g {h : List Int} {b : List UInt8} (hb : ¬ (b.length : Int) = 64) : compress h b = h := by unfold compress; rw [decide_eq_false hb, cond_false]; cases areW h 8 <;> rfl
theorem compress_t {h : List Int} {b : List UInt8} {m : Nat} (hw : areW h 8 = true) (hb : (b.length : Int) = 64) (hm : 8 ≤ m) : compress h b = (addL h (S8.list (cmpN (schedP b) (s8of h) 64))).take m ++ h.drop m := by
  have hl : h.length = 8 := by have := (areW_t hw).2; omega
  unfold compress
  rw [hw, cond_true, decide_eq_true hb, cond_true, schedP_y hb, addL_end (by omega) (by rw [hl]; rfl)]
theorem compAll_t {h : List Int} {b : List UInt8} {k : Nat} (hk : 64 * k ≤ b.length) (hn : b.length < 64 * k + 64) : compAll h b = (foldK h b k, b.drop (64 * k)) := by
  have : b.length / 64 = k := by omega
  unfold compAll
  rw [this]
theorem compAll_len {h : List Int} {b : List UInt8} (hw : areW h 8 = true) : (compAll h b).1.length = 8 := foldK_len hw _
def padP (n : Int) : List UInt8 := bif decide (0 ≤ n) && decide (n ≤ 1048576) then pad n else []
theorem padP_eq {n : Int} (h0 : 0 ≤ n) (h1 : n ≤ 1048576) : padP n = pad n := by unfold padP; rw [decide_eq_true h0, decide_eq_true h1]; rfl
theorem padP_f {n : Int} (h : n < 0 ∨ 1048576 < n) : padP n = [] := by
  unfold padP
  have : (decide (0 ≤ n) && decide (n ≤ 1048576)) = false := by simp only [Bool.and_eq_false_iff, decide_eq_false_iff_not]; omega
  rw [this, cond_false]
theorem padP_len (n : Int) : (padP n).length ≤ 72 := by
  by_cases h : n < 0 ∨ 1048576 < n
  · rw [padP_f h]; simp
  · rw [padP_eq (by omega) (by omega)]; exact (pad_len n (by omega)).2
theorem put6 {n : Int} (h0 : 0 ≤ n) (h1 : n ≤ 1048576) : putK (8 * n) 6 6 = [0, 0] ++ putK (8 * n) 4 4 := by
  have e : ∀ m : Int, by8 (m % 256) = by8 (m % 256) := fun _ => rfl
  have z1 : (8 * n) / (2 : Int) ^ (8 * (6 - 1 - ((0 : Nat) : Int))).toNat % 256 = 0 := by
    have : (2 : Int) ^ (8 * (6 - 1 - ((0 : Nat) : Int))).toNat = 1099511627776 := by decide
    rw [this]; omega
  have z2 : (8 * n) / (2 : Int) ^ (8 * (6 - 1 - ((1 : Nat) : Int))).toNat % 256 = 0 := by
    have : (2 : Int) ^ (8 * (6 - 1 - ((1 : Nat) : Int))).toNat = 4294967296 := by decide
    rw [this]; omega
  simp only [putK, z1, z2]
  rfl
theorem padP_i {n : Int} {j : Nat} (h0 : 0 ≤ n) (h1 : n ≤ 1048576) (hj : ((j : Nat) : Int) ≤ (64 - (n + 9) % 64) % 64) (hz : (n + 9 + (j : Int)) % 64 = 0) : padP n = putN (([(128 : UInt8)] ++ List.replicate j (0 : UInt8)) ++ [0, 0]) (8 * n) 6 := by
  have hk : padK n = j := by unfold padK; omega
  rw [padP_eq h0 h1]
  have hp : putN (([(128 : UInt8)] ++ List.replicate j (0 : UInt8)) ++ [0, 0]) (8 * n) 6 = (([(128 : UInt8)] ++ List.replicate j (0 : UInt8)) ++ [0, 0]) ++ putK (8 * n) 6 6 := rfl
  rw [hp, put6 h0 h1]
  unfold pad
  rw [hk]
  simp
theorem padP_s {n : Int} {j : Nat} (h0 : 0 ≤ n) (h1 : n ≤ 1048576) (hj : ((j : Nat) : Int) ≤ (64 - (n + 9) % 64) % 64) (hz : (n + 9 + (j : Int)) % 64 = 0) : padP n = putN (putN ([(128 : UInt8)] ++ List.replicate j (0 : UInt8)) 0 4) (8 * n) 4 := by
  have hk : padK n = j := by unfold padK; omega
  rw [padP_eq h0 h1, putN4, putN4]
  unfold pad
  rw [hk]
  have : putK 0 4 4 = [0, 0, 0, 0] := by decide
  rw [this]
theorem wordB_end {x : List Int} {k : Nat} (h : x.length ≤ k) : wordB x = wordB (x.take k) := by rw [List.take_of_length_le h]
theorem wordB_next {x : List Int} {k : Nat} (h : k < x.length) : putN (wordB (x.take k)) (x.getD k 0) 4 = wordB (x.take (k + 1)) := by
  rw [putN4, List.take_succ_eq_append_getElem h, wordB_snoc]
  simp only [List.getD_eq_getElem?_getD, List.getElem?_eq_getElem h, Option.getD_some]
def joinB (x : List (List UInt8)) : List UInt8 := x.flatten
theorem joinB_l2 (a b : List UInt8) : (joinB [a, b]).length = a.length + b.length := by simp [joinB]
theorem joinB_l3 (a b c : List UInt8) : (joinB [a, b, c]).length = a.length + (b.length + c.length) := by simp [joinB]
theorem flat_end {x : List (List UInt8)} {k : Nat} (h : x.length ≤ k) : joinB x = joinB (x.take k) := by rw [List.take_of_length_le h]
theorem flat_next {x : List (List UInt8)} {z : List UInt8} {k : Nat} (h : k < x.length) : joinB (x.take k) ++ x.getD k z = joinB (x.take (k + 1)) := by
  unfold joinB
  rw [List.take_succ_eq_append_getElem h, List.flatten_append]
  simp only [List.getD_eq_getElem?_getD, List.getElem?_eq_getElem h, Option.getD_some, List.flatten_cons, List.flatten_nil, List.append_nil]
theorem flat_le {x : List (List UInt8)} {z : List UInt8} {k : Nat} : (joinB (x.take k)).length ≤ (joinB x).length ∧ (x.length ≤ k ∨ (joinB (x.take k)).length + (x.getD k z).length ≤ (joinB x).length) := by
  have key : ∀ j, (joinB (x.take j)).length ≤ (joinB x).length := fun j => by
    have h : joinB x = joinB (x.take j) ++ joinB (x.drop j) := by unfold joinB; rw [← List.flatten_append, List.take_append_drop]
    rw [h, List.length_append]; omega
  refine ⟨key k, ?_⟩
  rcases Nat.lt_or_ge k x.length with h | h
  · have h2 := key (k + 1)
    rw [← flat_next (z := z) h, List.length_append] at h2
    exact .inr h2
  · exact .inl h
theorem sha_f {b : List UInt8} (h : 1048576 < (b.length : Int)) : sha b = [] := by unfold sha; rw [decide_eq_true h, cond_true]
theorem shaAll (b : List UInt8) (h : b.length ≤ 1048576) : (b ++ padP (b.length : Int)).length % 64 = 0 ∧ (b ++ padP (b.length : Int)).length ≤ b.length + 72 := by
  have hp := pad_len b.length (by omega)
  rw [padP_eq (by omega) (by omega), List.length_append]
  omega
theorem sha_s {b : List UInt8} {k : Nat} (h : b.length ≤ 1048576) (h1 : 64 * k ≤ (b ++ padP (b.length : Int)).length) (h2 : (b ++ padP (b.length : Int)).length ≤ 64 * k) : sha b = wordB (foldK k0 (b ++ padP (b.length : Int)) k) := by
  rw [padP_eq (by omega) (by omega)] at *
  have : (b ++ pad (b.length : Int)).length / 64 = k := by omega
  unfold sha
  rw [decide_eq_false (by omega), cond_false, this]
theorem foldK_next {h : List Int} {b : List UInt8} {k : Nat} : compress (foldK h b k) ((b.drop (64 * ((k : Nat) : Int)).toNat).take ((64 * ((k : Nat) : Int) + 64).toNat - (64 * ((k : Nat) : Int)).toNat)) = foldK h b (k + 1) := by
  rw [show (64 * ((k : Nat) : Int) + 64).toNat - (64 * ((k : Nat) : Int)).toNat = 64 by omega, show (64 * ((k : Nat) : Int)).toNat = 64 * k by omega]
  rfl
theorem blockKey_f {key : List UInt8} (h : 1048576 < (key.length : Int)) : blockKey key = [] := by unfold blockKey; rw [decide_eq_true h, cond_true]
theorem blockKey_l {key : List UInt8} {j : Nat} (h : key.length ≤ 1048576) (h2 : 64 < key.length) (h3 : (sha key).length + j ≤ 64) (h4 : 64 ≤ (sha key).length + j) : blockKey key = sha key ++ List.replicate j 0 := by
  unfold blockKey keyBase
  rw [decide_eq_false (by omega), cond_false, decide_eq_true (by omega), cond_true, show 64 - (sha key).length = j by omega]
theorem blockKey_s {key : List UInt8} {j : Nat} (h2 : key.length ≤ 64) (h3 : key.length + j ≤ 64) (h4 : 64 ≤ key.length + j) : blockKey key = key ++ List.replicate j 0 := by
  unfold blockKey keyBase
  rw [decide_eq_false (by omega), cond_false, decide_eq_false (by omega), cond_false, show 64 - key.length = j by omega]
theorem hmac_f {key b : List UInt8} (h : 1048576 < (key.length : Int)) : hmac key b = [] := by unfold hmac; rw [decide_eq_true h, cond_true]
theorem hmac_g {key b : List UInt8} (h : (key.length : Int) ≤ 1048576) (h2 : 1048512 < (b.length : Int)) : hmac key b = [] := by unfold hmac; rw [decide_eq_true h2, cond_true]; cases decide (1048576 < (key.length : Int)) <;> rfl
theorem hmac_y {key b : List UInt8} (h : (key.length : Int) ≤ 1048576) (h2 : (b.length : Int) ≤ 1048512) : hmac key b = sha (maskB (blockKey key) 92 ++ sha (maskB (blockKey key) 54 ++ b)) := by
  unfold hmac
  rw [decide_eq_false (by omega), cond_false, decide_eq_false (by omega), cond_false]
theorem hmac_i {key b : List UInt8} (h : (key.length : Int) ≤ 1048576) (h2 : (b.length : Int) ≤ 1048512) : hmac key b = sha (joinB [maskB (blockKey key) 92, sha (joinB [maskB (blockKey key) 54, b])]) := by
  rw [hmac_y h h2]
  simp [joinB]
theorem hmac_s {key b : List UInt8} (h : (key.length : Int) ≤ 1048576) (h2 : (b.length : Int) ≤ 1048512) : hmac key b = sha (maskB ((blockKey key).take 64) 92 ++ sha (maskB ((blockKey key).take 64) 54 ++ b)) := by
  rw [hmac_y h h2, List.take_of_length_le (blockKey_le key).1]
theorem mask_next {x : List UInt8} {z y : UInt8} {k : Nat} (h : k < x.length) : maskB (x.take k) y ++ [x.getD k z ^^^ y] = maskB (x.take (k + 1)) y := map_next (f := fun b => b ^^^ y) h
theorem expN_1 (prk info : List UInt8) (k : Nat) {m : List UInt8} (h : m = (expN prk info k).2 ++ info ++ [by8 (((k : Nat) : Int) + 1)]) : (expN prk info k).1 ++ hmac prk m = (expN prk info (k + 1)).1 := by rw [h]; rfl
theorem expN_2 (prk info : List UInt8) (k : Nat) {m : List UInt8} (h : m = (expN prk info k).2 ++ info ++ [by8 (((k : Nat) : Int) + 1)]) : hmac prk m = (expN prk info (k + 1)).2 := by rw [h]; rfl
theorem chain_f {key : List UInt8} {n : Int} (h : n < 0 ∨ 64 < n) : chain key n = [] := by
  unfold chain
  have : (decide (0 ≤ n) && decide (n ≤ 64)) = false := by simp only [Bool.and_eq_false_iff, decide_eq_false_iff_not]; omega
  rw [this, cond_false]
theorem chain_t {key : List UInt8} {n : Int} {i : Nat} (h0 : 0 ≤ n) (h1 : n ≤ 64) (hi : ((i : Nat) : Int) = n) : chain key n = chainN key i := by
  unfold chain
  rw [decide_eq_true h0, decide_eq_true h1, show n.toNat = i by omega]
  rfl
def leadsP (key to : List UInt8) (most : Int) : Int := bif decide (0 ≤ most) && decide (most ≤ 64) then firstI (fun i => decide (chain key i = to)) 0 (most.toNat + 1) else -1
theorem leadsP_f {key to : List UInt8} {most : Int} (h : most < 0 ∨ 64 < most) : leadsP key to most = -1 := by
  unfold leadsP
  have : (decide (0 ≤ most) && decide (most ≤ 64)) = false := by simp only [Bool.and_eq_false_iff, decide_eq_false_iff_not]; omega
  rw [this, cond_false]
section leads
variable {key to : List UInt8} {most : Int} {i : Nat}
theorem leadsP_y (h0 : 0 ≤ most) (h1 : most ≤ 64) : leadsP key to most = firstI (fun i => decide (chain key i = to)) 0 (most.toNat + 1) := by
  unfold leadsP
  rw [decide_eq_true h0, decide_eq_true h1]
  rfl
theorem leadsP_i (h0 : 0 ≤ most) (h1 : most ≤ 64) (hf : firstI (fun i => decide (chain key i = to)) 0 (most.toNat + 1) = firstI (fun i => decide (chain key i = to)) i (most.toNat + 1 - i)) (hi : ((i : Nat) : Int) ≤ most)
    (he : eqS (ByteArray.mk (chain key ((i : Nat) : Int)).toArray) (ByteArray.mk to.toArray) = true) : leadsP key to most = ((i : Nat) : Int) := by
  rw [leadsP_y h0 h1, hf, show most.toNat + 1 - i = (most.toNat - i) + 1 by omega]
  exact firstI_here (by rw [eqS_mk] at he; exact he)
theorem leads_next (hf : firstI (fun i => decide (chain key i = to)) 0 (most.toNat + 1) = firstI (fun i => decide (chain key i = to)) i (most.toNat + 1 - i)) (hi : ((i : Nat) : Int) ≤ most)
    (he : eqS (ByteArray.mk (chain key ((i : Nat) : Int)).toArray) (ByteArray.mk to.toArray) = false) : firstI (fun i => decide (chain key i = to)) 0 (most.toNat + 1) = firstI (fun i => decide (chain key i = to)) (i + 1) (most.toNat + 1 - (i + 1)) := by
  rw [hf, show most.toNat + 1 - i = (most.toNat - i) + 1 by omega, firstI_next (by rw [eqS_mk] at he; exact he), show most.toNat + 1 - (i + 1) = most.toNat - i by omega]
theorem leadsP_s (h0 : 0 ≤ most) (h1 : most ≤ 64) (hf : firstI (fun i => decide (chain key i = to)) 0 (most.toNat + 1) = firstI (fun i => decide (chain key i = to)) i (most.toNat + 1 - i)) (hi : ((i : Nat) : Int) ≤ most)
    (he : eqS (ByteArray.mk (chainN key i).toArray) (ByteArray.mk to.toArray) = true) : leadsP key to most = ((i : Nat) : Int) :=
  leadsP_i h0 h1 hf hi (by rw [chain_t (i := i) (by omega) (by omega) rfl]; exact he)
theorem leads_nexts (hf : firstI (fun i => decide (chain key i = to)) 0 (most.toNat + 1) = firstI (fun i => decide (chain key i = to)) i (most.toNat + 1 - i)) (hi : ((i : Nat) : Int) ≤ most) (h1 : most ≤ 64)
    (he : eqS (ByteArray.mk (chainN key i).toArray) (ByteArray.mk to.toArray) = false) : firstI (fun i => decide (chain key i = to)) 0 (most.toNat + 1) = firstI (fun i => decide (chain key i = to)) (i + 1) (most.toNat + 1 - (i + 1)) :=
  leads_next hf hi (by rw [chain_t (i := i) (by omega) (by omega) rfl]; exact he)
theorem leadsP_n (h0 : 0 ≤ most) (h1 : most ≤ 64) (hf : firstI (fun i => decide (chain key i = to)) 0 (most.toNat + 1) = firstI (fun i => decide (chain key i = to)) i (most.toNat + 1 - i)) (hi : most < ((i : Nat) : Int)) : leadsP key to most = -1 := by
  rw [leadsP_y h0 h1, hf, show most.toNat + 1 - i = 0 by omega]
  rfl
end leads
end Go.Proofs.Ytacoceibbheccaa.K
