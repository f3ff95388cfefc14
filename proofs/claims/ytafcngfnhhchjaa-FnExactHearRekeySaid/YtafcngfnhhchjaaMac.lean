/- Keyed digests, derived keys, streams, on lists. It names no program. -/
import Derived.Test.YtafcngfnhhchjaaSha
import Derived.Lib.ConvBytes
namespace Go.Proofs.Ytafcngfnhhchjaa.K
set_option linter.unusedSimpArgs false
set_option linter.unusedVariables false
def keyBase (key : List UInt8) : List UInt8 := bif decide (64 < (key.length : Int)) then sha key else key
def blockKey (key : List UInt8) : List UInt8 := bif decide (1048576 < (key.length : Int)) then [] else keyBase key ++ List.replicate (64 - (keyBase key).length) 0
theorem keyBase_len (key : List UInt8) : (keyBase key).length ≤ 64 := by
  unfold keyBase
  cases h : decide (64 < (key.length : Int))
  · have := of_decide_eq_false h; simp only [cond_false]; omega
  · have := sha_le key; simp only [cond_true]; omega
theorem blockKey_len {key : List UInt8} (h : key.length ≤ 1048576) : (blockKey key).length = 64 := by
  have := keyBase_len key
  unfold blockKey
  rw [decide_eq_false (by omega), cond_false, List.length_append, List.length_replicate]
  omega
theorem blockKey_le (key : List UInt8) : (blockKey key).length ≤ 64 ∧ (1048576 < key.length ∨ (blockKey key).length = 64) := by
  by_cases h : key.length ≤ 1048576
  · have := blockKey_len h; omega
  · refine ⟨?_, .inl (by omega)⟩
    unfold blockKey; rw [decide_eq_true (by omega), cond_true]; simp
def maskB (b : List UInt8) (x : UInt8) : List UInt8 := b.map fun y => y ^^^ x
theorem maskB_len (b : List UInt8) (x : UInt8) : (maskB b x).length = b.length := List.length_map _
theorem map_next {α β : Type} {f : α → β} {x : List α} {z : α} {k : Nat} (h : k < x.length) : (x.take k).map f ++ [f (x.getD k z)] = (x.take (k + 1)).map f := by
  rw [List.take_succ_eq_append_getElem h, List.map_append]
  simp only [List.map_cons, List.map_nil, List.getD_eq_getElem?_getD, List.getElem?_eq_getElem h, Option.getD_some]
theorem map_end {α β : Type} {f : α → β} {x : List α} {k : Nat} (h : x.length ≤ k) : (x.take k).map f = x.map f := by rw [List.take_of_length_le h]
def hmac (key b : List UInt8) : List UInt8 := bif decide (1048576 < (key.length : Int)) then [] else bif decide (1048512 < (b.length : Int)) then [] else sha (maskB (blockKey key) 92 ++ sha (maskB (blockKey key) 54 ++ b))
theorem hmac_le (key b : List UInt8) : (hmac key b).length ≤ 32 ∧ ((hmac key b).length = 32 ∨ ((hmac key b).length = 0 ∧ (1048576 < key.length ∨ 1048512 < b.length))) := by
  unfold hmac
  by_cases h1 : key.length ≤ 1048576
  · rw [decide_eq_false (by omega), cond_false]
    by_cases h2 : b.length ≤ 1048512
    · rw [decide_eq_false (by omega), cond_false]
      have hk := blockKey_len h1
      have hs := sha_le (maskB (blockKey key) 54 ++ b)
      rw [sha_len (by rw [List.length_append, maskB_len]; omega)]
      omega
    · rw [decide_eq_true (by omega), cond_true]; simp; omega
  · rw [decide_eq_true (by omega), cond_true]; simp; omega
theorem hmac_len {key b : List UInt8} (h1 : key.length ≤ 1048576) (h2 : b.length ≤ 1048512) : (hmac key b).length = 32 := by
  have := hmac_le key b
  omega
def expN (prk info : List UInt8) : Nat → List UInt8 × List UInt8
  | 0 => ([], [])
  | k + 1 => ((expN prk info k).1 ++ hmac prk ((expN prk info k).2 ++ info ++ [by8 ((k : Int) + 1)]), hmac prk ((expN prk info k).2 ++ info ++ [by8 ((k : Int) + 1)]))
theorem expN_len {prk info : List UInt8} (h1 : prk.length ≤ 1048576) (h2 : info.length ≤ 100) : ∀ k, (expN prk info k).1.length = 32 * k ∧ (expN prk info k).2.length ≤ 32
  | 0 => ⟨rfl, Nat.zero_le _⟩
  | k + 1 => by
    have h := expN_len h1 h2 k
    have hh := hmac_len h1 (b := (expN prk info k).2 ++ info ++ [by8 ((k : Int) + 1)]) (by simp only [List.length_append, List.length_cons, List.length_nil]; omega)
    simp only [expN, List.length_append, hh]
    omega
def expand (prk info : List UInt8) (n : Int) : List UInt8 × Bool :=
  bif decide (0 ≤ n) && decide (n ≤ 8160) && decide ((info.length : Int) ≤ 100) && decide ((prk.length : Int) ≤ 1048576) then ((expN prk info ((n + 31) / 32).toNat).1.take n.toNat, true) else ([], false)
theorem expand_t {prk info : List UInt8} {n : Int} (h0 : 0 ≤ n) (h1 : n ≤ 8160) (h2 : info.length ≤ 100) (h3 : prk.length ≤ 1048576) {k : Nat} (hk : n ≤ 32 * k) (hk2 : 32 * (k : Int) < n + 32) : expand prk info n = ((expN prk info k).1.take n.toNat, true) := by
  have : ((n + 31) / 32).toNat = k := by omega
  unfold expand
  rw [decide_eq_true h0, decide_eq_true h1, decide_eq_true (by omega), decide_eq_true (by omega), this]
  rfl
theorem expand_f {prk info : List UInt8} {n : Int} (h : n < 0 ∨ 8160 < n ∨ 100 < (info.length : Int) ∨ 1048576 < (prk.length : Int)) : expand prk info n = ([], false) := by
  unfold expand
  have : (decide (0 ≤ n) && decide (n ≤ 8160) && decide ((info.length : Int) ≤ 100) && decide ((prk.length : Int) ≤ 1048576)) = false := by
    simp only [Bool.and_eq_false_iff, decide_eq_false_iff_not]
    omega
  rw [this, cond_false]
theorem expand_len {prk info : List UInt8} {n : Int} (h0 : 0 ≤ n) (h1 : n ≤ 8160) (h2 : info.length ≤ 100) (h3 : prk.length ≤ 1048576) : (expand prk info n).1.length = n.toNat := by
  rw [expand_t h0 h1 h2 h3 (k := ((n + 31) / 32).toNat) (by omega) (by omega)]
  have := (expN_len h3 h2 ((n + 31) / 32).toNat).1
  simp only [List.length_take, this]
  omega
theorem expand_le (prk info : List UInt8) (n : Int) : (expand prk info n).1.length ≤ 8160 := by
  by_cases h : n < 0 ∨ 8160 < n ∨ 100 < (info.length : Int) ∨ 1048576 < (prk.length : Int)
  · rw [expand_f h]; simp
  · rw [expand_len (by omega) (by omega) (by omega) (by omega)]; omega
def strB (s : ByteArray) : List UInt8 := s.data.toList
theorem strB_mk (l : List UInt8) : strB (ByteArray.mk l.toArray) = l := by simp [strB]
section s2b
variable {P : Program} {ops : Array Oper} {Q : Exit → Act → World → Prop} {n : Nat} {e : Env} {w : World} {o : Oper} {rest : List Oper}
theorem wl_s2b (s : ByteArray) (hw : Want n ops o e) {d src dst E : Nat} {x : Operand} (hd : o.dst = some d) (hdn : Nat.blt d n = true) (ho : o.op = .convert src dst x) (hx : ev e x = .string s)
    (hs : P.underlying src = some .string) (hds : P.underlying dst = some (.slice E)) (he : P.underlying E = some (.int .u8)) (hl : (strB s).length ≤ 1073741824)
    (hk : ∀ a c w', Keep w w' → Rd w' 1 (.slice a (strB s).length c) (strB s).length ((strB s).map bV) → WL P ops Q rest n (upd e d (.slice a (strB s).length c)) w') : WL P ops Q (o :: rest) n e w := by
  have hsz : s.size = (strB s).length := (Array.length_toList (xs := s.data)).symm
  have hrun := Go.Lib.run_convert_string_bytes (P := P) w src dst E s hs hds he
  rw [hsz] at hrun
  refine wl_val hw hd hdn (w' := Go.Lib.bytesWorld w E s) (v := .slice (some ⟨w.heap.size, 0, none⟩) (strB s).length (grownCap w (strB s).length 0 E)) ?_ (hk (some ⟨w.heap.size, 0, none⟩) (grownCap w (strB s).length 0 E) (Go.Lib.bytesWorld w E s) ?_ ?_)
  · unfold execOp
    simp [ho, hx, hrun]
  · exact ⟨rfl, rfl, rfl, by rw [Go.Lib.bytesWorld_size]; omega, fun k hk _ => Go.Lib.bytesWorld_at_old w E s k hk⟩
  · refine ⟨_, _, rfl, grownCap_ge _ _ _ _, grownCap_le_maxLen _ _ _ _ (by simp only [maxLen]; omega), by simp, fun hn => ⟨_, rfl, fun j u hu => ?_⟩⟩
    rw [addr0]
    have hj : j < (strB s).length := by
      rcases Nat.lt_or_ge j (strB s).length with h | h
      · exact h
      · rw [List.getElem?_eq_none (by simpa using h)] at hu; cases hu
    have hm : ((strB s).map bV)[j]? = some (bV (strB s)[j]) := by rw [List.getElem?_map, List.getElem?_eq_getElem hj]; rfl
    rw [hm] at hu
    injection hu with hu
    rw [Go.Lib.bytesWorld_cell w E s j (by omega), ← hu]
    have hg : s.data.toList.getD j 0 = (strB s)[j] := by
      show (strB s).getD j 0 = _
      rw [List.getD_eq_getElem?_getD, List.getElem?_eq_getElem hj]
      rfl
    rw [hg]
    rfl
end s2b
def derive (key : List UInt8) (label : ByteArray) : List UInt8 := (expand key (strB label) 32).1
def rekey : ByteArray := ByteArray.mk ([114, 101, 107, 101, 121] : List UInt8).toArray
theorem derive_le (key : List UInt8) (label : ByteArray) : (derive key label).length ≤ 8160 ∧ (100 < (strB label).length ∨ 1048576 < key.length ∨ (derive key label).length = 32) := by
  refine ⟨expand_le _ _ _, ?_⟩
  by_cases h1 : (strB label).length ≤ 100
  · by_cases h2 : key.length ≤ 1048576
    · exact .inr (.inr (expand_len (by decide) (by decide) h1 h2))
    · exact .inr (.inl (by omega))
  · exact .inl (by omega)
def chainN (key : List UInt8) : Nat → List UInt8
  | 0 => key
  | k + 1 => derive (chainN key k) rekey
theorem chainN_le (key : List UInt8) : ∀ k, (chainN key k).length ≤ max key.length 8160
  | 0 => Nat.le_max_left _ _
  | k + 1 => Nat.le_trans (derive_le _ _).1 (Nat.le_max_right _ _)
def chain (key : List UInt8) (n : Int) : List UInt8 := bif decide (0 ≤ n) && decide (n ≤ 64) then chainN key n.toNat else []
theorem chain_le (key : List UInt8) (n : Int) : (chain key n).length ≤ max key.length 8160 := by
  unfold chain
  cases decide (0 ≤ n) && decide (n ≤ 64)
  · exact Nat.zero_le _
  · exact chainN_le _ _
def firstI (p : Int → Bool) : Nat → Nat → Int
  | _, 0 => -1
  | i, f + 1 => bif p (i : Int) then (i : Int) else firstI p (i + 1) f
theorem firstI_next {p : Int → Bool} {i f : Nat} (h : p (i : Int) = false) : firstI p i (f + 1) = firstI p (i + 1) f := by rw [firstI, h, cond_false]
theorem firstI_here {p : Int → Bool} {i f : Nat} (h : p (i : Int) = true) : firstI p i (f + 1) = (i : Int) := by rw [firstI, h, cond_true]
def tagP (key b : List UInt8) : List UInt8 := (hmac key b).take 16
theorem tagP_nil {key b : List UInt8} (h : (hmac key b).length = 0) : tagP key b = [] := by rw [tagP, List.eq_nil_of_length_eq_zero h]; rfl
def orL : List UInt8 → List UInt8 → Int → Int
  | a :: x, b :: y, d => orL x y (orI d (((a ^^^ b).toNat : Nat) : Int))
  | _, _, d => d
theorem orI_zero {a b : Int} (h0 : 0 ≤ a) (h1 : 0 ≤ b) : orI a b = 0 ↔ a = 0 ∧ b = 0 := by
  unfold orI
  constructor
  · intro h
    have h2 : a.toNat ||| b.toNat = 0 := by omega
    have h3 := @Nat.left_le_or a.toNat b.toNat
    have h4 := @Nat.right_le_or a.toNat b.toNat
    omega
  · rintro ⟨rfl, rfl⟩; rfl
theorem orL_zero : ∀ (x y : List UInt8) (d : Int), 0 ≤ d → x.length = y.length → (orL x y d = 0 ↔ d = 0 ∧ x = y)
  | [], [], d, _, _ => by simp [orL]
  | [], _ :: _, d, _, h => by cases h
  | _ :: _, [], d, _, h => by cases h
  | a :: x, b :: y, d, hd, h => by
    have h1 : 0 ≤ (((a ^^^ b).toNat : Nat) : Int) := Int.natCast_nonneg _
    rw [orL, orL_zero x y _ (by unfold orI; exact Int.natCast_nonneg _) (by simpa using h), orI_zero hd h1]
    have h2 : (((a ^^^ b).toNat : Nat) : Int) = 0 ↔ a = b := by
      rw [Int.natCast_eq_zero]
      constructor
      · intro h3
        have h4 : a ^^^ b = 0 := UInt8.toNat.inj h3
        exact UInt8.xor_eq_zero_iff.1 h4
      · rintro rfl; simp
    rw [h2]
    constructor
    · rintro ⟨⟨rfl, rfl⟩, rfl⟩; exact ⟨rfl, rfl⟩
    · rintro ⟨rfl, h5⟩; cases h5; exact ⟨⟨rfl, rfl⟩, rfl⟩
def diffP (a b : List UInt8) : Int := bif decide ((a.length : Int) = (b.length : Int)) then orL a b 0 else -1
theorem diffP_zero (a b : List UInt8) : decide (diffP a b = 0) = decide (a = b) := by
  unfold diffP
  by_cases h : a.length = b.length
  · have h2 : decide ((a.length : Int) = (b.length : Int)) = true := decide_eq_true (by omega)
    rw [h2, cond_true]
    have := orL_zero a b 0 (by omega) h
    simp [this]
  · have h2 : decide ((a.length : Int) = (b.length : Int)) = false := decide_eq_false (by omega)
    rw [h2, cond_false]
    have : a ≠ b := fun h2 => h (by rw [h2])
    simp [this]
theorem orL_next {x y : List UInt8} {k : Nat} (hx : k < x.length) (hy : k < y.length) (d : Int) : orL (x.drop k) (y.drop k) d = orL (x.drop (k + 1)) (y.drop (k + 1)) (orI d (((x.getD k 0 ^^^ y.getD k 0).toNat : Nat) : Int)) := by
  rw [List.drop_eq_getElem_cons hx, List.drop_eq_getElem_cons hy, orL]
  simp only [List.getD_eq_getElem?_getD, List.getElem?_eq_getElem hx, List.getElem?_eq_getElem hy, Option.getD_some]
theorem orL_end {x y : List UInt8} {k : Nat} (hx : x.length ≤ k) (d : Int) : orL (x.drop k) (y.drop k) d = d := by
  rw [List.drop_eq_nil_of_le hx]
  cases y.drop k <;> rfl
def blockOf (key head : List UInt8) (i : Int) : List UInt8 := bif decide (0 ≤ i) && decide (i ≤ 6) && decide ((head.length : Int) ≤ 100) then hmac key (115 :: head ++ putK i 4 4) else []
theorem blockOf_le (key head : List UInt8) (i : Int) : (blockOf key head i).length ≤ 32 := by
  unfold blockOf
  cases decide (0 ≤ i) && decide (i ≤ 6) && decide ((head.length : Int) ≤ 100)
  · exact Nat.zero_le _
  · exact (hmac_le _ _).1
theorem blockOf_len {key head : List UInt8} {i : Int} (h1 : key.length ≤ 1048576) (h2 : head.length ≤ 100) (h3 : 0 ≤ i) (h4 : i ≤ 6) : (blockOf key head i).length = 32 := by
  unfold blockOf
  rw [decide_eq_true h3, decide_eq_true h4, decide_eq_true (by omega)]
  exact hmac_len h1 (by simp only [List.length_append, List.length_cons, putK_len]; omega)
def strN (key head : List UInt8) : Nat → List UInt8
  | 0 => []
  | k + 1 => strN key head k ++ blockOf key head (k : Int)
theorem strN_len {key head : List UInt8} (h1 : key.length ≤ 1048576) (h2 : head.length ≤ 100) : ∀ k, k ≤ 7 → (strN key head k).length = 32 * k
  | 0, _ => rfl
  | k + 1, hk => by rw [strN, List.length_append, strN_len h1 h2 k (by omega), blockOf_len h1 h2 (by omega) (by omega)]; omega
def stream (key head : List UInt8) (n : Int) : List UInt8 := bif decide (0 ≤ n) && decide (n ≤ 200) && decide ((head.length : Int) ≤ 100) && decide ((key.length : Int) ≤ 1048576) then (strN key head ((n + 31) / 32).toNat).take n.toNat else []
theorem stream_t {key head : List UInt8} {n : Int} (h0 : 0 ≤ n) (h1 : n ≤ 200) (h2 : head.length ≤ 100) (h3 : key.length ≤ 1048576) {k : Nat} (hk : n ≤ 32 * k) (hk2 : 32 * (k : Int) < n + 32) : stream key head n = (strN key head k).take n.toNat := by
  have : ((n + 31) / 32).toNat = k := by omega
  unfold stream
  rw [decide_eq_true h0, decide_eq_true h1, decide_eq_true (by omega), decide_eq_true (by omega), this]
  rfl
theorem stream_f {key head : List UInt8} {n : Int} (h : n < 0 ∨ 200 < n ∨ 100 < (head.length : Int) ∨ 1048576 < (key.length : Int)) : stream key head n = [] := by
  unfold stream
  have : (decide (0 ≤ n) && decide (n ≤ 200) && decide ((head.length : Int) ≤ 100) && decide ((key.length : Int) ≤ 1048576)) = false := by
    simp only [Bool.and_eq_false_iff, decide_eq_false_iff_not]
    omega
  rw [this, cond_false]
theorem stream_len {key head : List UInt8} {n : Int} (h0 : 0 ≤ n) (h1 : n ≤ 200) (h2 : head.length ≤ 100) (h3 : key.length ≤ 1048576) : (stream key head n).length = n.toNat := by
  rw [stream_t h0 h1 h2 h3 (k := ((n + 31) / 32).toNat) (by omega) (by omega), List.length_take, strN_len h3 h2 _ (by omega)]
  omega
theorem stream_le (key head : List UInt8) (n : Int) : (stream key head n).length ≤ 200 := by
  by_cases h : n < 0 ∨ 200 < n ∨ 100 < (head.length : Int) ∨ 1048576 < (key.length : Int)
  · rw [stream_f h]; simp
  · rw [stream_len (by omega) (by omega) (by omega) (by omega)]; omega
def mix (key head b : List UInt8) : List UInt8 := bif decide ((b.length : Int) ≤ 200) && decide ((head.length : Int) ≤ 100) && decide ((key.length : Int) ≤ 1048576) then List.zipWith (fun x y => x ^^^ y) b (stream key head b.length) else []
theorem mix_f {key head b : List UInt8} (h : 200 < (b.length : Int) ∨ 100 < (head.length : Int) ∨ 1048576 < (key.length : Int)) : mix key head b = [] := by
  unfold mix
  have : (decide ((b.length : Int) ≤ 200) && decide ((head.length : Int) ≤ 100) && decide ((key.length : Int) ≤ 1048576)) = false := by
    simp only [Bool.and_eq_false_iff, decide_eq_false_iff_not]
    omega
  rw [this, cond_false]
theorem mix_t {key head b : List UInt8} (h1 : b.length ≤ 200) (h2 : head.length ≤ 100) (h3 : key.length ≤ 1048576) : mix key head b = List.zipWith (fun x y => x ^^^ y) b (stream key head b.length) := by
  unfold mix
  rw [decide_eq_true (by omega), decide_eq_true (by omega), decide_eq_true (by omega)]
  rfl
theorem mix_len {key head b : List UInt8} (h1 : b.length ≤ 200) (h2 : head.length ≤ 100) (h3 : key.length ≤ 1048576) : (mix key head b).length = b.length := by
  rw [mix_t h1 h2 h3, List.length_zipWith, stream_len (by omega) (by omega) h2 h3]
  omega
theorem mix_le (key head b : List UInt8) : (mix key head b).length ≤ 200 := by
  by_cases h : 200 < (b.length : Int) ∨ 100 < (head.length : Int) ∨ 1048576 < (key.length : Int)
  · rw [mix_f h]; simp
  · rw [mix_len (by omega) (by omega) (by omega)]; omega
theorem zip_next {f : UInt8 → UInt8 → UInt8} {x y : List UInt8} {k : Nat} (hx : k < x.length) (hy : k < y.length) : (List.zipWith f x y).take k ++ [f (x.getD k 0) (y.getD k 0)] = (List.zipWith f x y).take (k + 1) := by
  have hl : k < (List.zipWith f x y).length := by rw [List.length_zipWith]; omega
  rw [List.take_succ_eq_append_getElem hl, List.getElem_zipWith]
  simp only [List.getD_eq_getElem?_getD, List.getElem?_eq_getElem hx, List.getElem?_eq_getElem hy, Option.getD_some]
theorem zip_end {f : UInt8 → UInt8 → UInt8} {x y : List UInt8} {k : Nat} (hx : x.length ≤ k) : (List.zipWith f x y).take k = List.zipWith f x y := List.take_of_length_le (by rw [List.length_zipWith]; omega)
end Go.Proofs.Ytafcngfnhhchjaa.K
