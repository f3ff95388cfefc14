/- Keyed digests, derived keys, streams, on lists. It names no program. -/
import Derived.Test.YtacoceibbheccaaSha
import Derived.Lib.ConvBytes
import Derived.Lib.AppendStr
namespace Go.Proofs.Ytacoceibbheccaa.K
set_option linter.unusedSimpArgs false
set_option linter.unusedVariables false
def keyBase (key : List UInt8) : List UInt8 := bif decide (64 < (key.length : Int)) then sha key else key
def blockKey (key : List UInt8) : List UInt8 := bif decide (1048576 < (key.length : Int)) then [] else keyBase key ++ List.replicate (64 - (keyBase key).length) 0
theorem keyBase_len (key : List UInt8) : (keyBase key).length ≤ 64 := by
  unfold keyBase
  cases h : decide (64 < (key.length : Int))
  · have := of_decide_eq_false h; simp only [cond_false]; omega
  · have := sha_le key; simp only [cond_true]; omega
theorem blockKey_len {key : List UInt8} (h : key.length ≤ 1048576) : (blockKey key).length = 64 := by
  have := keyBase_len key
  unfold blockKey
  rw [decide_eq_false (by omega), cond_false, List.length_append, List.length_replicate]
  omega
theorem blockKey_le (key : List UInt8) : (blockKey key).length ≤ 64 ∧ (1048576 < key.length ∨ (blockKey key).length = 64) := by
  by_cases h : key.length ≤ 1048576
  · have := blockKey_len h; omega
  · refine ⟨?_, .inl (by omega)⟩
    unfold blockKey; rw [decide_eq_true (by omega), cond_true]; simp
def maskB (b : List UInt8) (x : UInt8) : List UInt8 := b.map fun y => y ^^^ x
theorem maskB_len (b : List UInt8) (x : UInt8) : (maskB b x).length = b.length := List.length_map _
theorem map_next {α β : Type} {f : α → β} {x : List α} {z : α} {k : Nat} (h : k < x.length) : (x.take k).map f ++ [f (x.getD k z)] = (x.take (k + 1)).map f := by
  rw [List.take_succ_eq_append_getElem h, List.map_append]
  simp only [List.map_cons, List.map_nil, List.getD_eq_getElem?_getD, List.getElem?_eq_getElem h, Option.getD_some]
theorem map_end {α β : Type} {f : α → β} {x : List α} {k : Nat} (h : x.length ≤ k) : (x.take k).map f = x.map f := by rw [List.take_of_length_le h]
def hmac (key b : List UInt8) : List UInt8 := bif decide (1048576 < (key.length : Int)) then [] else bif decide (1048512 < (b.length : Int)) then [] else sha (maskB (blockKey key) 92 ++ sha (maskB (blockKey key) 54 ++ b))
theorem hmac_le (key b : List UInt8) : (hmac key b).length ≤ 32 ∧ ((hmac key b).length = 32 ∨ ((hmac key b).length = 0 ∧ (1048576 < key.length ∨ 1048512 < b.length))) := by
  unfold hmac
  by_cases h1 : key.length ≤ 1048576
  · rw [decide_eq_false (by omega), cond_false]
    by_cases h2 : b.length ≤ 1048512
    · rw [decide_eq_false (by omega), cond_false]
      have hk := blockKey_len h1
      have hs := sha_le (maskB (blockKey key) 54 ++ b)
      rw [sha_len (by rw [List.length_append, maskB_len]; omega)]
      omega
    · rw [decide_eq_true (by omega), cond_true]; simp; omega
  · rw [decide_eq_true (by omega), cond_true]; simp; omega
theorem hmac_len {key b : List UInt8} (h1 : key.length ≤ 1048576) (h2 : b.length ≤ 1048512) : (hmac key b).length = 32 := by
  have := hmac_le key b
  omega
def expN (prk info : List UInt8) : Nat → List UInt8 × List UInt8
  | 0 => ([], [])
  | k + 1 => ((expN prk info k).1 ++ hmac prk ((expN prk info k).2 ++ info ++ [by8 ((k : Int) + 1)]), hmac prk ((expN prk info k).2 ++ info ++ [by8 ((k : Int) + 1)]))
theorem expN_len {prk info : List UInt8} (h1 : prk.length ≤ 1048576) (h2 : info.length ≤ 100) : ∀ k, (expN prk info k).1.length = 32 * k ∧ (expN prk info k).2.length ≤ 32
  | 0 => ⟨rfl, Nat.zero_le _⟩
  | k + 1 => by
    have h := expN_len h1 h2 k
    have hh := hmac_len h1 (b := (expN prk info k).2 ++ info ++ [by8 ((k : Int) + 1)]) (by simp only [List.length_append, List.length_cons, List.length_nil]; omega)
    simp only [expN, List.length_append, hh]
    omega
def expand (prk info : List UInt8) (n : Int) : List UInt8 × Bool :=
  bif decide (0 ≤ n) && decide (n ≤ 8160) && decide ((info.length : Int) ≤ 100) && decide ((prk.length : Int) ≤ 1048576) then ((expN prk info ((n + 31) / 32).toNat).1.take n.toNat, true) else ([], false)
theorem expand_t {prk info : List UInt8} {n : Int} (h0 : 0 ≤ n) (h1 : n ≤ 8160) (h2 : info.length ≤ 100) (h3 : prk.length ≤ 1048576) {k : Nat} (hk : n ≤ 32 * k) (hk2 : 32 * (k : Int) < n + 32) : expand prk info n = ((expN prk info k).1.take n.toNat, true) := by
  have : ((n + 31) / 32).toNat = k := by omega
  unfold expand
  rw [decide_eq_true h0, decide_eq_true h1, decide_eq_true (by omega), decide_eq_true (by omega), this]
  rfl
theorem expand_f {prk info : List UInt8} {n : Int} (h : n < 0 ∨ 8160 < n ∨ 100 < (info.length : Int) ∨ 1048576 < (prk.length : Int)) : expand prk info n = ([], false) := by
  unfold expand
  have : (decide (0 ≤ n) && decide (n ≤ 8160) && decide ((info.length : Int) ≤ 100) && decide ((prk.length : Int) ≤ 1048576)) = false := by
    simp only [Bool.and_eq_false_iff, decide_eq_false_iff_not]
    omega
  rw [this, cond_false]
theorem expand_len {prk info : List UInt8} {n : Int} (h0 : 0 ≤ n) (h1 : n ≤ 8160) (h2 : info.length ≤ 100) (h3 : prk.length ≤ 1048576) : (expand prk info n).1.length = n.toNat := by
  rw [expand_t h0 h1 h2 h3 (k := ((n + 31) / 32).toNat) (by omega) (by omega)]
  have := (expN_len h3 h2 ((n + 31) / 32).toNat).1
  simp only [List.length_take, this]
  omega
theorem expand_le (prk info : List UInt8) (n : Int) : (expand prk info n).1.length ≤ 8160 := by
  by_cases h : n < 0 ∨ 8160 < n ∨ 100 < (info.length : Int) ∨ 1048576 < (prk.length : Int)
  · rw [expand_f h]; simp
  · rw [expand_len (by omega) (by omega) (by omega) (by omega)]; omega
def strB (s : ByteArray) : List UInt8 := s.data.toList
theorem strB_mk (l : List UInt8) : strB (ByteArray.mk l.toArray) = l := by simp [strB]
section s2b
variable {P : Program} {ops : Array Oper} {Q : Exit → Act → World → Prop} {n : Nat} {e : Env} {w : World} {o : Oper} {rest : List Oper}
theorem wl_cvs {a : Option Addr} {c m lo E : Nat} {xs : List Value} (hr : Ow w lo E 1 (.slice a m c) m xs) (hw : Want n ops o e) {d T : Nat} {x : Operand} (hd : o.dst = some d) (hdn : Nat.blt d n = true) (ho : o.op = .convert T T x) (hx : ev e x = .slice a m c)
    (hT : P.underlying T = some (.slice E)) (he : P.underlying E = some (.int .u8)) (hm : 0 < m)
    (hk : ∀ w', Ch (fun b => (Value.slice a m c).ownBlock = some b) w w' → Rd w' 1 (.slice a m c) m xs → WL P ops Q rest n (upd e d (.slice a m c)) w') : WL P ops Q (o :: rest) n e w := by
  obtain ⟨hl, hr⟩ := hr
  rcases hr with ⟨h1, h2⟩ | ⟨g, cap, cur, h1, hb, hg, hn, hmx, hsz, htk⟩
  · omega
  · injection h1 with h1 h2 h3
    subst h1 h3
    have hlt : g < w.heap.size := (Array.getElem?_eq_some_iff.1 hg).1
    have hsh : w.shape? g = some (E, cur.size) := by unfold World.shape?; rw [hg]
    have hrun : (convert T T (.slice (some ⟨g, 0, none⟩) m c)).run P w = .ok (.slice (some ⟨g, 0, none⟩) m c) (w.freeze ⟨g, cur.size, none⟩ 1) := by
      simp [convert, run_underlying hT, run_underlying he, markStringish, hsh]
    have hf : (w.freeze ⟨g, cur.size, none⟩ 1) = { w with heap := w.heap.modify g fun | .cells c elem (lo, hi) => .cells c elem (if lo == hi then (cur.size, cur.size + 1) else (min lo cur.size, max hi (cur.size + 1))) | o => o } := by
      unfold World.freeze
      rw [if_neg (by decide)]
      rfl
    have hat : (w.freeze ⟨g, cur.size, none⟩ 1).heap[g]? = some (.cells cur E (cur.size, cur.size + 1)) := by
      rw [hf]
      show (w.heap.modify g _)[g]? = _
      rw [Array.getElem?_modify, if_pos rfl, hg]
      rfl
    refine wl_val hw hd hdn (w' := w.freeze ⟨g, cur.size, none⟩ 1) (v := .slice (some ⟨g, 0, none⟩) m c) ?_ (hk _ ⟨?_, ?_, ?_, ?_, ?_⟩ ⟨_, _, rfl, hn, hmx, hl, fun _ => ⟨_, rfl, fun j u hu => ?_⟩⟩)
    · unfold execOp
      simp [ho, hx, hrun]
    · rw [hf]
    · rw [hf]
    · rw [hf]
    · rw [hf]; show _ ≤ (w.heap.modify g _).size; rw [Array.size_modify]; exact Nat.le_refl _
    · intro k hk hn
      have hkg : g ≠ k := fun e => hn (by rw [← e]; rfl)
      rw [hf]
      show (w.heap.modify g _)[k]? = _
      rw [Array.getElem?_modify, if_neg hkg]
    · rw [addr0, cell_of_row _ g j cur E (cur.size, cur.size + 1) hat]
      rw [← htk, List.getElem?_take] at hu
      split at hu
      · simpa using hu
      · cases hu
theorem apZ (x l : List UInt8) (hw : Want n ops o e) {T E U : Nat} {v : Value} (hT : SlTy P T E 1 1 (.int .u8 0)) (hU : P.underlying U = some .string) {base : Nat} (hown : Ow w base E 1 v x.length (x.map bV)) (hbase : base ≤ w.heap.size) {d : Nat} {a1 a2 : Operand}
    (hk : ∀ a c w', Ch (fun k => v.ownBlock = some k) w w' → Ow w' base E 1 (.slice a (x ++ l).length c) (x ++ l).length ((x ++ l).map bV) → (x ++ l).length ≤ 1073741824 → WL P ops Q rest n (upd e d (.slice a (x ++ l).length c)) w')
    (hd : o.dst = some d := by exact rfl) (hdn : Nat.blt d n = true := by exact rfl) (ho : o.op = .call { callee := .builtin .append, args := #[a1, a2], argTypes := #[T, U] } := by exact rfl) (hx : ev e a1 = v := by exact rfl) (hy : ev e a2 = .string (ByteArray.mk l.toArray) := by exact rfl)
    (hs : x.length + l.length ≤ 1073741824 := by first | (simp only [List.length_append, List.length_cons, List.length_nil, List.length_replicate, List.length_take, List.length_drop]; omega) | omega | assumption) : WL P ops Q (o :: rest) n e w := by
  have hq : (x ++ l).length = x.length + l.length := List.length_append
  have hsz : (ByteArray.mk l.toArray).size = l.length := by simp [ByteArray.size]
  have hc : Go.Lib.strCells (ByteArray.mk l.toArray) = l.map bV := by simp [Go.Lib.strCells, bV]
  obtain ⟨i0, hi, hz, hs0, hb⟩ := hT.info
  obtain ⟨v', w', hrun, h1, h2, h3⟩ := Go.Lib.run_append_own_string (P := P) w base T U o.type E i0 hT.under hU hi hz hs0 hb v x.length (x.map bV) hown (ByteArray.mk l.toArray) (by rw [hsz]; simp only [maxLen]; omega) (by rw [hsz]; omega) hbase
  rw [hsz, hc, ← List.map_append, ← hq] at h1
  obtain ⟨a, c, rfl⟩ := own_form h1
  refine wl_val hw hd hdn (w' := w') (v := .slice a (x ++ l).length c) ?_ (hk a c w' ⟨h2.os, h2.tape, h2.output, h2.size, fun k hk hn => h2.block k hk (fun h => hn h.symm)⟩ h1 (by omega))
  unfold execOp
  simp [ho, hx, hy, resolve, invoke, builtin, hrun]
theorem wl_s2b (s : ByteArray) (hw : Want n ops o e) {d src dst E : Nat} {x : Operand} (hd : o.dst = some d) (hdn : Nat.blt d n = true) (ho : o.op = .convert src dst x) (hx : ev e x = .string s)
    (hs : P.underlying src = some .string) (hds : P.underlying dst = some (.slice E)) (he : P.underlying E = some (.int .u8)) (hl : (strB s).length ≤ 1073741824)
    (hk : ∀ a c w', Keep w w' → Rd w' 1 (.slice a (strB s).length c) (strB s).length ((strB s).map bV) → WL P ops Q rest n (upd e d (.slice a (strB s).length c)) w') : WL P ops Q (o :: rest) n e w := by
  have hsz : s.size = (strB s).length := (Array.length_toList (xs := s.data)).symm
  have hrun := Go.Lib.run_convert_string_bytes (P := P) w src dst E s hs hds he
  rw [hsz] at hrun
  refine wl_val hw hd hdn (w' := Go.Lib.bytesWorld w E s) (v := .slice (some ⟨w.heap.size, 0, none⟩) (strB s).length (grownCap w (strB s).length 0 E)) ?_ (hk (some ⟨w.heap.size, 0, none⟩) (grownCap w (strB s).length 0 E) (Go.Lib.bytesWorld w E s) ?_ ?_)
  · unfold execOp
    simp [ho, hx, hrun]
  · exact ⟨rfl, rfl, rfl, by rw [Go.Lib.bytesWorld_size]; omega, fun k hk _ => Go.Lib.bytesWorld_at_old w E s k hk⟩
  · refine ⟨_, _, rfl, grownCap_ge _ _ _ _, grownCap_le_maxLen _ _ _ _ (by simp only [maxLen]; omega), by simp, fun hn => ⟨_, rfl, fun j u hu => ?_⟩⟩
    rw [addr0]
    have hj : j < (strB s).length := by
      rcases Nat.lt_or_ge j (strB s).length with h | h
      · exact h
      · rw [List.getElem?_eq_none (by simpa using h)] at hu; cases hu
    have hm : ((strB s).map bV)[j]? = some (bV (strB s)[j]) := by rw [List.getElem?_map, List.getElem?_eq_getElem hj]; rfl
    rw [hm] at hu
    injection hu with hu
    rw [Go.Lib.bytesWorld_cell w E s j (by omega), ← hu]
    have hg : s.data.toList.getD j 0 = (strB s)[j] := by
      show (strB s).getD j 0 = _
      rw [List.getD_eq_getElem?_getD, List.getElem?_eq_getElem hj]
      rfl
    rw [hg]
    rfl
end s2b
def derive (key : List UInt8) (label : ByteArray) : List UInt8 := (expand key (strB label) 32).1
def rekey : ByteArray := ByteArray.mk ([114, 101, 107, 101, 121] : List UInt8).toArray
theorem derive_le (key : List UInt8) (label : ByteArray) : (derive key label).length ≤ 8160 ∧ (100 < (strB label).length ∨ 1048576 < key.length ∨ (derive key label).length = 32) := by
  refine ⟨expand_le _ _ _, ?_⟩
  by_cases h1 : (strB label).length ≤ 100
  · by_cases h2 : key.length ≤ 1048576
    · exact .inr (.inr (expand_len (by decide) (by decide) h1 h2))
    · exact .inr (.inl (by omega))
  · exact .inl (by omega)
def chainN (key : List UInt8) : Nat → List UInt8
  | 0 => key
  | k + 1 => derive (chainN key k) rekey
theorem chainN_le (key : List UInt8) : ∀ k, (chainN key k).length ≤ max key.length 8160
  | 0 => Nat.le_max_left _ _
  | k + 1 => Nat.le_trans (derive_le _ _).1 (Nat.le_max_right _ _)
def chain (key : List UInt8) (n : Int) : List UInt8 := bif decide (0 ≤ n) && decide (n ≤ 64) then chainN key n.toNat else []
theorem chain_le (key : List UInt8) (n : Int) : (chain key n).length ≤ max key.length 8160 := by
  unfold chain
  cases decide (0 ≤ n) && decide (n ≤ 64)
  · exact Nat.zero_le _
  · exact chainN_le _ _
def firstI (p : Int → Bool) : Nat → Nat → Int
  | _, 0 => -1
  | i, f + 1 => bif p (i : Int) then (i : Int) else firstI p (i + 1) f
theorem firstI_next {p : Int → Bool} {i f : Nat} (h : p (i : Int) = false) : firstI p i (f + 1) = firstI p (i + 1) f := by rw [firstI, h, cond_false]
theorem firstI_here {p : Int → Bool} {i f : Nat} (h : p (i : Int) = true) : firstI p i (f + 1) = (i : Int) := by rw [firstI, h, cond_true]
end Go.Proofs.Ytacoceibbheccaa.K
