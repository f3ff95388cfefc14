/- Rows of structs: every element takes sz cells. -/
import Derived.Test.YtacoceibbheccaaOps
namespace Go.Proofs.Ytacoceibbheccaa.K
set_option linter.unusedVariables false
set_option linter.unusedSimpArgs false
section flat
variable {α : Type} {enc : α → List Value} {sz : Nat}
theorem rows_len (h : ∀ a, (enc a).length = sz) : ∀ x : List α, (x.flatMap enc).length = x.length * sz
  | [] => by simp
  | a :: x => by rw [List.flatMap_cons, List.length_append, h, rows_len h x, List.length_cons, Nat.add_mul]; omega
theorem rows_drop (h : ∀ a, (enc a).length = sz) : ∀ (x : List α) (k : Nat), (x.flatMap enc).drop (k * sz) = (x.drop k).flatMap enc
  | [], k => by simp
  | a :: x, 0 => by simp
  | a :: x, k + 1 => by
    rw [List.flatMap_cons, List.drop_succ_cons, ← rows_drop h x k, show (k + 1) * sz = (enc a).length + k * sz by rw [h, Nat.add_mul]; omega, ← List.drop_drop, List.drop_left]
theorem rows_take (h : ∀ a, (enc a).length = sz) (x : List α) (k : Nat) : (x.flatMap enc).take (k * sz) = (x.take k).flatMap enc := by
  have h1 : x.flatMap enc = (x.take k).flatMap enc ++ (x.drop k).flatMap enc := by rw [← List.flatMap_append, List.take_append_drop]
  rcases Nat.lt_or_ge k x.length with hk | hk
  · rw [h1, List.take_left' (by rw [rows_len h, List.length_take, Nat.min_eq_left (by omega)])]
  · rw [List.take_of_length_le hk, List.take_of_length_le]
    rw [rows_len h]
    exact Nat.mul_le_mul_right _ hk
theorem rows_elem (h : ∀ a, (enc a).length = sz) {x : List α} {k j : Nat} (d : α) (hj : j = k * sz) (hk : k < x.length) : ((x.flatMap enc).drop j).take sz = enc (x.getD k d) := by
  subst hj
  rw [rows_drop h, List.drop_eq_getElem_cons hk, List.flatMap_cons, List.take_left' (h _)]
  simp [List.getElem?_eq_getElem hk]
theorem rows_get (h : ∀ a, (enc a).length = sz) {x : List α} {k j i : Nat} (d : α) (hj : j = k * sz + i) (hi : i < sz) (hk : k < x.length) : (x.flatMap enc)[j]? = (enc (x.getD k d))[i]? := by
  have h1 := rows_elem h d rfl hk
  rw [← h1, List.getElem?_take, if_pos hi, List.getElem?_drop, hj]
theorem rows_set (h : ∀ a, (enc a).length = sz) {x : List α} {k j : Nat} (b : α) (hj : j = k * sz) (hk : k < x.length) : (x.flatMap enc).take j ++ enc b ++ (x.flatMap enc).drop (j + sz) = (x.set k b).flatMap enc := by
  subst hj
  rw [rows_take h, show k * sz + sz = (k + 1) * sz by rw [Nat.add_mul]; omega, rows_drop h, List.set_eq_take_append_cons_drop, if_pos hk, List.flatMap_append, List.flatMap_cons, List.append_assoc]
theorem rows_made (h : ∀ a, (enc a).length = sz) (z : α) : ∀ n : Nat, (List.replicate n z).flatMap enc = (List.replicate n (enc z)).flatten
  | 0 => by simp
  | n + 1 => by rw [List.replicate_succ, List.replicate_succ, List.flatMap_cons, List.flatten_cons, rows_made h z n]
theorem rows_one (P : Value → Prop) {x : List α} (h : ∀ a, ∀ u ∈ enc a, P u) : ∀ u ∈ x.flatMap enc, P u := fun u hu => by
  obtain ⟨a, _, ha⟩ := List.mem_flatMap.1 hu
  exact h a u ha
theorem rows_split (h : ∀ a, (enc a).length = sz) {x : List α} {k : Nat} (d : α) (hk : k < x.length) : x.flatMap enc = (x.take k).flatMap enc ++ (enc (x.getD k d) ++ (x.drop (k + 1)).flatMap enc) := by
  conv => lhs; rw [← List.take_append_drop k x, List.drop_eq_getElem_cons hk]
  rw [List.flatMap_append, List.flatMap_cons]
  simp [List.getElem?_eq_getElem hk]
theorem rows_part (h : ∀ a, (enc a).length = sz) {x : List α} {k j off n : Nat} (d : α) (hj : j = k * sz + off) (hn : off + n ≤ sz) (hk : k < x.length) :
    ((x.flatMap enc).drop j).take n = ((enc (x.getD k d)).drop off).take n := by
  subst hj
  have hA : ((x.take k).flatMap enc).length = k * sz := by rw [rows_len h, List.length_take, Nat.min_eq_left (by omega)]
  have hB := h (x.getD k d)
  rw [rows_split h d hk, ← List.drop_drop, ← hA, List.drop_left, List.drop_append_of_le_length (by omega), List.take_append_of_le_length (by rw [List.length_drop]; omega)]
theorem rows_setpart (h : ∀ a, (enc a).length = sz) {x : List α} {k j off : Nat} {us : List Value} (d b : α) (hj : j = k * sz + off) (hn : off + us.length ≤ sz) (hk : k < x.length)
    (hb : (enc (x.getD k d)).take off ++ us ++ (enc (x.getD k d)).drop (off + us.length) = enc b) : (x.flatMap enc).take j ++ us ++ (x.flatMap enc).drop (j + us.length) = (x.set k b).flatMap enc := by
  subst hj
  have hA : ((x.take k).flatMap enc).length = k * sz := by rw [rows_len h, List.length_take, Nat.min_eq_left (by omega)]
  have hB := h (x.getD k d)
  rw [List.set_eq_take_append_cons_drop, if_pos hk, List.flatMap_append, List.flatMap_cons, ← hb, rows_split h d hk]
  generalize (x.take k).flatMap enc = A at hA ⊢
  generalize (x.drop (k + 1)).flatMap enc = C
  generalize enc (x.getD k d) = B at hB ⊢
  rw [show k * sz + off + us.length = A.length + (off + us.length) by omega, ← List.drop_drop, List.drop_left, ← hA, List.take_append, List.take_of_length_le (by omega : A.length ≤ A.length + off),
    show A.length + off - A.length = off by omega, List.take_append_of_le_length (by omega), List.drop_append_of_le_length (by omega)]
  simp
theorem madeF (z : Array Value) (a : α) (hz : z.toList = enc a) (hs : z.size = sz) (h0 : 0 < sz) (h : ∀ a, (enc a).length = sz) (m : Nat) : (madeCells z (m * sz)).toList = (List.replicate m a).flatMap enc := by
  apply List.ext_getElem
  · rw [rows_len h, List.length_replicate]; simp [madeCells]
  · intro i h1 h2
    have hi : i < m * sz := by simpa [madeCells] using h1
    have hk : i / sz < m := Nat.div_lt_of_lt_mul (by rw [Nat.mul_comm]; exact hi)
    have hr := rows_get h (x := List.replicate m a) (k := i / sz) (j := i) (i := i % sz) a (by rw [Nat.mul_comm]; exact (Nat.div_add_mod i sz).symm) (Nat.mod_lt _ h0) (by rw [List.length_replicate]; exact hk)
    rw [List.getElem?_eq_getElem h2] at hr
    have hg : (List.replicate m a).getD (i / sz) a = a := by simp [List.getElem?_replicate, hk]
    rw [hg, ← hz] at hr
    have hlt : i % z.size < z.size := Nat.mod_lt _ (by omega)
    have h3 : (madeCells z (m * sz)).toList[i] = z[i % z.size]! := by simp [madeCells]
    rw [h3, getElem!_pos z (i % z.size) hlt]
    have h4 : z.toList[i % sz]? = some z[i % z.size] := by
      rw [← hs, Array.getElem?_toList, Array.getElem?_eq_getElem hlt]
    rw [h4] at hr
    exact (Option.some.inj hr).symm
end flat
section ops
variable {P : Program} {ops : Array Oper} {Q : Exit → Act → World → Prop} {n : Nat} {e : Env} {w : World} {o : Oper} {rest : List Oper} {α : Type} {enc : α → List Value} {sz : Nat}
theorem wl_storeF (h : ∀ a, (enc a).length = sz) (x : List α) (k off : Nat) (d0 b : α) (u : Value) (us : List Value) (hw : Want n ops o e) {base E L j m : Nat} {p y : Operand} {v : Value} (hd : o.dst = none) (ho : o.op = .store L p y) (hx : ev e p = .pointer (some (elA v j))) (hj : j = k * sz + off) (hy : ev e y = u)
    (hus : u.cells = us.toArray) (h1 : ∀ q ∈ us, q.oneCell' = true) (hS : ∀ w, (sizeOf L).run P w = .ok us.length w) (hr : Ow w base E sz v m (x.flatMap enc)) (hk : k < x.length) (hn : off + us.length ≤ sz) (hu : 0 < us.length)
    (hb : (enc (x.getD k d0)).take off ++ us ++ (enc (x.getD k d0)).drop (off + us.length) = enc b)
    (hc : ∀ w', Ch (fun k => v.ownBlock = some k) w w' → Ow w' base E sz v m ((x.set k b).flatMap enc) → WL P ops Q rest n e w') : WL P ops Q (o :: rest) n e w := by
  have hl : j + us.length ≤ (x.flatMap enc).length := by
    rw [rows_len h, hj]
    have : (k + 1) * sz ≤ x.length * sz := Nat.mul_le_mul_right _ hk
    rw [Nat.add_mul] at this
    omega
  exact wl_storeE u us hw hd ho hx hy hus h1 hS hr hl hu fun w' c1 c2 _ => hc w' c1 (by rw [← rows_setpart h d0 b hj hn hk hb]; exact c2)
theorem wl_makeF (h : ∀ a, (enc a).length = sz) (z0 : α) (m : Nat) (hw : Want n ops o e) {d T E bytes : Nat} {z : Value} {x : Operand} (hd : o.dst = some d) (hdn : Nat.blt d n = true) (ho : o.op = .makeSlice T x x) (hT : SlTy P T E sz bytes z)
    (hz : z.cells.toList = enc z0) (hs : z.cells.size = sz) (h0 : 0 < sz) (i : Int) (hx : ev e x = .int .i64 i) (hi : i = (m : Int)) (hsz : m * bytes ≤ 281474976710656) (h63 : m ≤ 9223372036854775807)
    (hk : ∀ a c w', Keep w w' → Ow w' w.heap.size E sz (.slice a (List.replicate m z0).length c) (List.replicate m z0).length ((List.replicate m z0).flatMap enc) →
      WL P ops Q rest n (upd e d (.slice a (List.replicate m z0).length c)) w') : WL P ops Q (o :: rest) n e w := by
  subst hi
  refine wl_make hw hd hdn ho hT (m : Int) hx (by omega) (by have h := Int.ofNat_le.2 hsz; rw [Int.natCast_mul] at h; omega) (by omega) fun v w' hk1 hown => ?_
  have hown' : w'.ownsRow w.heap.size E sz v (List.replicate m z0).length ((List.replicate m z0).flatMap enc) := by
    rw [List.length_replicate, ← madeF z.cells z0 hz hs h0 h]; exact hown
  obtain ⟨a, c, rfl⟩ := own_form hown'
  exact hk a c w' hk1 hown'
end ops
section lists
variable {α : Type} {z : α}
def cpL (x : List α) : List α := x
theorem cpL_end {x : List α} {k : Nat} (h : x.length ≤ k) : cpL x = x.take k ++ List.replicate (x.length - k) z := by
  rw [List.take_of_length_le h, show x.length - k = 0 by omega]; simp [cpL]
theorem eqL_len [DecidableEq α] {a b : List α} (h : ¬ ((a.length : Nat) : Int) = ((b.length : Nat) : Int)) : decide (a = b) = false := by
  simp only [decide_eq_false_iff_not]
  rintro rfl
  exact h rfl
theorem eqL_el [DecidableEq α] {a b : List α} {k : Nat} (h : a.getD k z ≠ b.getD k z) : decide (a = b) = false := by
  simp only [decide_eq_false_iff_not]
  rintro rfl
  exact h rfl
theorem eqL_all [DecidableEq α] {a b : List α} {k : Nat} (h : a.take k = b.take k) (h1 : a.length ≤ k) (h2 : b.length ≤ k) : decide (a = b) = true := by
  rw [List.take_of_length_le h1, List.take_of_length_le h2] at h
  simp [h]
theorem eqL_next {a b : List α} {k : Nat} (h : a.take k = b.take k) (h1 : k < a.length) (h2 : k < b.length) (he : a.getD k z = b.getD k z) : a.take (k + 1) = b.take (k + 1) := by
  rw [List.take_succ_eq_append_getElem h1, List.take_succ_eq_append_getElem h2, h]
  simp only [List.getD_eq_getElem?_getD, List.getElem?_eq_getElem h1, List.getElem?_eq_getElem h2, Option.getD_some] at he
  rw [he]
end lists
section snoc
variable {α : Type} {f : α → Bool} {z : α} {x : List α} {k : Nat}
theorem take_snoc (h : k < x.length) : x.take k ++ [x.getD k z] = x.take (k + 1) := by
  rw [List.take_succ_eq_append_getElem h]
  simp [List.getElem?_eq_getElem h]
theorem filt_t (h : k < x.length) (hf : f (x.getD k z) = true) : (x.take k).filter f ++ [x.getD k z] = (x.take (k + 1)).filter f := by
  rw [← take_snoc (z := z) h, List.filter_append, List.filter_cons, if_pos hf, List.filter_nil]
theorem filt_f (h : k < x.length) (hf : f (x.getD k z) = false) : (x.take k).filter f = (x.take (k + 1)).filter f := by
  rw [← take_snoc (z := z) h, List.filter_append, List.filter_cons, hf, List.filter_nil]
  simp
end snoc
section find
variable {α : Type} {p : α → Bool} {z : α}
def findF (p : α → Bool) : List α → Int
  | [] => -1
  | a :: x => if p a then 0 else (if findF p x < 0 then -1 else findF p x + 1)
theorem findF_range : ∀ x : List α, -1 ≤ findF p x ∧ findF p x < (x.length : Int)
  | [] => by simp [findF]
  | a :: x => by
    have := findF_range x
    simp only [findF, List.length_cons]
    split
    · omega
    · split <;> omega
theorem findF_none : ∀ {x : List α} {k : Nat}, (∀ j, j < k → p (x.getD j z) = false) → x.length ≤ k → findF p x = -1
  | [], _, _, _ => rfl
  | a :: x, 0, _, h => by simp at h
  | a :: x, k + 1, h, hk => by
    have h0 : p a = false := by simpa using h 0 (by omega)
    have h1 : findF p x = -1 := findF_none (k := k) (fun j hj => by simpa using h (j + 1) (by omega)) (by simpa using hk)
    simp [findF, h0, h1]
theorem findF_some : ∀ {x : List α} {k : Nat}, (∀ j, j < k → p (x.getD j z) = false) → k < x.length → p (x.getD k z) = true → findF p x = (k : Int)
  | [], _, _, h, _ => by simp at h
  | a :: x, 0, _, _, h => by
    have : p a = true := by simpa using h
    simp [findF, this]
  | a :: x, k + 1, h, hk, hp => by
    have h0 : p a = false := by simpa using h 0 (by omega)
    have hx : ∀ j, j < k → p (x.getD j z) = false := fun j hj => by simpa using h (j + 1) (by omega)
    have h1 : findF p x = (k : Int) := findF_some hx (by simpa using hk) (by simpa using hp)
    simp only [findF, h0, h1]
    simp
    omega
theorem findF_le : ∀ {x : List α} {j : Nat}, j < x.length → p (x.getD j z) = true → 0 ≤ findF p x ∧ findF p x ≤ (j : Int)
  | [], _, h, _ => by simp at h
  | a :: x, 0, _, h => by
    have : p a = true := by simpa using h
    simp [findF, this]
  | a :: x, j + 1, hj, h => by
    have := findF_le (x := x) (j := j) (by simpa using hj) (by simpa using h)
    simp only [findF]
    split
    · omega
    · split <;> omega
theorem find_next {x : List α} {k : Nat} (h : ∀ j, j < k → p (x.getD j z) = false) (hk : p (x.getD k z) = false) : ∀ j, j < k + 1 → p (x.getD j z) = false := fun j hj => by
  rcases Nat.lt_succ_iff_lt_or_eq.1 hj with h1 | rfl
  · exact h j h1
  · exact hk
end find
section heldl
variable {α : Type} {z : α} {h : α → Int → Int} {mk : Int → α} {st : Int}
def heldL (h : α → Int → Int) : List α → Int → Int
  | [], k => k
  | a :: x, k => if h a k < 0 then -1 else heldL h x (h a k)
def marksL (mk : Int → α) (st : Int) (k : Int) : Nat → List α
  | 0 => []
  | n + 1 => mk k :: marksL mk st (k + st) n
theorem marksL_len : ∀ (n : Nat) (k : Int), (marksL mk st k n).length = n
  | 0, _ => rfl
  | n + 1, k => by simp [marksL, marksL_len n (k + st)]
theorem marksL_snoc : ∀ (n : Nat) (k : Int), marksL mk st k (n + 1) = marksL mk st k n ++ [mk (k + st * n)]
  | 0, k => by simp [marksL]
  | n + 1, k => by
    rw [marksL, marksL_snoc n (k + st), marksL]
    simp only [List.cons_append]
    congr 4
    push_cast
    rw [Int.mul_add]
    omega
theorem heldL_marks (hm : ∀ k, 0 ≤ k → h (mk k) k = k + st) (hs : 0 ≤ st) : ∀ (n : Nat) (k : Int), 0 ≤ k → heldL h (marksL mk st k n) k = k + st * n
  | 0, k, _ => by simp [heldL, marksL]
  | n + 1, k, hk => by
    rw [marksL, heldL, hm k hk, if_neg (by omega), heldL_marks hm hs n (k + st) (by omega)]
    push_cast
    rw [Int.mul_add]
    omega
theorem heldL_le (hb : ∀ a k, 0 ≤ k → h a k = -1 ∨ h a k = k + st) (hs : 0 ≤ st) : ∀ (x : List α) (k : Int), 0 ≤ k → heldL h x k = -1 ∨ heldL h x k = k + st * x.length
  | [], k, _ => by simp [heldL]
  | a :: x, k, hk => by
    rw [heldL]
    rcases hb a k hk with h1 | h1
    · rw [h1, if_pos (by omega)]; exact .inl rfl
    · rw [h1, if_neg (by omega)]
      have := heldL_le hb hs x (k + st) (by omega)
      rw [List.length_cons]
      push_cast
      rw [Int.mul_add]
      omega
theorem heldL_next {x : List α} {k q q' : Int} {i : Nat} (h0 : heldL h x k = heldL h (x.drop i) q) (hi : i < x.length) (he : h (x.getD i z) q = q') (h1 : 0 ≤ q') : heldL h x k = heldL h (x.drop (i + 1)) q' := by
  rw [h0, List.drop_eq_getElem_cons hi, heldL]
  simp only [List.getD_eq_getElem?_getD, List.getElem?_eq_getElem hi, Option.getD_some] at he
  rw [he, if_neg (by omega)]
theorem heldL_ne {x : List α} {k q : Int} {i : Nat} (h0 : heldL h x k = heldL h (x.drop i) q) (hi : i < x.length) (he : h (x.getD i z) q < 0) : heldL h x k = -1 := by
  rw [h0, List.drop_eq_getElem_cons hi, heldL]
  simp only [List.getD_eq_getElem?_getD, List.getElem?_eq_getElem hi, Option.getD_some] at he
  rw [if_pos he]
theorem heldL_end {x : List α} {k q : Int} {i : Nat} (h0 : heldL h x k = heldL h (x.drop i) q) (hi : x.length ≤ i) : heldL h x k = q := by
  rw [h0, List.drop_eq_nil_of_le hi, heldL]
theorem getD_set_self {x : List α} {i : Nat} {b : α} (hi : i < x.length) : (x.set i b).getD i z = b := by
  simp [hi]
theorem set_marks {x : List α} {k : Int} {i : Nat} {b : α} (hi : i < x.length) (hb : b = mk (k + st * i)) : (marksL mk st k i ++ x.drop i).set i b = marksL mk st k (i + 1) ++ x.drop (i + 1) := by
  subst hb
  rw [List.set_append_right _ _ (by rw [marksL_len]; omega), marksL_len, Nat.sub_self, List.drop_eq_getElem_cons hi, List.set_cons_zero, marksL_snoc]
  simp
end heldl
section alln
variable {f : Nat → Bool}
def allN (f : Nat → Bool) (n : Nat) : Bool := (List.range n).all f
theorem allN_iff {n : Nat} : allN f n = true ↔ ∀ j, j < n → f j = true := by
  unfold allN
  rw [List.all_eq_true]
  exact ⟨fun h j hj => h j (List.mem_range.2 hj), fun h j hj => h j (List.mem_range.1 hj)⟩
theorem allN_t {n k : Nat} (h : ∀ j, j < k → f j = true) (hk : n ≤ k) : allN f n = true := allN_iff.2 fun j hj => h j (by omega)
theorem allN_f {n k : Nat} (hk : k < n) (h : f k = false) : allN f n = false := by
  rcases Bool.eq_false_or_eq_true (allN f n) with hn | hn
  · rw [allN_iff.1 hn k hk] at h; cases h
  · exact hn
theorem allN_congr {g : Nat → Bool} {n : Nat} (h : ∀ j, j < n → f j = g j) : allN f n = allN g n := by
  rw [Bool.eq_iff_iff, allN_iff, allN_iff]
  exact ⟨fun q j hj => by rw [← h j hj]; exact q j hj, fun q j hj => by rw [h j hj]; exact q j hj⟩
theorem findF_first {α : Type} {p : α → Bool} {z : α} {x : List α} {i : Nat} (hi : i < x.length) (hp : p (x.getD i z) = true) : (!decide (findF p x < (i : Int))) = allN (fun j => !p (x.getD j z)) i := by
  rcases Bool.eq_false_or_eq_true (allN (fun j => !p (x.getD j z)) i) with h | h
  · rw [h]
    have := findF_some (z := z) (fun j hj => by simpa using allN_iff.1 h j hj) hi hp
    simp [this]
  · rw [h]
    have : ∃ j, j < i ∧ p (x.getD j z) = true := by
      refine Classical.byContradiction fun hn => ?_
      have : allN (fun j => !p (x.getD j z)) i = true := allN_iff.2 fun j hj => by
        cases hq : p (x.getD j z)
        · rfl
        · exact absurd ⟨j, hj, hq⟩ hn
      rw [h] at this; cases this
    obtain ⟨j, hj, hq⟩ := this
    have := findF_le (z := z) (by omega) hq
    have h2 : findF p x < (i : Int) := by omega
    simp [h2]
theorem allN_next {k : Nat} (h : ∀ j, j < k → f j = true) (hk : f k = true) : ∀ j, j < k + 1 → f j = true := fun j hj => by
  rcases Nat.lt_succ_iff_lt_or_eq.1 hj with h1 | rfl
  · exact h j h1
  · exact hk
end alln
end Go.Proofs.Ytacoceibbheccaa.K
