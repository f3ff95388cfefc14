/- Arguments that came in as slices of structs. It names no program. -/
import Derived.Test.YtacoceibbheccaaShort
namespace Go.Proofs.Ytacoceibbheccaa.K
open Go.RowKit Go.ChangeShapes Go.WideShapes
set_option linter.unusedVariables false
theorem list_of_each {α : Type} {p : Nat → α → Prop} : ∀ (n : Nat), (∀ i, i < n → ∃ x, p i x) → ∃ xs : List α, xs.length = n ∧ ∀ i x, xs[i]? = some x → p i x
  | 0, _ => ⟨[], rfl, fun i x h => by simp at h⟩
  | n + 1, h => by
    obtain ⟨xs, hl, hp⟩ := list_of_each n fun i hi => h i (by omega)
    obtain ⟨x, hx⟩ := h n (by omega)
    refine ⟨xs ++ [x], by simp [hl], fun i y hy => ?_⟩
    rcases Nat.lt_or_ge i n with hi | hi
    · exact hp i y (by rwa [List.getElem?_append_left (by omega)] at hy)
    · rw [List.getElem?_append_right (by omega)] at hy
      have : i - xs.length = 0 := by
        have := (List.getElem?_eq_some_iff.1 hy).1
        simp at this
        omega
      rw [this] at hy
      have hyx : x = y := by simpa using hy
      rw [← hyx, show i = n by omega]
      exact hx
section came
variable {P : Program} {w : World} {H : Type} {enc : TypeId × Value → H} {base fuel : Nat} {spare : Nat → Bool} {held : Bool} {T E : TypeId} {cs : List Value} {y : DataW H × List MemPlace}
theorem came_L {α : Type} {f : α → List Value} {Φ : α → Prop} {sz : Nat} (hf : ∀ a, (f a).length = sz) (ht : P.underlying T = some (.slice E)) (hc : P.cellsOf E = sz) (h0 : 0 < sz)
    (ho : ∀ (n : Nat) (cs : List Value) (y : DataW H × List MemPlace), DataW.trod enc P w base spare held n E cs = some y → ∃ x : α, cs = f x ∧ Φ x)
    (h : DataW.trod enc P w base spare held fuel T cs = some y) :
    ∃ (x : List α) (a : Option Addr) (c : Nat), cs = [.slice a x.length c] ∧ Rd w sz (.slice a x.length c) x.length (x.flatMap f) ∧ ∀ e ∈ x, Φ e := by
  rcases DataW.trod_slice ht h with ⟨rfl, -⟩ | ⟨a, len, cap, elems, rest, n, _, rfl, -, hb, hl, hm, hlen, hel, -, -⟩
  · exact ⟨[], none, 0, rfl, Rd.nil w sz, fun e he => by cases he⟩
  · have each : ∀ i, i < len → ∃ x : α, w.cells? base (a.add (i * sz)) sz = some (f x) ∧ Φ x := by
      intro i hi
      have h1 := hel i hi
      rw [List.getElem?_eq_getElem (by omega), Option.bind_eq_some_iff, hc] at h1
      obtain ⟨cs', h2, h3⟩ := h1
      obtain ⟨x, rfl, hx⟩ := ho _ _ _ h3
      exact ⟨x, h2, hx⟩
    obtain ⟨xs, hxl, hxs⟩ := list_of_each len each
    refine ⟨xs, some a, cap, by rw [hxl], ⟨some a, cap, rfl, by omega, hm, rows_len hf xs, fun hn => ⟨a, rfl, fun j u hu => ?_⟩⟩, fun e he => ?_⟩
    · have hj : j < xs.length * sz := by
        have := (List.getElem?_eq_some_iff.1 hu).1
        rwa [rows_len hf] at this
      have hk : j / sz < xs.length := Nat.div_lt_of_lt_mul (by rw [Nat.mul_comm]; exact hj)
      have hr := rows_get hf (x := xs) (k := j / sz) (j := j) (i := j % sz) xs[j / sz] (by rw [Nat.mul_comm]; exact (Nat.div_add_mod j sz).symm) (Nat.mod_lt _ h0) hk
      rw [hu] at hr
      have hg : xs.getD (j / sz) xs[j / sz] = xs[j / sz] := by simp [List.getElem?_eq_getElem hk]
      rw [hg] at hr
      have hq := (hxs (j / sz) xs[j / sz] (List.getElem?_eq_getElem hk)).1
      have := (World.cells?_some hq).2.2 (j % sz) (Nat.mod_lt _ h0)
      rw [add_of_add, show j / sz * sz + j % sz = j by rw [Nat.mul_comm]; exact Nat.div_add_mod j sz] at this
      rw [this]
      exact hr.symm
    · obtain ⟨i, hi⟩ := List.getElem?_of_mem he
      exact (hxs i e hi).2
end came
end Go.Proofs.Ytacoceibbheccaa.K
