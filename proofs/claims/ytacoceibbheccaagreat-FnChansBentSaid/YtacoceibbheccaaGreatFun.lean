import Derived.Test.YtacoceibbheccaaGreatOps
import Derived.Test.YtacoceibbheccaaGreatHeld
namespace Go.Proofs.YtacoceibbheccaaGreat.K
set_option linter.unusedSimpArgs false
def qg (v n:Int):Nat→List UInt8
  | 0=>[]
  | j+1=>qg v n j++[by8 ((v / (2:Int) ^ (8*(n - 1 - ((j:Nat):Int))).toNat) % 256)]
theorem ru (v n:Int):∀ j,(qg v n j).length=j
  | 0=>rfl
  | j+1=>by simp [qg,ru v n j]
def pB (b:List UInt8) (v n:Int):List UInt8:=if n < 1∨6 < n then b else b++qg v n n.toNat
theorem rM {b:List UInt8} {v n:Int} (h:n < 1∨6 < n):pB b v n=b:=by rw [pB,if_pos h]
theorem rN {b:List UInt8} {v n:Int} {j:Nat} (h:¬ (n < 1∨6 < n)) (hj:((j:Nat):Int)≤n) (he:¬ 0≤n - 1 - ((j:Nat):Int)):pB b v n=b++qg v n j:=by
  rw [pB,if_neg h]
  congr 2
  omega
theorem qe (b:List UInt8) (v n:Int):(pB b v n).length≤b.length+6:=by
  unfold pB
  split
  · omega
  · rw [List.length_append,ru];omega
def qf (x:List Int):Bool:=x.all fun v=>decide (0≤v∧v≤4294967295)
theorem rq {x:List Int} {k:Nat} (h:qf (x.take k)=true) (hk:k < x.length) (hv:0≤x.getD k 0∧x.getD k 0≤4294967295):qf (x.take (k+1))=true:=by
  rw [List.take_succ_eq_append_getElem hk]
  simp only [List.getD_eq_getElem?_getD,List.getElem?_eq_getElem hk,Option.getD_some] at hv
  unfold qf at h ⊢
  rw [List.all_append,h]
  simpa using hv
theorem oB {x:List Int} {k:Nat} (h:qf (x.take k)=true) (hk:x.length≤k):qf x=true:=by
  rwa [List.take_of_length_le hk] at h
theorem qD {x:List Int} {k:Nat} (hk:k < x.length) (hv:x.getD k 0 < 0∨4294967295 < x.getD k 0):qf x=false:=by
  rcases Bool.eq_false_or_eq_true (qf x) with h|h
  · unfold qf at h
    rw [List.all_eq_true] at h
    have:=h x[k] (List.getElem_mem hk)
    simp only [List.getD_eq_getElem?_getD,List.getElem?_eq_getElem hk,Option.getD_some] at hv
    simp at this
    omega
  · exact h
theorem Al {x:List Int} (h:qf x=true) {k:Nat} (hk:k < x.length):0≤x.getD k 0∧x.getD k 0≤4294967295:=by
  unfold qf at h
  rw [List.all_eq_true] at h
  have:=h x[k] (List.getElem_mem hk)
  simp only [List.getD_eq_getElem?_getD,List.getElem?_eq_getElem hk,Option.getD_some]
  simpa using this
def rk (x:List Int) (n:Int):Bool:=qf x && decide ((x.length:Int)=n)
theorem qE {x:List Int} {n:Int} (h:rk x n=true):qf x=true∧(x.length:Int)=n:=by
  simpa [rk] using h
def td (f:Int→Bool) (a b:Int):Bool:=(List.range (b - a).toNat).all fun k=>!f (a+(k:Int))
theorem rQ (f:Int→Bool) (a b:Int):td f a b=true↔∀ m:Int,a≤m→m < b→f m=false:=by
  unfold td
  rw [List.all_eq_true]
  constructor
  · intro h m h1 h2
    have:=h (m - a).toNat (List.mem_range.2 (by omega))
    rw [show a+(((m - a).toNat:Nat):Int)=m by omega] at this
    simpa using this
  · intro h k hk
    have:=h (a+(k:Int)) (by omega) (by have:=List.mem_range.1 hk;omega)
    simp [this]
theorem pM {f:Int→Bool} {a b q:Int} (h:∀ m:Int,a≤m→m < q→f m=false) (hq:¬ q < b):td f a b=true:=(rQ f a b).2 fun m h1 h2=>h m h1 (by omega)
theorem pN {f:Int→Bool} {a b q:Int} (h:f q=true) (h1:a≤q) (h2:q < b):td f a b=false:=by
  rcases Bool.eq_false_or_eq_true (td f a b) with hn|hn
  · rw [(rQ f a b).1 hn q h1 h2] at h;cases h
  · exact hn
theorem ro {f:Int→Bool} {a q:Int} (h:∀ m:Int,a≤m→m < q→f m=false) (hq:f q=false):∀ m:Int,a≤m→m < q+1→f m=false:=fun m h1 h2=>by
  rcases Int.lt_or_eq_of_le (Int.le_of_lt_add_one h2) with h3|rfl
  · exact h m h1 h3
  · exact hq
end Go.Proofs.YtacoceibbheccaaGreat.K
