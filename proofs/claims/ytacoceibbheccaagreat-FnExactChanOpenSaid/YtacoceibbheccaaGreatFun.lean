import Derived.Test.YtacoceibbheccaaGreatOps
import Derived.Test.YtacoceibbheccaaGreatHeld
namespace Go.Proofs.YtacoceibbheccaaGreat.K
set_option linter.unusedSimpArgs false
def Fg (v n:Int):Nat→List UInt8
  | 0=>[]
  | j+1=>Fg v n j++[by8 ((v / (2:Int) ^ (8*(n - 1 - ((j:Nat):Int))).toNat) % 256)]
theorem Gt (v n:Int):∀ j,(Fg v n j).length=j
  | 0=>rfl
  | j+1=>by simp [Fg,Gt v n j]
def Et (b:List UInt8) (v n:Int):List UInt8:=if n < 1∨6 < n then b else b++Fg v n n.toNat
theorem GR {b:List UInt8} {v n:Int} (h:n < 1∨6 < n):Et b v n=b:=by rw [Et,if_pos h]
theorem GS {b:List UInt8} {v n:Int} {j:Nat} (h:¬ (n < 1∨6 < n)) (hj:((j:Nat):Int)≤n) (he:¬ 0≤n - 1 - ((j:Nat):Int)):Et b v n=b++Fg v n j:=by
  rw [Et,if_neg h]
  congr 2
  omega
theorem Fa (b:List UInt8) (v n:Int):(Et b v n).length≤b.length+6:=by
  unfold Et
  split
  · omega
  · rw [List.length_append,Gt];omega
def Fj (x:List Int):Bool:=x.all fun v=>decide (0≤v∧v≤4294967295)
theorem Gq {x:List Int} {k:Nat} (h:Fj (x.take k)=true) (hk:k < x.length) (hv:0≤x.getD k 0∧x.getD k 0≤4294967295):Fj (x.take (k+1))=true:=by
  rw [List.take_succ_eq_append_getElem hk]
  simp only [List.getD_eq_getElem?_getD,List.getElem?_eq_getElem hk,Option.getD_some] at hv
  unfold Fj at h ⊢
  rw [List.all_append,h]
  simpa using hv
theorem Dq {x:List Int} {k:Nat} (h:Fj (x.take k)=true) (hk:x.length≤k):Fj x=true:=by
  rwa [List.take_of_length_le hk] at h
theorem FD {x:List Int} {k:Nat} (hk:k < x.length) (hv:x.getD k 0 < 0∨4294967295 < x.getD k 0):Fj x=false:=by
  rcases Bool.eq_false_or_eq_true (Fj x) with h|h
  · unfold Fj at h
    rw [List.all_eq_true] at h
    have:=h x[k] (List.getElem_mem hk)
    simp only [List.getD_eq_getElem?_getD,List.getElem?_eq_getElem hk,Option.getD_some] at hv
    simp at this
    omega
  · exact h
theorem PC {x:List Int} (h:Fj x=true) {k:Nat} (hk:k < x.length):0≤x.getD k 0∧x.getD k 0≤4294967295:=by
  unfold Fj at h
  rw [List.all_eq_true] at h
  have:=h x[k] (List.getElem_mem hk)
  simp only [List.getD_eq_getElem?_getD,List.getElem?_eq_getElem hk,Option.getD_some]
  simpa using this
def Gp (x:List Int) (n:Int):Bool:=Fj x && decide ((x.length:Int)=n)
theorem FF {x:List Int} {n:Int} (h:Gp x n=true):Fj x=true∧(x.length:Int)=n:=by
  simpa [Gp] using h
def IB (f:Int→Bool) (a b:Int):Bool:=(List.range (b - a).toNat).all fun k=>!f (a+(k:Int))
theorem Jm (f:Int→Bool) (a b:Int):IB f a b=true↔∀ m:Int,a≤m→m < b→f m=false:=by
  unfold IB
  rw [List.all_eq_true]
  constructor
  · intro h m h1 h2
    have:=h (m - a).toNat (List.mem_range.2 (by omega))
    rw [show a+(((m - a).toNat:Nat):Int)=m by omega] at this
    simpa using this
  · intro h k hk
    have:=h (a+(k:Int)) (by omega) (by have:=List.mem_range.1 hk;omega)
    simp [this]
theorem EK {f:Int→Bool} {a b q:Int} (h:∀ m:Int,a≤m→m < q→f m=false) (hq:¬ q < b):IB f a b=true:=(Jm f a b).2 fun m h1 h2=>h m h1 (by omega)
theorem EL {f:Int→Bool} {a b q:Int} (h:f q=true) (h1:a≤q) (h2:q < b):IB f a b=false:=by
  rcases Bool.eq_false_or_eq_true (IB f a b) with hn|hn
  · rw [(Jm f a b).1 hn q h1 h2] at h;cases h
  · exact hn
theorem Gn {f:Int→Bool} {a q:Int} (h:∀ m:Int,a≤m→m < q→f m=false) (hq:f q=false):∀ m:Int,a≤m→m < q+1→f m=false:=fun m h1 h2=>by
  rcases Int.lt_or_eq_of_le (Int.le_of_lt_add_one h2) with h3|rfl
  · exact h m h1 h3
  · exact hq
end Go.Proofs.YtacoceibbheccaaGreat.K
