import Derived.Test.YtacoceibbheccaaGreatOps
import Derived.Test.YtacoceibbheccaaGreatHeld
namespace Go.Proofs.YtacoceibbheccaaGreat.K
set_option linter.unusedSimpArgs false
def Ix (v n:Int):Nat→List UInt8
  | 0=>[]
  | j+1=>Ix v n j++[by8 ((v / (2:Int) ^ (8*(n - 1 - ((j:Nat):Int))).toNat) % 256)]
theorem JJ (v n:Int):∀ j,(Ix v n j).length=j
  | 0=>rfl
  | j+1=>by simp [Ix,JJ v n j]
def HE (b:List UInt8) (v n:Int):List UInt8:=if n < 1∨6 < n then b else b++Ix v n n.toNat
theorem Ka {b:List UInt8} {v n:Int} (h:n < 1∨6 < n):HE b v n=b:=by rw [HE,if_pos h]
theorem Kb {b:List UInt8} {v n:Int} {j:Nat} (h:¬ (n < 1∨6 < n)) (hj:((j:Nat):Int)≤n) (he:¬ 0≤n - 1 - ((j:Nat):Int)):HE b v n=b++Ix v n j:=by
  rw [HE,if_neg h]
  congr 2
  omega
theorem Iq (b:List UInt8) (v n:Int):(HE b v n).length≤b.length+6:=by
  unfold HE
  split
  · omega
  · rw [List.length_append,JJ];omega
def Iw (x:List Int):Bool:=x.all fun v=>decide (0≤v∧v≤4294967295)
theorem JE {x:List Int} {k:Nat} (h:Iw (x.take k)=true) (hk:k < x.length) (hv:0≤x.getD k 0∧x.getD k 0≤4294967295):Iw (x.take (k+1))=true:=by
  rw [List.take_succ_eq_append_getElem hk]
  simp only [List.getD_eq_getElem?_getD,List.getElem?_eq_getElem hk,Option.getD_some] at hv
  unfold Iw at h ⊢
  rw [List.all_append,h]
  simpa using hv
theorem GG {x:List Int} {k:Nat} (h:Iw (x.take k)=true) (hk:x.length≤k):Iw x=true:=by
  rwa [List.take_of_length_le hk] at h
theorem IS {x:List Int} {k:Nat} (hk:k < x.length) (hv:x.getD k 0 < 0∨4294967295 < x.getD k 0):Iw x=false:=by
  rcases Bool.eq_false_or_eq_true (Iw x) with h|h
  · unfold Iw at h
    rw [List.all_eq_true] at h
    have:=h x[k] (List.getElem_mem hk)
    simp only [List.getD_eq_getElem?_getD,List.getElem?_eq_getElem hk,Option.getD_some] at hv
    simp at this
    omega
  · exact h
theorem Sx {x:List Int} (h:Iw x=true) {k:Nat} (hk:k < x.length):0≤x.getD k 0∧x.getD k 0≤4294967295:=by
  unfold Iw at h
  rw [List.all_eq_true] at h
  have:=h x[k] (List.getElem_mem hk)
  simp only [List.getD_eq_getElem?_getD,List.getElem?_eq_getElem hk,Option.getD_some]
  simpa using this
def Js (x:List Int) (n:Int):Bool:=Iw x && decide ((x.length:Int)=n)
theorem IT {x:List Int} {n:Int} (h:Js x n=true):Iw x=true∧(x.length:Int)=n:=by
  simpa [Js] using h
def KF (f:Int→Bool) (a b:Int):Bool:=(List.range (b - a).toNat).all fun k=>!f (a+(k:Int))
theorem JB (f:Int→Bool) (a b:Int):KF f a b=true↔∀ m:Int,a≤m→m < b→f m=false:=by
  unfold KF
  rw [List.all_eq_true]
  constructor
  · intro h m h1 h2
    have:=h (m - a).toNat (List.mem_range.2 (by omega))
    rw [show a+(((m - a).toNat:Nat):Int)=m by omega] at this
    simpa using this
  · intro h k hk
    have:=h (a+(k:Int)) (by omega) (by have:=List.mem_range.1 hk;omega)
    simp [this]
theorem HU {f:Int→Bool} {a b q:Int} (h:∀ m:Int,a≤m→m < q→f m=false) (hq:¬ q < b):KF f a b=true:=(JB f a b).2 fun m h1 h2=>h m h1 (by omega)
theorem HV {f:Int→Bool} {a b q:Int} (h:f q=true) (h1:a≤q) (h2:q < b):KF f a b=false:=by
  rcases Bool.eq_false_or_eq_true (KF f a b) with hn|hn
  · rw [(JB f a b).1 hn q h1 h2] at h;cases h
  · exact hn
theorem JA {f:Int→Bool} {a q:Int} (h:∀ m:Int,a≤m→m < q→f m=false) (hq:f q=false):∀ m:Int,a≤m→m < q+1→f m=false:=fun m h1 h2=>by
  rcases Int.lt_or_eq_of_le (Int.le_of_lt_add_one h2) with h3|rfl
  · exact h m h1 h3
  · exact hq
end Go.Proofs.YtacoceibbheccaaGreat.K
