import Derived.Test.YtacoceibbheccaaGreatCore
import Derived.Test.YtacoceibbheccaaGreatPlain
namespace Go.Proofs.YtacoceibbheccaaGreat.K
def heldB:List UInt8→Int→Int
  | [],k=>k
  | b :: l,k=>if ((b.toNat:Nat):Int)=(((by8 k).toNat:Nat):Int) then heldB l (k+1) else -1
def EH:List Int→Int→Int
  | [],k=>k
  | b :: l,k=>if b=k then EH l (k+1) else -1
def cpB (x:List UInt8):List UInt8:=x
def cpI (x:List Int):List Int:=x
theorem QL {x:List UInt8} {k:Nat} (h:x.length≤k):cpB x=x.take k++List.replicate (x.length - k) (0:UInt8):=by
  rw [List.take_of_length_le h,show x.length - k=0 by omega];simp [cpB]
theorem QK {x:List Int} {k:Nat} (h:x.length≤k):cpI x=x.take k++List.replicate (x.length - k) (0:Int):=by
  rw [List.take_of_length_le h,show x.length - k=0 by omega];simp [cpI]
theorem NW {α:Type} {x:List α} {z:α} {k:Nat} (h:k < x.length):(x.take k++List.replicate (x.length - k) z).set k (x.getD k z)=x.take (k+1)++List.replicate (x.length - (k+1)) z:=by
  rw [List.set_append_right _ _ (by simp;omega),List.length_take,Nat.min_eq_left (by omega),Nat.sub_self,
    show x.length - k=(x.length - (k+1))+1 by omega,List.replicate_succ,List.set_cons_zero]
  rw [List.take_succ_eq_append_getElem h,List.append_assoc]
  simp only [List.getD_eq_getElem?_getD,List.getElem?_eq_getElem h,Option.getD_some,List.singleton_append]
theorem Mi {x:List UInt8} {k:Nat} (h:k < x.length):(x.take k++List.replicate (x.length - k) (0:UInt8)).set k (x.getD k 0)=x.take (k+1)++List.replicate (x.length - (k+1)) (0:UInt8):=NW h
theorem Mh {x:List Int} {k:Nat} (h:k < x.length):(x.take k++List.replicate (x.length - k) (0:Int)).set k (x.getD k 0)=x.take (k+1)++List.replicate (x.length - (k+1)) (0:Int):=NW h
theorem FJ:∀ (l:List UInt8) (k:Int),heldB l k = -1∨heldB l k=k+(l.length:Int)
  | [],k=>by simp [heldB]
  | b :: l,k=>by
    have:=FJ l (k+1)
    simp only [heldB,List.length_cons]
    split <;> omega
theorem JW:∀ (l:List Int) (k:Int),EH l k = -1∨EH l k=k+(l.length:Int)
  | [],k=>by simp [EH]
  | b :: l,k=>by
    have:=JW l (k+1)
    simp only [EH,List.length_cons]
    split <;> omega
theorem Gx:∀ (n:Nat) (k:Int),heldB (marksB k n) k=k+n
  | 0,k=>by simp [heldB,marksB]
  | n+1,k=>by simp only [marksB,heldB,if_true,Gx n (k+1)];push_cast;omega
theorem IH:∀ (n:Nat) (k:Int),EH (DT k n) k=k+n
  | 0,k=>by simp [EH,DT]
  | n+1,k=>by simp only [DT,EH,if_true,IH n (k+1)];push_cast;omega
theorem Js {a:List UInt8} {k:Int} {i:Nat} (h:heldB a k=heldB (a.drop i) (k+i)) (hi:i < a.length) (he:(((a.getD i 0).toNat:Nat):Int)=(((by8 (k+i)).toNat:Nat):Int)):heldB a k=heldB (a.drop (i+1)) (k+((i+1:Nat):Int)):=by
  rw [h,List.drop_eq_getElem_cons hi,heldB]
  simp only [List.getD_eq_getElem?_getD,List.getElem?_eq_getElem hi,Option.getD_some] at he
  rw [if_pos he]
  congr 1
  push_cast
  omega
theorem Ma {a:List UInt8} {k:Int} {i:Nat} (h:heldB a k=heldB (a.drop i) (k+i)) (hi:i < a.length) (he:¬ (((a.getD i 0).toNat:Nat):Int)=(((by8 (k+i)).toNat:Nat):Int)):heldB a k = -1:=by
  rw [h,List.drop_eq_getElem_cons hi,heldB]
  simp only [List.getD_eq_getElem?_getD,List.getElem?_eq_getElem hi,Option.getD_some] at he
  rw [if_neg he]
theorem KM {a:List UInt8} {k:Int} {i:Nat} (h:heldB a k=heldB (a.drop i) (k+i)) (hi:a.length≤i):heldB a k=k+i:=by
  rw [h,List.drop_eq_nil_of_le hi,heldB]
theorem Jr {a:List Int} {k:Int} {i:Nat} (h:EH a k=EH (a.drop i) (k+i)) (hi:i < a.length) (he:a.getD i 0=k+i):EH a k=EH (a.drop (i+1)) (k+((i+1:Nat):Int)):=by
  rw [h,List.drop_eq_getElem_cons hi,EH]
  simp only [List.getD_eq_getElem?_getD,List.getElem?_eq_getElem hi,Option.getD_some] at he
  rw [if_pos he]
  congr 1
  push_cast
  omega
theorem LZ {a:List Int} {k:Int} {i:Nat} (h:EH a k=EH (a.drop i) (k+i)) (hi:i < a.length) (he:¬ a.getD i 0=k+i):EH a k = -1:=by
  rw [h,List.drop_eq_getElem_cons hi,EH]
  simp only [List.getD_eq_getElem?_getD,List.getElem?_eq_getElem hi,Option.getD_some] at he
  rw [if_neg he]
theorem KK {a:List Int} {k:Int} {i:Nat} (h:EH a k=EH (a.drop i) (k+i)) (hi:a.length≤i):EH a k=k+i:=by
  rw [h,List.drop_eq_nil_of_le hi,EH]
end Go.Proofs.YtacoceibbheccaaGreat.K
