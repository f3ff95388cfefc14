import Derived.Test.YtacoceibbheccaaGreatOps
namespace Go.Proofs.YtacoceibbheccaaGreat.K
set_option linter.unusedVariables false
set_option linter.unusedSimpArgs false
section flat
variable {α : Type} {enc : α → List Value} {sz : Nat}
theorem uC (h:∀ a,(enc a).length=sz):∀ x:List α,(x.flatMap enc).length=x.length*sz
  | []=>by simp
  | a :: x=>by rw [List.flatMap_cons,List.length_append,h,uC h x,List.length_cons,Nat.add_mul];omega
theorem tD (h:∀ a,(enc a).length=sz):∀ (x:List α) (k:Nat),(x.flatMap enc).drop (k*sz)=(x.drop k).flatMap enc
  | [],k=>by simp
  | a :: x,0=>by simp
  | a :: x,k+1=>by
    rw [List.flatMap_cons,List.drop_succ_cons,← tD h x k,show (k+1)*sz=(enc a).length+k*sz by rw [h,Nat.add_mul];omega,← List.drop_drop,List.drop_left]
theorem yo (h:∀ a,(enc a).length=sz) (x:List α) (k:Nat):(x.flatMap enc).take (k*sz)=(x.take k).flatMap enc:=by
  have h1:x.flatMap enc=(x.take k).flatMap enc++(x.drop k).flatMap enc:=by rw [← List.flatMap_append,List.take_append_drop]
  rcases Nat.lt_or_ge k x.length with hk|hk
  · rw [h1,List.take_left' (by rw [uC h,List.length_take,Nat.min_eq_left (by omega)])]
  · rw [List.take_of_length_le hk,List.take_of_length_le]
    rw [uC h]
    exact Nat.mul_le_mul_right _ hk
theorem vv (h:∀ a,(enc a).length=sz) {x:List α} {k j:Nat} (d:α) (hj:j=k*sz) (hk:k < x.length):((x.flatMap enc).drop j).take sz=enc (x.getD k d):=by
  subst hj
  rw [tD h,List.drop_eq_getElem_cons hk,List.flatMap_cons,List.take_left' (h _)]
  simp [List.getElem?_eq_getElem hk]
end flat
section ops
variable {P : Program} {ops : Array Oper} {Q : Exit → Act → World → Prop} {n : Nat} {e : Env} {w : World} {o : Oper} {rest : List Oper} {α : Type} {enc : α → List Value} {sz : Nat}
end ops
section lists
variable {α : Type} {z : α}
end lists
section snoc
variable {α : Type} {f : α → Bool} {z : α} {x : List α} {k : Nat}
end snoc
section find
variable {α : Type} {p : α → Bool} {z : α}
end find
section heldl
variable {α : Type} {z : α} {h : α → Int → Int} {mk : Int → α} {st : Int}
end heldl
section alln
variable {f : Nat → Bool}
end alln
end Go.Proofs.YtacoceibbheccaaGreat.K
