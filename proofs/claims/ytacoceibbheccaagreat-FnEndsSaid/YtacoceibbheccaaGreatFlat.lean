import Derived.Test.YtacoceibbheccaaGreatOps
namespace Go.Proofs.YtacoceibbheccaaGreat.K
set_option linter.unusedVariables false
set_option linter.unusedSimpArgs false
section flat
variable {α : Type} {enc : α → List Value} {sz : Nat}
theorem KB (h:∀ a,(enc a).length=sz):∀ x:List α,(x.flatMap enc).length=x.length*sz
  | []=>by simp
  | a :: x=>by rw [List.flatMap_cons,List.length_append,h,KB h x,List.length_cons,Nat.add_mul];omega
theorem LK (h:∀ a,(enc a).length=sz):∀ (x:List α) (k:Nat),(x.flatMap enc).drop (k*sz)=(x.drop k).flatMap enc
  | [],k=>by simp
  | a :: x,0=>by simp
  | a :: x,k+1=>by
    rw [List.flatMap_cons,List.drop_succ_cons,← LK h x k,show (k+1)*sz=(enc a).length+k*sz by rw [h,Nat.add_mul];omega,← List.drop_drop,List.drop_left]
theorem Qn (h:∀ a,(enc a).length=sz) (x:List α) (k:Nat):(x.flatMap enc).take (k*sz)=(x.take k).flatMap enc:=by
  have h1:x.flatMap enc=(x.take k).flatMap enc++(x.drop k).flatMap enc:=by rw [← List.flatMap_append,List.take_append_drop]
  rcases Nat.lt_or_ge k x.length with hk|hk
  · rw [h1,List.take_left' (by rw [KB h,List.length_take,Nat.min_eq_left (by omega)])]
  · rw [List.take_of_length_le hk,List.take_of_length_le]
    rw [KB h]
    exact Nat.mul_le_mul_right _ hk
theorem LJ (h:∀ a,(enc a).length=sz) {x:List α} {k j:Nat} (d:α) (hj:j=k*sz) (hk:k < x.length):((x.flatMap enc).drop j).take sz=enc (x.getD k d):=by
  subst hj
  rw [LK h,List.drop_eq_getElem_cons hk,List.flatMap_cons,List.take_left' (h _)]
  simp [List.getElem?_eq_getElem hk]
theorem Jq (h:∀ a,(enc a).length=sz) {x:List α} {k j i:Nat} (d:α) (hj:j=k*sz+i) (hi:i < sz) (hk:k < x.length):(x.flatMap enc)[j]?=(enc (x.getD k d))[i]?:=by
  have h1:=LJ h d rfl hk
  rw [← h1,List.getElem?_take,if_pos hi,List.getElem?_drop,hj]
theorem Pu (h:∀ a,(enc a).length=sz) {x:List α} {k:Nat} (d:α) (hk:k < x.length):x.flatMap enc=(x.take k).flatMap enc++(enc (x.getD k d)++(x.drop (k+1)).flatMap enc):=by
  conv=>lhs;rw [← List.take_append_drop k x,List.drop_eq_getElem_cons hk]
  rw [List.flatMap_append,List.flatMap_cons]
  simp [List.getElem?_eq_getElem hk]
theorem Nw (h:∀ a,(enc a).length=sz) {x:List α} {k j off:Nat} {us:List Value} (d b:α) (hj:j=k*sz+off) (hn:off+us.length≤sz) (hk:k < x.length)
    (hb:(enc (x.getD k d)).take off++us++(enc (x.getD k d)).drop (off+us.length)=enc b):(x.flatMap enc).take j++us++(x.flatMap enc).drop (j+us.length)=(x.set k b).flatMap enc:=by
  subst hj
  have hA:((x.take k).flatMap enc).length=k*sz:=by rw [KB h,List.length_take,Nat.min_eq_left (by omega)]
  have hB:=h (x.getD k d)
  rw [List.set_eq_take_append_cons_drop,if_pos hk,List.flatMap_append,List.flatMap_cons,← hb,Pu h d hk]
  generalize (x.take k).flatMap enc=A at hA ⊢
  generalize (x.drop (k+1)).flatMap enc=C
  generalize enc (x.getD k d)=B at hB ⊢
  rw [show k*sz+off+us.length=A.length+(off+us.length) by omega,← List.drop_drop,List.drop_left,← hA,List.take_append,List.take_of_length_le (by omega:A.length≤A.length+off),
    show A.length+off - A.length=off by omega,List.take_append_of_le_length (by omega),List.drop_append_of_le_length (by omega)]
  simp
end flat
section ops
variable {P : Program} {ops : Array Oper} {Q : Exit → Act → World → Prop} {n : Nat} {e : Env} {w : World} {o : Oper} {rest : List Oper} {α : Type} {enc : α → List Value} {sz : Nat}
theorem Ku (h:∀ a,(enc a).length=sz) (x:List α) (k off:Nat) (d0 b:α) (u:Value) (us:List Value) (hw:HG n ops o e) {base E L j m:Nat} {p y:Operand} {v:Value} (hd:o.dst=none) (ho:o.op=.store L p y) (hx:ev e p=.pointer (some (elA v j))) (hj:j=k*sz+off) (hy:ev e y=u)
    (hus:u.cells=us.toArray) (h1:∀ q ∈ us,q.oneCell'=true) (hS:∀ w,(sizeOf L).run P w=.ok us.length w) (hr:Ow w base E sz v m (x.flatMap enc)) (hk:k < x.length) (hn:off+us.length≤sz) (hu:0 < us.length)
    (hb:(enc (x.getD k d0)).take off++us++(enc (x.getD k d0)).drop (off+us.length)=enc b)
    (hc:∀ w',Ch (fun k=>v.ownBlock=some k) w w'→Ow w' base E sz v m ((x.set k b).flatMap enc)→WL P ops Q rest n e w'):WL P ops Q (o :: rest) n e w:=by
  have hl:j+us.length≤(x.flatMap enc).length:=by
    rw [KB h,hj]
    have:(k+1)*sz≤x.length*sz:=Nat.mul_le_mul_right _ hk
    rw [Nat.add_mul] at this
    omega
  exact Np u us hw hd ho hx hy hus h1 hS hr hl hu fun w' c1 c2 _=>hc w' c1 (by rw [← Nw h d0 b hj hn hk hb];exact c2)
end ops
section lists
variable {α : Type} {z : α}
end lists
section snoc
variable {α : Type} {f : α → Bool} {z : α} {x : List α} {k : Nat}
end snoc
section find
variable {α : Type} {p : α → Bool} {z : α}
end find
section heldl
variable {α : Type} {z : α} {h : α → Int → Int} {mk : Int → α} {st : Int}
end heldl
section alln
variable {f : Nat → Bool}
end alln
end Go.Proofs.YtacoceibbheccaaGreat.K
