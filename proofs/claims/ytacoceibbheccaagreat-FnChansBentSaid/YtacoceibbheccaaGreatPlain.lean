namespace Go.Proofs.YtacoceibbheccaaGreat.K
structure PAddr where
  Host:Int
  Port:Int
  deriving DecidableEq
structure PTimer where
  On:Bool
  Due:Int
  Wait:Int
  Tries:Int
  deriving DecidableEq
structure PWin where
  Top:Int
  Bits:List Int
  deriving DecidableEq
structure PEp where
  N:Int
  Key:List UInt8
  Seq:Int
  Win:PWin
  deriving DecidableEq
structure PChan where
  Role:Int
  Sn:List UInt8
  Cur:PEp
  Old:PEp
  HasOld:Bool
  Until:Int
  Next:List UInt8
  deriving DecidableEq
structure PFrame where
  Kind:Int
  Id:Int
  Cn:List UInt8
  Sn:List UInt8
  Tick:Int
  Cookie:List UInt8
  Proof:List UInt8
  Epoch:Int
  Seq:Int
  Body:List UInt8
  Tag:List UInt8
  deriving DecidableEq
structure PCand where
  A:PAddr
  Draw:List UInt8
  Until:Int
  deriving DecidableEq
structure PPaths where
  At:PAddr
  Cands:List PCand
  deriving DecidableEq
structure PCredit where
  A:PAddr
  Got:Int
  Sent:Int
  deriving DecidableEq
structure PNote where
  Kind:Int
  Id:Int
  Role:Int
  Cn:List UInt8
  Sn:List UInt8
  Epoch:Int
  Seq:Int
  Body:List UInt8
  Key:List UInt8
  A:PAddr
  Now:Int
  deriving DecidableEq
structure PHash where
  H:List Int
  Held:List UInt8
  N:Int
  deriving DecidableEq
structure PClient where
  Id:Int
  Psk:List UInt8
  At:PAddr
  St:Int
  Cn:List UInt8
  Fin:PFrame
  C:PChan
  T:PTimer
  R:PTimer
  Last:Int
  deriving DecidableEq
def eqI (a b:List Int):Bool:=decide (a=b)
theorem sT {a b:List Int} (h:¬ ((a.length:Nat):Int)=((b.length:Nat):Int)):eqI a b=false:=by
  simp only [eqI,decide_eq_false_iff_not]
  rintro rfl
  exact h rfl
theorem uq {a b:List Int} {k:Nat} (h:¬ a.getD k 0=b.getD k 0):eqI a b=false:=by
  simp only [eqI,decide_eq_false_iff_not]
  rintro rfl
  exact h rfl
theorem sU {a b:List Int} {k:Nat} (h:a.take k=b.take k) (h1:a.length≤k) (h2:b.length≤k):eqI a b=true:=by
  rw [List.take_of_length_le h1,List.take_of_length_le h2] at h
  simp [eqI,h]
theorem tu {a b:List Int} {k:Nat} (h:a.take k=b.take k) (h1:k < a.length) (h2:k < b.length) (he:a.getD k 0=b.getD k 0):a.take (k+1)=b.take (k+1):=by
  rw [List.take_succ_eq_append_getElem h1,List.take_succ_eq_append_getElem h2,h]
  simp [List.getD,h1,h2] at he
  rw [he]
end Go.Proofs.YtacoceibbheccaaGreat.K
