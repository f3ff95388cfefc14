import Derived.Test.YtacoceibbheccaaGreatSha
import Derived.Lib.ConvBytes
import Derived.Lib.AppendStr
namespace Go.Proofs.YtacoceibbheccaaGreat.K
set_option linter.unusedSimpArgs false
set_option linter.unusedVariables false
def HL (key:List UInt8):List UInt8:=bif decide (64 < (key.length:Int)) then sha key else key
def BX (key:List UInt8):List UInt8:=bif decide (1048576 < (key.length:Int)) then [] else HL key++List.replicate (64 - (HL key).length) 0
theorem Lm (key:List UInt8):(HL key).length≤64:=by
  unfold HL
  cases h:decide (64 < (key.length:Int))
  · have:=of_decide_eq_false h;simp only [cond_false];omega
  · have:=HT key;simp only [cond_true];omega
theorem HW {key:List UInt8} (h:key.length≤1048576):(BX key).length=64:=by
  have:=Lm key
  unfold BX
  rw [decide_eq_false (by omega),cond_false,List.length_append,List.length_replicate]
  omega
theorem Hh (key:List UInt8):(BX key).length≤64∧(1048576 < key.length∨(BX key).length=64):=by
  by_cases h:key.length≤1048576
  · have:=HW h;omega
  · refine ⟨?_,.inl (by omega)⟩
    unfold BX;rw [decide_eq_true (by omega),cond_true];simp
def De (b:List UInt8) (x:UInt8):List UInt8:=b.map fun y=>y^^^x
theorem Dh (b:List UInt8) (x:UInt8):(De b x).length=b.length:=List.length_map _
theorem LW {α β:Type} {f:α→β} {x:List α} {z:α} {k:Nat} (h:k < x.length):(x.take k).map f++[f (x.getD k z)]=(x.take (k+1)).map f:=by
  rw [List.take_succ_eq_append_getElem h,List.map_append]
  simp only [List.map_cons,List.map_nil,List.getD_eq_getElem?_getD,List.getElem?_eq_getElem h,Option.getD_some]
theorem Qx {α β:Type} {f:α→β} {x:List α} {k:Nat} (h:x.length≤k):(x.take k).map f=x.map f:=by rw [List.take_of_length_le h]
def Ff (key b:List UInt8):List UInt8:=bif decide (1048576 < (key.length:Int)) then [] else bif decide (1048512 < (b.length:Int)) then [] else sha (De (BX key) 92++sha (De (BX key) 54++b))
theorem HM (key b:List UInt8):(Ff key b).length≤32∧((Ff key b).length=32∨((Ff key b).length=0∧(1048576 < key.length∨1048512 < b.length))):=by
  unfold Ff
  by_cases h1:key.length≤1048576
  · rw [decide_eq_false (by omega),cond_false]
    by_cases h2:b.length≤1048512
    · rw [decide_eq_false (by omega),cond_false]
      have hk:=HW h1
      have hs:=HT (De (BX key) 54++b)
      rw [Nt (by rw [List.length_append,Dh];omega)]
      omega
    · rw [decide_eq_true (by omega),cond_true];simp;omega
  · rw [decide_eq_true (by omega),cond_true];simp;omega
def RX (prk info:List UInt8):Nat→List UInt8×List UInt8
  | 0=>([],[])
  | k+1=>((RX prk info k).1++Ff prk ((RX prk info k).2++info++[by8 ((k:Int)+1)]),Ff prk ((RX prk info k).2++info++[by8 ((k:Int)+1)]))
def RA (prk info:List UInt8) (n:Int):List UInt8×Bool :=
  bif decide (0≤n) && decide (n≤8160) && decide ((info.length:Int)≤100) && decide ((prk.length:Int)≤1048576) then ((RX prk info ((n+31) / 32).toNat).1.take n.toNat,true) else ([],false)
def SR (s:ByteArray):List UInt8:=s.data.toList
section s2b
variable {P : Program} {ops : Array Oper} {Q : Exit → Act → World → Prop} {n : Nat} {e : Env} {w : World} {o : Oper} {rest : List Oper}
end s2b
def RB (key:List UInt8) (label:ByteArray):List UInt8:=(RA key (SR label) 32).1
def Sb:ByteArray:=ByteArray.mk ([114,101,107,101,121]:List UInt8).toArray
def Qg (key:List UInt8):Nat→List UInt8
  | 0=>key
  | k+1=>RB (Qg key k) Sb
def RJ (key:List UInt8) (n:Int):List UInt8:=bif decide (0≤n) && decide (n≤64) then Qg key n.toNat else []
end Go.Proofs.YtacoceibbheccaaGreat.K
