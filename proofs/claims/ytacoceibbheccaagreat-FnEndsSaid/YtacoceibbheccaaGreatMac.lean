import Derived.Test.YtacoceibbheccaaGreatSha
import Derived.Lib.ConvBytes
import Derived.Lib.AppendStr
namespace Go.Proofs.YtacoceibbheccaaGreat.K
set_option linter.unusedSimpArgs false
set_option linter.unusedVariables false
def Lf (key:List UInt8):List UInt8:=bif decide (64 < (key.length:Int)) then sha key else key
def uF (key:List UInt8):List UInt8:=bif decide (1048576 < (key.length:Int)) then [] else Lf key++List.replicate (64 - (Lf key).length) 0
theorem Oi (key:List UInt8):(Lf key).length≤64:=by
  unfold Lf
  cases h:decide (64 < (key.length:Int))
  · have:=of_decide_eq_false h;simp only [cond_false];omega
  · have:=Kz key;simp only [cond_true];omega
theorem Lp {key:List UInt8} (h:key.length≤1048576):(uF key).length=64:=by
  have:=Oi key
  unfold uF
  rw [decide_eq_false (by omega),cond_false,List.length_append,List.length_replicate]
  omega
theorem Ko (key:List UInt8):(uF key).length≤64∧(1048576 < key.length∨(uF key).length=64):=by
  by_cases h:key.length≤1048576
  · have:=Lp h;omega
  · refine ⟨?_,.inl (by omega)⟩
    unfold uF;rw [decide_eq_true (by omega),cond_true];simp
def Gw (b:List UInt8) (x:UInt8):List UInt8:=b.map fun y=>y^^^x
theorem Gz (b:List UInt8) (x:UInt8):(Gw b x).length=b.length:=List.length_map _
theorem OS {α β:Type} {f:α→β} {x:List α} {z:α} {k:Nat} (h:k < x.length):(x.take k).map f++[f (x.getD k z)]=(x.take (k+1)).map f:=by
  rw [List.take_succ_eq_append_getElem h,List.map_append]
  simp only [List.map_cons,List.map_nil,List.getD_eq_getElem?_getD,List.getElem?_eq_getElem h,Option.getD_some]
theorem Tp {α β:Type} {f:α→β} {x:List α} {k:Nat} (h:x.length≤k):(x.take k).map f=x.map f:=by rw [List.take_of_length_le h]
def Iu (key b:List UInt8):List UInt8:=bif decide (1048576 < (key.length:Int)) then [] else bif decide (1048512 < (b.length:Int)) then [] else sha (Gw (uF key) 92++sha (Gw (uF key) 54++b))
theorem Km (key b:List UInt8):(Iu key b).length≤32∧((Iu key b).length=32∨((Iu key b).length=0∧(1048576 < key.length∨1048512 < b.length))):=by
  unfold Iu
  by_cases h1:key.length≤1048576
  · rw [decide_eq_false (by omega),cond_false]
    by_cases h2:b.length≤1048512
    · rw [decide_eq_false (by omega),cond_false]
      have hk:=Lp h1
      have hs:=Kz (Gw (uF key) 54++b)
      rw [Oa (by rw [List.length_append,Gz];omega)]
      omega
    · rw [decide_eq_true (by omega),cond_true];simp;omega
  · rw [decide_eq_true (by omega),cond_true];simp;omega
theorem RU {key b:List UInt8} (h1:key.length≤1048576) (h2:b.length≤1048512):(Iu key b).length=32:=by
  have:=Km key b
  omega
def UN (prk info:List UInt8):Nat→List UInt8×List UInt8
  | 0=>([],[])
  | k+1=>((UN prk info k).1++Iu prk ((UN prk info k).2++info++[by8 ((k:Int)+1)]),Iu prk ((UN prk info k).2++info++[by8 ((k:Int)+1)]))
def Uq (prk info:List UInt8) (n:Int):List UInt8×Bool :=
  bif decide (0≤n) && decide (n≤8160) && decide ((info.length:Int)≤100) && decide ((prk.length:Int)≤1048576) then ((UN prk info ((n+31) / 32).toNat).1.take n.toNat,true) else ([],false)
def Vp (s:ByteArray):List UInt8:=s.data.toList
section s2b
variable {P : Program} {ops : Array Oper} {Q : Exit → Act → World → Prop} {n : Nat} {e : Env} {w : World} {o : Oper} {rest : List Oper}
theorem apZ (x l:List UInt8) (hw:HG n ops o e) {T E U:Nat} {v:Value} (hT:SlTy P T E 1 1 (.int .u8 0)) (hU:P.underlying U=some .string) {base:Nat} (hown:Ow w base E 1 v x.length (x.map bV)) (hbase:base≤w.heap.size) {d:Nat} {a1 a2:Operand}
    (hk:∀ a c w',Ch (fun k=>v.ownBlock=some k) w w'→Ow w' base E 1 (.slice a (x++l).length c) (x++l).length ((x++l).map bV)→(x++l).length≤1073741824→WL P ops Q rest n (upd e d (.slice a (x++l).length c)) w')
    (hd:o.dst=some d:=by exact rfl) (hdn:Nat.blt d n=true:=by exact rfl) (ho:o.op=.call {callee:=.builtin .append,args:=#[a1,a2],argTypes:=#[T,U]}:=by exact rfl) (hx:ev e a1=v:=by exact rfl) (hy:ev e a2=.string (ByteArray.mk l.toArray):=by exact rfl)
    (hs:x.length+l.length≤1073741824:=by first|(simp only [List.length_append,List.length_cons,List.length_nil,List.length_replicate,List.length_take,List.length_drop];omega)|omega|assumption):WL P ops Q (o :: rest) n e w:=by
  have hq:(x++l).length=x.length+l.length:=List.length_append
  have hsz:(ByteArray.mk l.toArray).size=l.length:=by simp [ByteArray.size]
  have hc:Go.Lib.strCells (ByteArray.mk l.toArray)=l.map bV:=by simp [Go.Lib.strCells,bV]
  obtain ⟨i0,hi,hz,hs0,hb⟩:=hT.info
  obtain ⟨v',w',hrun,h1,h2,h3⟩:=Go.Lib.run_append_own_string (P:=P) w base T U o.type E i0 hT.under hU hi hz hs0 hb v x.length (x.map bV) hown (ByteArray.mk l.toArray) (by rw [hsz];simp only [maxLen];omega) (by rw [hsz];omega) hbase
  rw [hsz,hc,← List.map_append,← hq] at h1
  obtain ⟨a,c,rfl⟩:=Hg h1
  refine GX hw hd hdn (w':=w') (v:=.slice a (x++l).length c) ?_ (hk a c w' ⟨h2.os,h2.tape,h2.output,h2.size,fun k hk hn=>h2.block k hk (fun h=>hn h.symm)⟩ h1 (by omega))
  unfold execOp
  simp [ho,hx,hy,resolve,invoke,builtin,hrun]
end s2b
def Ur (key:List UInt8) (label:ByteArray):List UInt8:=(Uq key (Vp label) 32).1
def US:ByteArray:=ByteArray.mk ([114,101,107,101,121]:List UInt8).toArray
def SY (key:List UInt8):Nat→List UInt8
  | 0=>key
  | k+1=>Ur (SY key k) US
def UC (key:List UInt8) (n:Int):List UInt8:=bif decide (0≤n) && decide (n≤64) then SY key n.toNat else []
end Go.Proofs.YtacoceibbheccaaGreat.K
