import Derived.Test.YtacoceibbheccaaGreatSha
import Derived.Lib.ConvBytes
import Derived.Lib.AppendStr
namespace Go.Proofs.YtacoceibbheccaaGreat.K
set_option linter.unusedSimpArgs false
set_option linter.unusedVariables false
def sS (key:List UInt8):List UInt8:=bif decide (64 < (key.length:Int)) then sha key else key
def nc (key:List UInt8):List UInt8:=bif decide (1048576 < (key.length:Int)) then [] else sS key++List.replicate (64 - (sS key).length) 0
theorem wn (key:List UInt8):(sS key).length≤64:=by
  unfold sS
  cases h:decide (64 < (key.length:Int))
  · have:=of_decide_eq_false h;simp only [cond_false];omega
  · have:=tb key;simp only [cond_true];omega
theorem tf {key:List UInt8} (h:key.length≤1048576):(nc key).length=64:=by
  have:=wn key
  unfold nc
  rw [decide_eq_false (by omega),cond_false,List.length_append,List.length_replicate]
  omega
theorem rZ (key:List UInt8):(nc key).length≤64∧(1048576 < key.length∨(nc key).length=64):=by
  by_cases h:key.length≤1048576
  · have:=tf h;omega
  · refine ⟨?_,.inl (by omega)⟩
    unfold nc;rw [decide_eq_true (by omega),cond_true];simp
def om (b:List UInt8) (x:UInt8):List UInt8:=b.map fun y=>y^^^x
theorem ou (b:List UInt8) (x:UInt8):(om b x).length=b.length:=List.length_map _
theorem wO {α β:Type} {f:α→β} {x:List α} {z:α} {k:Nat} (h:k < x.length):(x.take k).map f++[f (x.getD k z)]=(x.take (k+1)).map f:=by
  rw [List.take_succ_eq_append_getElem h,List.map_append]
  simp only [List.map_cons,List.map_nil,List.getD_eq_getElem?_getD,List.getElem?_eq_getElem h,Option.getD_some]
theorem Bd {α β:Type} {f:α→β} {x:List α} {k:Nat} (h:x.length≤k):(x.take k).map f=x.map f:=by rw [List.take_of_length_le h]
def pQ (key b:List UInt8):List UInt8:=bif decide (1048576 < (key.length:Int)) then [] else bif decide (1048512 < (b.length:Int)) then [] else sha (om (nc key) 92++sha (om (nc key) 54++b))
theorem rJ (key b:List UInt8):(pQ key b).length≤32∧((pQ key b).length=32∨((pQ key b).length=0∧(1048576 < key.length∨1048512 < b.length))):=by
  unfold pQ
  by_cases h1:key.length≤1048576
  · rw [decide_eq_false (by omega),cond_false]
    by_cases h2:b.length≤1048512
    · rw [decide_eq_false (by omega),cond_false]
      have hk:=tf h1
      have hs:=tb (om (nc key) 54++b)
      rw [yj (by rw [List.length_append,ou];omega)]
      omega
    · rw [decide_eq_true (by omega),cond_true];simp;omega
  · rw [decide_eq_true (by omega),cond_true];simp;omega
theorem zP {key b:List UInt8} (h1:key.length≤1048576) (h2:b.length≤1048512):(pQ key b).length=32:=by
  have:=rJ key b
  omega
def pZ (prk info:List UInt8):Nat→List UInt8×List UInt8
  | 0=>([],[])
  | k+1=>((pZ prk info k).1++pQ prk ((pZ prk info k).2++info++[by8 ((k:Int)+1)]),pQ prk ((pZ prk info k).2++info++[by8 ((k:Int)+1)]))
theorem tt {prk info:List UInt8} (h1:prk.length≤1048576) (h2:info.length≤100):∀ k,(pZ prk info k).1.length=32*k∧(pZ prk info k).2.length≤32
  | 0=>⟨rfl,Nat.zero_le _⟩
  | k+1=>by
    have h:=tt h1 h2 k
    have hh:=zP h1 (b:=(pZ prk info k).2++info++[by8 ((k:Int)+1)]) (by simp only [List.length_append,List.length_cons,List.length_nil];omega)
    simp only [pZ,List.length_append,hh]
    omega
def pK (prk info:List UInt8) (n:Int):List UInt8×Bool :=
  bif decide (0≤n) && decide (n≤8160) && decide ((info.length:Int)≤100) && decide ((prk.length:Int)≤1048576) then ((pZ prk info ((n+31) / 32).toNat).1.take n.toNat,true) else ([],false)
theorem sA {prk info:List UInt8} {n:Int} (h0:0≤n) (h1:n≤8160) (h2:info.length≤100) (h3:prk.length≤1048576) {k:Nat} (hk:n≤32*k) (hk2:32*(k:Int) < n+32):pK prk info n=((pZ prk info k).1.take n.toNat,true):=by
  have:((n+31) / 32).toNat=k:=by omega
  unfold pK
  rw [decide_eq_true h0,decide_eq_true h1,decide_eq_true (by omega),decide_eq_true (by omega),this]
  rfl
theorem sB {prk info:List UInt8} {n:Int} (h:n < 0∨8160 < n∨100 < (info.length:Int)∨1048576 < (prk.length:Int)):pK prk info n=([],false):=by
  unfold pK
  have:(decide (0≤n) && decide (n≤8160) && decide ((info.length:Int)≤100) && decide ((prk.length:Int)≤1048576))=false:=by
    simp only [Bool.and_eq_false_iff,decide_eq_false_iff_not]
    omega
  rw [this,cond_false]
theorem up {prk info:List UInt8} {n:Int} (h0:0≤n) (h1:n≤8160) (h2:info.length≤100) (h3:prk.length≤1048576):(pK prk info n).1.length=n.toNat:=by
  rw [sA h0 h1 h2 h3 (k:=((n+31) / 32).toNat) (by omega) (by omega)]
  have:=(tt h3 h2 ((n+31) / 32).toNat).1
  simp only [List.length_take,this]
  omega
theorem vO (prk info:List UInt8) (n:Int):(pK prk info n).1.length≤8160:=by
  by_cases h:n < 0∨8160 < n∨100 < (info.length:Int)∨1048576 < (prk.length:Int)
  · rw [sB h];simp
  · rw [up (by omega) (by omega) (by omega) (by omega)];omega
def rT (s:ByteArray):List UInt8:=s.data.toList
theorem yf (l:List UInt8):rT (ByteArray.mk l.toArray)=l:=by simp [rT]
section s2b
variable {P : Program} {ops : Array Oper} {Q : Exit → Act → World → Prop} {n : Nat} {e : Env} {w : World} {o : Oper} {rest : List Oper}
theorem BH (s:ByteArray) (hw:pH n ops o e) {d src dst E:Nat} {x:Operand} (hd:o.dst=some d) (hdn:Nat.blt d n=true) (ho:o.op=.convert src dst x) (hx:ev e x=.string s)
    (hs:P.underlying src=some .string) (hds:P.underlying dst=some (.slice E)) (he:P.underlying E=some (.int .u8)) (hl:(rT s).length≤1073741824)
    (hk:∀ a c w',Keep w w'→Rd w' 1 (.slice a (rT s).length c) (rT s).length ((rT s).map bV)→WL P ops Q rest n (upd e d (.slice a (rT s).length c)) w'):WL P ops Q (o :: rest) n e w:=by
  have hsz:s.size=(rT s).length:=(Array.length_toList (xs:=s.data)).symm
  have hrun:=Go.Lib.run_convert_string_bytes (P:=P) w src dst E s hs hds he
  rw [hsz] at hrun
  refine oQ hw hd hdn (w':=Go.Lib.bytesWorld w E s) (v:=.slice (some ⟨w.heap.size,0,none⟩) (rT s).length (grownCap w (rT s).length 0 E)) ?_ (hk (some ⟨w.heap.size,0,none⟩) (grownCap w (rT s).length 0 E) (Go.Lib.bytesWorld w E s) ?_ ?_)
  · unfold execOp
    simp [ho,hx,hrun]
  · exact ⟨rfl,rfl,rfl,by rw [Go.Lib.bytesWorld_size];omega,fun k hk _=>Go.Lib.bytesWorld_at_old w E s k hk⟩
  · refine ⟨_,_,rfl,grownCap_ge _ _ _ _,grownCap_le_maxLen _ _ _ _ (by simp only [maxLen];omega),by simp,fun hn=>⟨_,rfl,fun j u hu=>?_⟩⟩
    rw [Am]
    have hj:j < (rT s).length:=by
      rcases Nat.lt_or_ge j (rT s).length with h|h
      · exact h
      · rw [List.getElem?_eq_none (by simpa using h)] at hu;cases hu
    have hm:((rT s).map bV)[j]?=some (bV (rT s)[j]):=by rw [List.getElem?_map,List.getElem?_eq_getElem hj];rfl
    rw [hm] at hu
    injection hu with hu
    rw [Go.Lib.bytesWorld_cell w E s j (by omega),← hu]
    have hg:s.data.toList.getD j 0=(rT s)[j]:=by
      show (rT s).getD j 0=_
      rw [List.getD_eq_getElem?_getD,List.getElem?_eq_getElem hj]
      rfl
    rw [hg]
    rfl
end s2b
def derive (key:List UInt8) (label:ByteArray):List UInt8:=(pK key (rT label) 32).1
def CO:ByteArray:=ByteArray.mk ([114,101,107,101,121]:List UInt8).toArray
theorem tK (key:List UInt8) (label:ByteArray):(derive key label).length≤8160∧(100 < (rT label).length∨1048576 < key.length∨(derive key label).length=32):=by
  refine ⟨vO _ _ _,?_⟩
  by_cases h1:(rT label).length≤100
  · by_cases h2:key.length≤1048576
    · exact .inr (.inr (up (by decide) (by decide) h1 h2))
    · exact .inr (.inl (by omega))
  · exact .inl (by omega)
def AN (key:List UInt8):Nat→List UInt8
  | 0=>key
  | k+1=>derive (AN key k) CO
def Cw (key:List UInt8) (n:Int):List UInt8:=bif decide (0≤n) && decide (n≤64) then AN key n.toNat else []
end Go.Proofs.YtacoceibbheccaaGreat.K
