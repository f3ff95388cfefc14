import Derived.Test.YtacoceibbheccaaGreatMac
namespace Go.Proofs.YtacoceibbheccaaGreat.K
set_option linter.unusedSimpArgs false
set_option linter.unusedVariables false
def sI (i:Int):Int:=bif decide (i < 0) then 0 else bif decide (63 < i) then 0 else kw.getD i.toNat 0
theorem Az {k:Nat} (h:k < 64):sI ((k:Nat):Int)=kw.getD k 0:=by
  unfold sI
  rw [decide_eq_false (by omega),decide_eq_false (by omega),cond_false,cond_false,Int.toNat_natCast]
theorem yn (i:Int):0≤sI i∧sI i < 4294967296:=by
  unfold sI
  cases decide (i < 0) <;> cases decide (63 < i) <;> simp only [cond_true,cond_false] <;> first|omega|exact rV CS _
def pU (b:List UInt8) (f n:Int):List UInt8×Bool:=bif decide (0≤f) && decide (0≤n) && decide (f+n≤(b.length:Int)) then ((b.drop f.toNat).take n.toNat,true) else ([],false)
theorem ur {b:List UInt8} {f n:Int} (h:f < 0∨n < 0∨(b.length:Int) < f+n):pU b f n=([],false):=by
  unfold pU
  have:(decide (0≤f) && decide (0≤n) && decide (f+n≤(b.length:Int)))=false:=by
    simp only [Bool.and_eq_false_iff,decide_eq_false_iff_not];omega
  rw [this,cond_false]
theorem tL {b l:List UInt8} {f n:Int} (h0:0≤f) (h1:0≤n) (h2:f+n≤(b.length:Int)) (hl:(b.drop f.toNat).take n.toNat=l):pU b f n=(l,true):=by
  unfold pU
  rw [decide_eq_true h0,decide_eq_true h1,decide_eq_true h2,hl]
  rfl
theorem zS (b:List UInt8) (f n:Int):(pU b f n).1.length≤n.toNat∧(pU b f n).1.length≤b.length:=by
  unfold pU
  cases decide (0≤f) && decide (0≤n) && decide (f+n≤(b.length:Int))
  · exact ⟨Nat.zero_le _,Nat.zero_le _⟩
  · simp only [cond_true,List.length_take,List.length_drop];omega
def pi (b:List UInt8) (i k:Int):Int×Int×Bool:=bif decide (1≤k) && decide (k≤6) && decide (0≤i) && decide (i+k≤(b.length:Int)) then (wq b i.toNat k.toNat,i+k,true) else (0,0,false)
theorem rj {b:List UInt8} {i k:Int} (h:k < 1∨6 < k∨i < 0∨(b.length:Int) < i+k):pi b i k=(0,0,false):=by
  unfold pi
  have:(decide (1≤k) && decide (k≤6) && decide (0≤i) && decide (i+k≤(b.length:Int)))=false:=by
    simp only [Bool.and_eq_false_iff,decide_eq_false_iff_not];omega
  rw [this,cond_false]
theorem wr {b:List UInt8} {i k:Int} (h1:1≤k) (h2:k≤6) (h3:0≤i) (h4:i+k≤(b.length:Int)):pi b i k=(wq b i.toNat k.toNat,i+k,true):=by
  unfold pi
  rw [decide_eq_true h1,decide_eq_true h2,decide_eq_true h3,decide_eq_true h4]
  rfl
theorem AI {b:List UInt8} {f n:Int} (h:(pU b f n).2=true):0≤f∧0≤n∧f+n≤(b.length:Int):=by
  by_cases hh:f < 0∨n < 0∨(b.length:Int) < f+n
  · rw [ur hh] at h;cases h
  · omega
theorem uJ {b:List UInt8} {i k:Int} (h:(pU b i k).2=false):pi b i k=(0,0,false):=by
  refine rj ?_
  by_cases hh:k < 1∨6 < k∨i < 0∨(b.length:Int) < i+k
  · exact hh
  · rw [tL (by omega) (by omega) (by omega) rfl] at h;cases h
theorem uI {b:List UInt8} {i k:Int} {j:Nat} (h1:1≤k) (h2:k≤6) (h:(pU b i k).2=true) (hj:(pU b i k).1.length≤j):pi b i k=(ra ((pU b i k).1.take j) 0,i+k,true):=by
  have hc:=AI h
  rw [wr h1 h2 hc.1 hc.2.2,List.take_of_length_le hj,tL hc.1 hc.2.1 hc.2.2 rfl]
  rfl
theorem tH {b:List UInt8} {i k:Int} {j:Nat} (h1:1≤k) (h2:k≤6) (h:0≤i∧i+k≤(b.length:Int)) (hj:((j:Nat):Int)=k):pi b i k=(ra ((b.drop i.toNat).take j) 0,i+k,true):=by
  rw [wr h1 h2 h.1 h.2,show k.toNat=j by omega]
  rfl
theorem yA (l:List UInt8) (i:Nat) (h:i≤6):0≤ra (l.take i) 0∧ra (l.take i) 0 < 281474976710656:=by
  have h1:=wo l 0 i h
  have h2:(256:Nat) ^ i≤256 ^ 6:=Nat.pow_le_pow_right (by decide) h
  have h3:((256 ^ i:Nat):Int)=(256:Int) ^ i:=by simp
  have h4:(256:Nat) ^ 6=281474976710656:=by decide
  unfold wq at h1
  rw [List.drop_zero] at h1
  omega
theorem vH {l:List UInt8} {i:Nat} (h:i < l.length):256*ra (l.take i) 0+((l.getD i 0).toNat:Int)=ra (l.take (i+1)) 0:=by
  rw [List.take_succ_eq_append_getElem h,vG,Int.mul_comm]
  simp only [List.getD_eq_getElem?_getD,List.getElem?_eq_getElem h,Option.getD_some]
theorem xy {b:List UInt8} {a:Int} {i:Nat} (h0:0≤a) (h:a+(i:Int) < (b.length:Int)):ra ((b.drop a.toNat).take i) 0*256+((b.getD (a+((i:Nat):Int)).toNat 0).toNat:Int)=ra ((b.drop a.toNat).take (i+1)) 0:=by
  have hl:i < (b.drop a.toNat).length:=by rw [List.length_drop];omega
  rw [← vH hl,Int.mul_comm]
  congr 3
  simp only [List.getD_eq_getElem?_getD,List.getElem?_drop,show (a+((i:Nat):Int)).toNat=a.toNat+i by omega]
def schedP (b:List UInt8):List Int:=bif decide ((b.length:Int)=64) then sm b else []
theorem tk {b:List UInt8} (h:¬ (b.length:Int)=64):schedP b=[]:=by unfold schedP;rw [decide_eq_false h,cond_false]
theorem tj {b:List UInt8} (h:(b.length:Int)=64):schedP b=sm b:=by unfold schedP;rw [decide_eq_true h,cond_true]
theorem wH {b:List UInt8} {m:Nat} (h:(b.length:Int)=64) (h1:48≤m) (h2:m≤48):schedP b=schedN b m++List.replicate (48 - m) 0:=by
  obtain rfl:m=48:=by omega
  rw [tj h]
  simp [sm]
theorem wG {b:List UInt8} {m:Nat} (h:(b.length:Int)=64) (h1:48≤m) (h2:m≤48):schedP b=schedN b m:=by
  obtain rfl:m=48:=by omega
  rw [tj h]
  rfl
theorem uj (b:List UInt8):(schedP b).length=64∨¬ (b.length:Int)=64:=by
  by_cases h:(b.length:Int)=64
  · rw [tj h];exact .inl (qL b 48)
  · exact .inr h
theorem wF (b:List UInt8):qf (schedP b)=true:=by
  unfold schedP
  cases decide ((b.length:Int)=64)
  · rfl
  · exact rs b 48
theorem yB {b:List UInt8} {k:Nat} (hk:k < 16) (hb:(b.length:Int)=64):(pi b (4*((k:Nat):Int)) 4).1=wq b (4*k) 4:=by
  rw [wr (by omega) (by omega) (by omega) (by omega),show (4*((k:Nat):Int)).toNat=4*k by omega]
  rfl
theorem yl {α:Type} {l:List α} {z v:α} {n k:Nat} (hk:k=l.length) (hn:0 < n):(l++List.replicate n z).set k v=(l++[v])++List.replicate (n - 1) z:=by
  subst hk
  rw [List.set_append_right _ _ (Nat.le_refl _),Nat.sub_self]
  obtain ⟨m,rfl⟩:∃ m,n=m+1:=⟨n - 1,by omega⟩
  rw [List.replicate_succ,List.set_cons_zero,List.append_assoc]
  rfl
theorem vu {b:List UInt8} {k:Nat} (hk:k < 16) (hb:(b.length:Int)=64):(oL b k++List.replicate (64 - k) (0:Int)).set k (pi b (4*((k:Nat):Int)) 4).1=oL b (k+1)++List.replicate (64 - (k+1)) (0:Int):=by
  rw [yB hk hb,yl (qW b k).symm (by omega)]
  rfl
theorem wh {b:List UInt8} {k:Nat} (hk:k < 16) (hb:(b.length:Int)=64):oL b k++[(pi b (4*((k:Nat):Int)) 4).1]=oL b (k+1):=by rw [yB hk hb];rfl
theorem tl (b:List UInt8) (m:Nat):qf (schedN b m++List.replicate (48 - m) (0:Int))=true:=by
  have h:=rs b m
  unfold qf at *
  rw [List.all_append,h]
  simp
def tC (l:List Int) (m:Nat):Int:=(((l.getD ((16+((m:Nat):Int)) - 7).toNat 0+l.getD ((16+((m:Nat):Int)) - 16).toNat 0)+Aw (l.getD ((16+((m:Nat):Int)) - 15).toNat 0))+yg (l.getD ((16+((m:Nat):Int)) - 2).toNat 0)) % 4294967296
theorem vr (b:List UInt8) (m:Nat):tC (schedN b m) m=rD (schedN b m) (m+16):=by
  unfold tC rD
  rw [show ((16+((m:Nat):Int)) - 7).toNat=m+16 - 7 by omega,show ((16+((m:Nat):Int)) - 16).toNat=m+16 - 16 by omega,show ((16+((m:Nat):Int)) - 15).toNat=m+16 - 15 by omega,show ((16+((m:Nat):Int)) - 2).toNat=m+16 - 2 by omega]
theorem tr {l r:List Int} {k:Nat} (h:k < l.length):(l++r).getD k 0=l.getD k 0:=by
  simp only [List.getD_eq_getElem?_getD,List.getElem?_append_left h]
theorem xv (b:List UInt8) (m n:Nat):tC (schedN b m++List.replicate n 0) m=tC (schedN b m) m:=by
  have hl:=qL b m
  unfold tC
  rw [tr (by omega),tr (by omega),tr (by omega),tr (by omega)]
theorem wg {b:List UInt8} {m:Nat} (hm:m < 48):(schedN b m++List.replicate (48 - m) (0:Int)).set (16+((m:Nat):Int)).toNat (tC (schedN b m++List.replicate (48 - m) (0:Int)) m)=schedN b (m+1)++List.replicate (48 - (m+1)) (0:Int):=by
  have hl:=qL b m
  rw [xv,vr,yl (show (16+((m:Nat):Int)).toNat=(schedN b m).length by omega) (by omega)]
  rfl
theorem xw {b:List UInt8} {m:Nat}:schedN b m++[tC (schedN b m) m]=schedN b (m+1):=by rw [vr];rfl
section cmp
variable {w : List Int} {s : S8} {k : Nat}
theorem Cu {v:Int} (hk:k < 64) (hv:v=(((ol w s k).z+Cy (ol w s k).e+vW (ol w s k).e (ol w s k).f (ol w s k).g+sI ((k:Nat):Int)+w.getD k 0)+uOf (ol w s k)) % 4294967296):v=(ol w s (k+1)).a:=by rw [hv,Az hk];rfl
theorem Ct {v:Int} (hk:k < 64) (hv:v=((ol w s k).d+((ol w s k).z+Cy (ol w s k).e+vW (ol w s k).e (ol w s k).f (ol w s k).g+sI ((k:Nat):Int)+w.getD k 0)) % 4294967296):v=(ol w s (k+1)).e:=by rw [hv,Az hk];rfl
theorem Cs {t u:Int} (hk:k < 64) (ht:t=(ol w s k).z+Cy (ol w s k).e+nw (ot (ol w s k).e (ol w s k).f) (ot (nw (ol w s k).e 4294967295) (ol w s k).g)+kw.getD k 0+w.getD k 0) (hu:u=uOf (ol w s k)):(t % 4294967296+u % 4294967296) % 4294967296=(ol w s (k+1)).a:=by
  rw [ht,hu,vk (ol w s k).e 4294967295]
  show _=(tOf w k (ol w s k)+uOf (ol w s k)) % 4294967296
  unfold tOf vW
  omega
theorem Cr {t:Int} (hk:k < 64) (ht:t=(ol w s k).z+Cy (ol w s k).e+nw (ot (ol w s k).e (ol w s k).f) (ot (nw (ol w s k).e 4294967295) (ol w s k).g)+kw.getD k 0+w.getD k 0):((ol w s k).d+t % 4294967296) % 4294967296=(ol w s (k+1)).e:=by
  rw [ht,vk (ol w s k).e 4294967295]
  show _=((ol w s k).d+tOf w k (ol w s k)) % 4294967296
  unfold tOf vW
  omega
theorem BS (h:s.ok):qf s.list=true:=by
  obtain ⟨ha,hb,hc,hd,he,hf,hg,hz⟩:=h
  unfold qf S8.list
  simp only [List.all_cons,List.all_nil,Bool.and_true,Bool.and_eq_true,decide_eq_true_eq]
  omega
end cmp
theorem qO {h:List Int} {b:List UInt8} (hw:rk h 8=false):oK h b=h:=by unfold oK;rw [hw,cond_false]
theorem qN {h:List Int} {b:List UInt8} (hb:¬ (b.length:Int)=64):oK h b=h:=by unfold oK;rw [decide_eq_false hb,cond_false];cases rk h 8 <;> rfl
theorem qM {h:List Int} {b:List UInt8} {m:Nat} (hw:rk h 8=true) (hb:(b.length:Int)=64) (hm:8≤m):oK h b=(sc h (S8.list (ol (schedP b) (oE h) 64))).take m++h.drop m:=by
  have hl:h.length=8:=by have:=(qE hw).2;omega
  unfold oK
  rw [hw,cond_true,decide_eq_true hb,cond_true,tj hb,An (by omega) (by rw [hl];rfl)]
theorem yR {h:List Int} {b:List UInt8} {k:Nat} (hk:64*k≤b.length) (hn:b.length < 64*k+64):nE h b=(oX h b k,b.drop (64*k)):=by
  have:b.length / 64=k:=by omega
  unfold nE
  rw [this]
theorem tN {h:List Int} {b:List UInt8} (hw:rk h 8=true):(nE h b).1.length=8:=sy hw _
def pb (n:Int):List UInt8:=bif decide (0≤n) && decide (n≤1048576) then pad n else []
theorem sN {n:Int} (h0:0≤n) (h1:n≤1048576):pb n=pad n:=by unfold pb;rw [decide_eq_true h0,decide_eq_true h1];rfl
theorem uk {n:Int} (h:n < 0∨1048576 < n):pb n=[]:=by
  unfold pb
  have:(decide (0≤n) && decide (n≤1048576))=false:=by simp only [Bool.and_eq_false_iff,decide_eq_false_iff_not];omega
  rw [this,cond_false]
theorem qk (n:Int):(pb n).length≤72:=by
  by_cases h:n < 0∨1048576 < n
  · rw [uk h];simp
  · rw [sN (by omega) (by omega)];exact (wk n (by omega)).2
theorem Dl {n:Int} (h0:0≤n) (h1:n≤1048576):qg (8*n) 6 6=[0,0]++qg (8*n) 4 4:=by
  have e:∀ m:Int,by8 (m % 256)=by8 (m % 256):=fun _=>rfl
  have z1:(8*n) / (2:Int) ^ (8*(6 - 1 - ((0:Nat):Int))).toNat % 256=0:=by
    have:(2:Int) ^ (8*(6 - 1 - ((0:Nat):Int))).toNat=1099511627776:=by decide
    rw [this];omega
  have z2:(8*n) / (2:Int) ^ (8*(6 - 1 - ((1:Nat):Int))).toNat % 256=0:=by
    have:(2:Int) ^ (8*(6 - 1 - ((1:Nat):Int))).toNat=4294967296:=by decide
    rw [this];omega
  simp only [qg,z1,z2]
  rfl
theorem AB {n:Int} {j:Nat} (h0:0≤n) (h1:n≤1048576) (hj:((j:Nat):Int)≤(64 - (n+9) % 64) % 64) (hz:(n+9+(j:Int)) % 64=0):pb n=pB (([(128:UInt8)]++List.replicate j (0:UInt8))++[0,0]) (8*n) 6:=by
  have hk:BF n=j:=by unfold BF;omega
  rw [sN h0 h1]
  have hp:pB (([(128:UInt8)]++List.replicate j (0:UInt8))++[0,0]) (8*n) 6=(([(128:UInt8)]++List.replicate j (0:UInt8))++[0,0])++qg (8*n) 6 6:=rfl
  rw [hp,Dl h0 h1]
  unfold pad
  rw [hk]
  simp
theorem yq {n:Int} {j:Nat} (h0:0≤n) (h1:n≤1048576) (hj:((j:Nat):Int)≤(64 - (n+9) % 64) % 64) (hz:(n+9+(j:Int)) % 64=0):pb n=pB (pB ([(128:UInt8)]++List.replicate j (0:UInt8)) 0 4) (8*n) 4:=by
  have hk:BF n=j:=by unfold BF;omega
  rw [sN h0 h1,sM,sM]
  unfold pad
  rw [hk]
  have:qg 0 4 4=[0,0,0,0]:=by decide
  rw [this]
theorem vl {x:List Int} {k:Nat} (h:x.length≤k):oI x=oI (x.take k):=by rw [List.take_of_length_le h]
theorem ue {x:List Int} {k:Nat} (h:k < x.length):pB (oI (x.take k)) (x.getD k 0) 4=oI (x.take (k+1)):=by
  rw [sM,List.take_succ_eq_append_getElem h,xr]
  simp only [List.getD_eq_getElem?_getD,List.getElem?_eq_getElem h,Option.getD_some]
def ns (x:List (List UInt8)):List UInt8:=x.flatten
theorem pG (a b:List UInt8):(ns [a,b]).length=a.length+b.length:=by simp [ns]
theorem rv (a b c:List UInt8):(ns [a,b,c]).length=a.length+(b.length+c.length):=by simp [ns]
theorem zQ {x:List (List UInt8)} {k:Nat} (h:x.length≤k):ns x=ns (x.take k):=by rw [List.take_of_length_le h]
theorem vN {x:List (List UInt8)} {z:List UInt8} {k:Nat} (h:k < x.length):ns (x.take k)++x.getD k z=ns (x.take (k+1)):=by
  unfold ns
  rw [List.take_succ_eq_append_getElem h,List.flatten_append]
  simp only [List.getD_eq_getElem?_getD,List.getElem?_eq_getElem h,Option.getD_some,List.flatten_cons,List.flatten_nil,List.append_nil]
theorem Bj {x:List (List UInt8)} {z:List UInt8} {k:Nat}:(ns (x.take k)).length≤(ns x).length∧(x.length≤k∨(ns (x.take k)).length+(x.getD k z).length≤(ns x).length):=by
  have key:∀ j,(ns (x.take j)).length≤(ns x).length:=fun j=>by
    have h:ns x=ns (x.take j)++ns (x.drop j):=by unfold ns;rw [← List.flatten_append,List.take_append_drop]
    rw [h,List.length_append];omega
  refine ⟨key k,?_⟩
  rcases Nat.lt_or_ge k x.length with h|h
  · have h2:=key (k+1)
    rw [← vN (z:=z) h,List.length_append] at h2
    exact .inr h2
  · exact .inl h
theorem zI {b:List UInt8} (h:1048576 < (b.length:Int)):sha b=[]:=by unfold sha;rw [decide_eq_true h,cond_true]
theorem BP (b:List UInt8) (h:b.length≤1048576):(b++pb (b.length:Int)).length % 64=0∧(b++pb (b.length:Int)).length≤b.length+72:=by
  have hp:=wk b.length (by omega)
  rw [sN (by omega) (by omega),List.length_append]
  omega
theorem BO {b:List UInt8} {k:Nat} (h:b.length≤1048576) (h1:64*k≤(b++pb (b.length:Int)).length) (h2:(b++pb (b.length:Int)).length≤64*k):sha b=oI (oX k0 (b++pb (b.length:Int)) k):=by
  rw [sN (by omega) (by omega)] at *
  have:(b++pad (b.length:Int)).length / 64=k:=by omega
  unfold sha
  rw [decide_eq_false (by omega),cond_false,this]
theorem xz {h:List Int} {b:List UInt8} {k:Nat}:oK (oX h b k) ((b.drop (64*((k:Nat):Int)).toNat).take ((64*((k:Nat):Int)+64).toNat - (64*((k:Nat):Int)).toNat))=oX h b (k+1):=by
  rw [show (64*((k:Nat):Int)+64).toNat - (64*((k:Nat):Int)).toNat=64 by omega,show (64*((k:Nat):Int)).toNat=64*k by omega]
  rfl
theorem qS {key:List UInt8} (h:1048576 < (key.length:Int)):nc key=[]:=by unfold nc;rw [decide_eq_true h,cond_true]
theorem qR {key:List UInt8} {j:Nat} (h:key.length≤1048576) (h2:64 < key.length) (h3:(sha key).length+j≤64) (h4:64≤(sha key).length+j):nc key=sha key++List.replicate j 0:=by
  unfold nc sS
  rw [decide_eq_false (by omega),cond_false,decide_eq_true (by omega),cond_true,show 64 - (sha key).length=j by omega]
theorem qQ {key:List UInt8} {j:Nat} (h2:key.length≤64) (h3:key.length+j≤64) (h4:64≤key.length+j):nc key=key++List.replicate j 0:=by
  unfold nc sS
  rw [decide_eq_false (by omega),cond_false,decide_eq_false (by omega),cond_false,show 64 - key.length=j by omega]
theorem uo {key b:List UInt8} (h:1048576 < (key.length:Int)):pQ key b=[]:=by unfold pQ;rw [decide_eq_true h,cond_true]
theorem un {key b:List UInt8} (h:(key.length:Int)≤1048576) (h2:1048512 < (b.length:Int)):pQ key b=[]:=by unfold pQ;rw [decide_eq_true h2,cond_true];cases decide (1048576 < (key.length:Int)) <;> rfl
theorem AH {key b:List UInt8} (h:(key.length:Int)≤1048576) (h2:(b.length:Int)≤1048512):pQ key b=sha (om (nc key) 92++sha (om (nc key) 54++b)):=by
  unfold pQ
  rw [decide_eq_false (by omega),cond_false,decide_eq_false (by omega),cond_false]
theorem yz {key b:List UInt8} (h:(key.length:Int)≤1048576) (h2:(b.length:Int)≤1048512):pQ key b=sha (ns [om (nc key) 92,sha (ns [om (nc key) 54,b])]):=by
  rw [AH h h2]
  simp [ns]
theorem yy {key b:List UInt8} (h:(key.length:Int)≤1048576) (h2:(b.length:Int)≤1048512):pQ key b=sha (om ((nc key).take 64) 92++sha (om ((nc key).take 64) 54++b)):=by
  rw [AH h h2,List.take_of_length_le (rZ key).1]
theorem vy {x:List UInt8} {z y:UInt8} {k:Nat} (h:k < x.length):om (x.take k) y++[x.getD k z^^^y]=om (x.take (k+1)) y:=wO (f:=fun b=>b^^^y) h
theorem Cj (prk info:List UInt8) (k:Nat) {m:List UInt8} (h:m=(pZ prk info k).2++info++[by8 (((k:Nat):Int)+1)]):(pZ prk info k).1++pQ prk m=(pZ prk info (k+1)).1:=by rw [h];rfl
theorem Ci (prk info:List UInt8) (k:Nat) {m:List UInt8} (h:m=(pZ prk info k).2++info++[by8 (((k:Nat):Int)+1)]):pQ prk m=(pZ prk info (k+1)).2:=by rw [h];rfl
section leads
variable {key to : List UInt8} {most : Int} {i : Nat}
end leads
end Go.Proofs.YtacoceibbheccaaGreat.K
