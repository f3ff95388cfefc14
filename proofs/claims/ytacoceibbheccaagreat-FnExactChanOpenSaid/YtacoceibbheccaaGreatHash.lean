import Derived.Test.YtacoceibbheccaaGreatMac
namespace Go.Proofs.YtacoceibbheccaaGreat.K
set_option linter.unusedSimpArgs false
set_option linter.unusedVariables false
def HE (i:Int):Int:=bif decide (i < 0) then 0 else bif decide (63 < i) then 0 else kw.getD i.toNat 0
theorem PM {k:Nat} (h:k < 64):HE ((k:Nat):Int)=kw.getD k 0:=by
  unfold HE
  rw [decide_eq_false (by omega),decide_eq_false (by omega),cond_false,cond_false,Int.toNat_natCast]
theorem Nx (i:Int):0≤HE i∧HE i < 4294967296:=by
  unfold HE
  cases decide (i < 0) <;> cases decide (63 < i) <;> simp only [cond_true,cond_false] <;> first|omega|exact Ha Sk _
def EU (b:List UInt8) (f n:Int):List UInt8×Bool:=bif decide (0≤f) && decide (0≤n) && decide (f+n≤(b.length:Int)) then ((b.drop f.toNat).take n.toNat,true) else ([],false)
theorem Ju {b:List UInt8} {f n:Int} (h:f < 0∨n < 0∨(b.length:Int) < f+n):EU b f n=([],false):=by
  unfold EU
  have:(decide (0≤f) && decide (0≤n) && decide (f+n≤(b.length:Int)))=false:=by
    simp only [Bool.and_eq_false_iff,decide_eq_false_iff_not];omega
  rw [this,cond_false]
theorem IL {b l:List UInt8} {f n:Int} (h0:0≤f) (h1:0≤n) (h2:f+n≤(b.length:Int)) (hl:(b.drop f.toNat).take n.toNat=l):EU b f n=(l,true):=by
  unfold EU
  rw [decide_eq_true h0,decide_eq_true h1,decide_eq_true h2,hl]
  rfl
theorem Pf (b:List UInt8) (f n:Int):(EU b f n).1.length≤n.toNat∧(EU b f n).1.length≤b.length:=by
  unfold EU
  cases decide (0≤f) && decide (0≤n) && decide (f+n≤(b.length:Int))
  · exact ⟨Nat.zero_le _,Nat.zero_le _⟩
  · simp only [cond_true,List.length_take,List.length_drop];omega
def DX (b:List UInt8) (i k:Int):Int×Int×Bool:=bif decide (1≤k) && decide (k≤6) && decide (0≤i) && decide (i+k≤(b.length:Int)) then (Lp b i.toNat k.toNat,i+k,true) else (0,0,false)
theorem Gk {b:List UInt8} {i k:Int} (h:k < 1∨6 < k∨i < 0∨(b.length:Int) < i+k):DX b i k=(0,0,false):=by
  unfold DX
  have:(decide (1≤k) && decide (k≤6) && decide (0≤i) && decide (i+k≤(b.length:Int)))=false:=by
    simp only [Bool.and_eq_false_iff,decide_eq_false_iff_not];omega
  rw [this,cond_false]
theorem Lq {b:List UInt8} {i k:Int} (h1:1≤k) (h2:k≤6) (h3:0≤i) (h4:i+k≤(b.length:Int)):DX b i k=(Lp b i.toNat k.toNat,i+k,true):=by
  unfold DX
  rw [decide_eq_true h1,decide_eq_true h2,decide_eq_true h3,decide_eq_true h4]
  rfl
theorem PX {b:List UInt8} {f n:Int} (h:(EU b f n).2=true):0≤f∧0≤n∧f+n≤(b.length:Int):=by
  by_cases hh:f < 0∨n < 0∨(b.length:Int) < f+n
  · rw [Ju hh] at h;cases h
  · omega
theorem JY {b:List UInt8} {i k:Int} (h:(EU b i k).2=false):DX b i k=(0,0,false):=by
  refine Gk ?_
  by_cases hh:k < 1∨6 < k∨i < 0∨(b.length:Int) < i+k
  · exact hh
  · rw [IL (by omega) (by omega) (by omega) rfl] at h;cases h
theorem JX {b:List UInt8} {i k:Int} {j:Nat} (h1:1≤k) (h2:k≤6) (h:(EU b i k).2=true) (hj:(EU b i k).1.length≤j):DX b i k=(Gc ((EU b i k).1.take j) 0,i+k,true):=by
  have hc:=PX h
  rw [Lq h1 h2 hc.1 hc.2.2,List.take_of_length_le hj,IL hc.1 hc.2.1 hc.2.2 rfl]
  rfl
theorem II {b:List UInt8} {i k:Int} {j:Nat} (h1:1≤k) (h2:k≤6) (h:0≤i∧i+k≤(b.length:Int)) (hj:((j:Nat):Int)=k):DX b i k=(Gc ((b.drop i.toNat).take j) 0,i+k,true):=by
  rw [Lq h1 h2 h.1 h.2,show k.toNat=j by omega]
  rfl
theorem NJ (l:List UInt8) (i:Nat) (h:i≤6):0≤Gc (l.take i) 0∧Gc (l.take i) 0 < 281474976710656:=by
  have h1:=Lo l 0 i h
  have h2:(256:Nat) ^ i≤256 ^ 6:=Nat.pow_le_pow_right (by decide) h
  have h3:((256 ^ i:Nat):Int)=(256:Int) ^ i:=by simp
  have h4:(256:Nat) ^ 6=281474976710656:=by decide
  unfold Lp at h1
  rw [List.drop_zero] at h1
  omega
theorem KO {l:List UInt8} {i:Nat} (h:i < l.length):256*Gc (l.take i) 0+((l.getD i 0).toNat:Int)=Gc (l.take (i+1)) 0:=by
  rw [List.take_succ_eq_append_getElem h,KN,Int.mul_comm]
  simp only [List.getD_eq_getElem?_getD,List.getElem?_eq_getElem h,Option.getD_some]
theorem MG {b:List UInt8} {a:Int} {i:Nat} (h0:0≤a) (h:a+(i:Int) < (b.length:Int)):Gc ((b.drop a.toNat).take i) 0*256+((b.getD (a+((i:Nat):Int)).toNat 0).toNat:Int)=Gc ((b.drop a.toNat).take (i+1)) 0:=by
  have hl:i < (b.drop a.toNat).length:=by rw [List.length_drop];omega
  rw [← KO hl,Int.mul_comm]
  congr 3
  simp only [List.getD_eq_getElem?_getD,List.getElem?_drop,show (a+((i:Nat):Int)).toNat=a.toNat+i by omega]
def schedP (b:List UInt8):List Int:=bif decide ((b.length:Int)=64) then Hp b else []
theorem Ie {b:List UInt8} (h:¬ (b.length:Int)=64):schedP b=[]:=by unfold schedP;rw [decide_eq_false h,cond_false]
theorem Ic {b:List UInt8} (h:(b.length:Int)=64):schedP b=Hp b:=by unfold schedP;rw [decide_eq_true h,cond_true]
theorem LO {b:List UInt8} {m:Nat} (h:(b.length:Int)=64) (h1:48≤m) (h2:m≤48):schedP b=schedN b m++List.replicate (48 - m) 0:=by
  obtain rfl:m=48:=by omega
  rw [Ic h]
  simp [Hp]
theorem LN {b:List UInt8} {m:Nat} (h:(b.length:Int)=64) (h1:48≤m) (h2:m≤48):schedP b=schedN b m:=by
  obtain rfl:m=48:=by omega
  rw [Ic h]
  rfl
theorem Jk (b:List UInt8):(schedP b).length=64∨¬ (b.length:Int)=64:=by
  by_cases h:(b.length:Int)=64
  · rw [Ic h];exact .inl (FN b 48)
  · exact .inr h
theorem LM (b:List UInt8):Fj (schedP b)=true:=by
  unfold schedP
  cases decide ((b.length:Int)=64)
  · rfl
  · exact Gr b 48
theorem NK {b:List UInt8} {k:Nat} (hk:k < 16) (hb:(b.length:Int)=64):(DX b (4*((k:Nat):Int)) 4).1=Lp b (4*k) 4:=by
  rw [Lq (by omega) (by omega) (by omega) (by omega),show (4*((k:Nat):Int)).toNat=4*k by omega]
  rfl
theorem Nu {α:Type} {l:List α} {z v:α} {n k:Nat} (hk:k=l.length) (hn:0 < n):(l++List.replicate n z).set k v=(l++[v])++List.replicate (n - 1) z:=by
  subst hk
  rw [List.set_append_right _ _ (Nat.le_refl _),Nat.sub_self]
  obtain ⟨m,rfl⟩:∃ m,n=m+1:=⟨n - 1,by omega⟩
  rw [List.replicate_succ,List.set_cons_zero,List.append_assoc]
  rfl
theorem Kz {b:List UInt8} {k:Nat} (hk:k < 16) (hb:(b.length:Int)=64):(DB b k++List.replicate (64 - k) (0:Int)).set k (DX b (4*((k:Nat):Int)) 4).1=DB b (k+1)++List.replicate (64 - (k+1)) (0:Int):=by
  rw [NK hk hb,Nu (FW b k).symm (by omega)]
  rfl
theorem Li {b:List UInt8} {k:Nat} (hk:k < 16) (hb:(b.length:Int)=64):DB b k++[(DX b (4*((k:Nat):Int)) 4).1]=DB b (k+1):=by rw [NK hk hb];rfl
theorem Ig (b:List UInt8) (m:Nat):Fj (schedN b m++List.replicate (48 - m) (0:Int))=true:=by
  have h:=Gr b m
  unfold Fj at *
  rw [List.all_append,h]
  simp
def Iy (l:List Int) (m:Nat):Int:=(((l.getD ((16+((m:Nat):Int)) - 7).toNat 0+l.getD ((16+((m:Nat):Int)) - 16).toNat 0)+PJ (l.getD ((16+((m:Nat):Int)) - 15).toNat 0))+Nq (l.getD ((16+((m:Nat):Int)) - 2).toNat 0)) % 4294967296
theorem Kx (b:List UInt8) (m:Nat):Iy (schedN b m) m=GJ (schedN b m) (m+16):=by
  unfold Iy GJ
  rw [show ((16+((m:Nat):Int)) - 7).toNat=m+16 - 7 by omega,show ((16+((m:Nat):Int)) - 16).toNat=m+16 - 16 by omega,show ((16+((m:Nat):Int)) - 15).toNat=m+16 - 15 by omega,show ((16+((m:Nat):Int)) - 2).toNat=m+16 - 2 by omega]
theorem Il {l r:List Int} {k:Nat} (h:k < l.length):(l++r).getD k 0=l.getD k 0:=by
  simp only [List.getD_eq_getElem?_getD,List.getElem?_append_left h]
theorem MC (b:List UInt8) (m n:Nat):Iy (schedN b m++List.replicate n 0) m=Iy (schedN b m) m:=by
  have hl:=FN b m
  unfold Iy
  rw [Il (by omega),Il (by omega),Il (by omega),Il (by omega)]
theorem Lh {b:List UInt8} {m:Nat} (hm:m < 48):(schedN b m++List.replicate (48 - m) (0:Int)).set (16+((m:Nat):Int)).toNat (Iy (schedN b m++List.replicate (48 - m) (0:Int)) m)=schedN b (m+1)++List.replicate (48 - (m+1)) (0:Int):=by
  have hl:=FN b m
  rw [MC,Kx,Nu (show (16+((m:Nat):Int)).toNat=(schedN b m).length by omega) (by omega)]
  rfl
theorem MD {b:List UInt8} {m:Nat}:schedN b m++[Iy (schedN b m) m]=schedN b (m+1):=by rw [Kx];rfl
section cmp
variable {w : List Int} {s : S8} {k : Nat}
theorem RH {v:Int} (hk:k < 64) (hv:v=(((Db w s k).z+RN (Db w s k).e+La (Db w s k).e (Db w s k).f (Db w s k).g+HE ((k:Nat):Int)+w.getD k 0)+uOf (Db w s k)) % 4294967296):v=(Db w s (k+1)).a:=by rw [hv,PM hk];rfl
theorem RG {v:Int} (hk:k < 64) (hv:v=((Db w s k).d+((Db w s k).z+RN (Db w s k).e+La (Db w s k).e (Db w s k).f (Db w s k).g+HE ((k:Nat):Int)+w.getD k 0)) % 4294967296):v=(Db w s (k+1)).e:=by rw [hv,PM hk];rfl
theorem RF {t u:Int} (hk:k < 64) (ht:t=(Db w s k).z+RN (Db w s k).e+Ck (Dg (Db w s k).e (Db w s k).f) (Dg (Ck (Db w s k).e 4294967295) (Db w s k).g)+kw.getD k 0+w.getD k 0) (hu:u=uOf (Db w s k)):(t % 4294967296+u % 4294967296) % 4294967296=(Db w s (k+1)).a:=by
  rw [ht,hu,Ko (Db w s k).e 4294967295]
  show _=(tOf w k (Db w s k)+uOf (Db w s k)) % 4294967296
  unfold tOf La
  omega
theorem RE {t:Int} (hk:k < 64) (ht:t=(Db w s k).z+RN (Db w s k).e+Ck (Dg (Db w s k).e (Db w s k).f) (Dg (Ck (Db w s k).e 4294967295) (Db w s k).g)+kw.getD k 0+w.getD k 0):((Db w s k).d+t % 4294967296) % 4294967296=(Db w s (k+1)).e:=by
  rw [ht,Ko (Db w s k).e 4294967295]
  show _=((Db w s k).d+tOf w k (Db w s k)) % 4294967296
  unfold tOf La
  omega
theorem Rl (h:s.ok):Fj s.list=true:=by
  obtain ⟨ha,hb,hc,hd,he,hf,hg,hz⟩:=h
  unfold Fj S8.list
  simp only [List.all_cons,List.all_nil,Bool.and_true,Bool.and_eq_true,decide_eq_true_eq]
  omega
end cmp
theorem FQ {h:List Int} {b:List UInt8} (hw:Gp h 8=false):Dz h b=h:=by unfold Dz;rw [hw,cond_false]
theorem FP {h:List Int} {b:List UInt8} (hb:¬ (b.length:Int)=64):Dz h b=h:=by unfold Dz;rw [decide_eq_false hb,cond_false];cases Gp h 8 <;> rfl
theorem FO {h:List Int} {b:List UInt8} {m:Nat} (hw:Gp h 8=true) (hb:(b.length:Int)=64) (hm:8≤m):Dz h b=(Hl h (S8.list (Db (schedP b) (Dt h) 64))).take m++h.drop m:=by
  have hl:h.length=8:=by have:=(FF hw).2;omega
  unfold Dz
  rw [hw,cond_true,decide_eq_true hb,cond_true,Ic hb,PE (by omega) (by rw [hl];rfl)]
theorem NX {h:List Int} {b:List UInt8} {k:Nat} (hk:64*k≤b.length) (hn:b.length < 64*k+64):Cz h b=(DK h b k,b.drop (64*k)):=by
  have:b.length / 64=k:=by omega
  unfold Cz
  rw [this]
theorem IM {h:List Int} {b:List UInt8} (hw:Gp h 8=true):(Cz h b).1.length=8:=Hw hw _
def DQ (n:Int):List UInt8:=bif decide (0≤n) && decide (n≤1048576) then pad n else []
theorem HH {n:Int} (h0:0≤n) (h1:n≤1048576):DQ n=pad n:=by unfold DQ;rw [decide_eq_true h0,decide_eq_true h1];rfl
theorem Jl {n:Int} (h:n < 0∨1048576 < n):DQ n=[]:=by
  unfold DQ
  have:(decide (0≤n) && decide (n≤1048576))=false:=by simp only [Bool.and_eq_false_iff,decide_eq_false_iff_not];omega
  rw [this,cond_false]
theorem Fm (n:Int):(DQ n).length≤72:=by
  by_cases h:n < 0∨1048576 < n
  · rw [Jl h];simp
  · rw [HH (by omega) (by omega)];exact (Lk n (by omega)).2
theorem SS {n:Int} (h0:0≤n) (h1:n≤1048576):Fg (8*n) 6 6=[0,0]++Fg (8*n) 4 4:=by
  have e:∀ m:Int,by8 (m % 256)=by8 (m % 256):=fun _=>rfl
  have z1:(8*n) / (2:Int) ^ (8*(6 - 1 - ((0:Nat):Int))).toNat % 256=0:=by
    have:(2:Int) ^ (8*(6 - 1 - ((0:Nat):Int))).toNat=1099511627776:=by decide
    rw [this];omega
  have z2:(8*n) / (2:Int) ^ (8*(6 - 1 - ((1:Nat):Int))).toNat % 256=0:=by
    have:(2:Int) ^ (8*(6 - 1 - ((1:Nat):Int))).toNat=4294967296:=by decide
    rw [this];omega
  simp only [Fg,z1,z2]
  rfl
theorem PN {n:Int} {j:Nat} (h0:0≤n) (h1:n≤1048576) (hj:((j:Nat):Int)≤(64 - (n+9) % 64) % 64) (hz:(n+9+(j:Int)) % 64=0):DQ n=Et (([(128:UInt8)]++List.replicate j (0:UInt8))++[0,0]) (8*n) 6:=by
  have hk:Ra n=j:=by unfold Ra;omega
  rw [HH h0 h1]
  have hp:Et (([(128:UInt8)]++List.replicate j (0:UInt8))++[0,0]) (8*n) 6=(([(128:UInt8)]++List.replicate j (0:UInt8))++[0,0])++Fg (8*n) 6 6:=rfl
  rw [hp,SS h0 h1]
  unfold pad
  rw [hk]
  simp
theorem NA {n:Int} {j:Nat} (h0:0≤n) (h1:n≤1048576) (hj:((j:Nat):Int)≤(64 - (n+9) % 64) % 64) (hz:(n+9+(j:Int)) % 64=0):DQ n=Et (Et ([(128:UInt8)]++List.replicate j (0:UInt8)) 0 4) (8*n) 4:=by
  have hk:Ra n=j:=by unfold Ra;omega
  rw [HH h0 h1,HG,HG]
  unfold pad
  rw [hk]
  have:Fg 0 4 4=[0,0,0,0]:=by decide
  rw [this]
theorem Kp {x:List Int} {k:Nat} (h:x.length≤k):Dy x=Dy (x.take k):=by rw [List.take_of_length_le h]
theorem Jf {x:List Int} {k:Nat} (h:k < x.length):Et (Dy (x.take k)) (x.getD k 0) 4=Dy (x.take (k+1)):=by
  rw [HG,List.take_succ_eq_append_getElem h,My]
  simp only [List.getD_eq_getElem?_getD,List.getElem?_eq_getElem h,Option.getD_some]
def Ci (x:List (List UInt8)):List UInt8:=x.flatten
theorem Ez (a b:List UInt8):(Ci [a,b]).length=a.length+b.length:=by simp [Ci]
theorem Gv (a b c:List UInt8):(Ci [a,b,c]).length=a.length+(b.length+c.length):=by simp [Ci]
theorem Pd {x:List (List UInt8)} {k:Nat} (h:x.length≤k):Ci x=Ci (x.take k):=by rw [List.take_of_length_le h]
theorem KU {x:List (List UInt8)} {z:List UInt8} {k:Nat} (h:k < x.length):Ci (x.take k)++x.getD k z=Ci (x.take (k+1)):=by
  unfold Ci
  rw [List.take_succ_eq_append_getElem h,List.flatten_append]
  simp only [List.getD_eq_getElem?_getD,List.getElem?_eq_getElem h,Option.getD_some,List.flatten_cons,List.flatten_nil,List.append_nil]
theorem QD {x:List (List UInt8)} {z:List UInt8} {k:Nat}:(Ci (x.take k)).length≤(Ci x).length∧(x.length≤k∨(Ci (x.take k)).length+(x.getD k z).length≤(Ci x).length):=by
  have key:∀ j,(Ci (x.take j)).length≤(Ci x).length:=fun j=>by
    have h:Ci x=Ci (x.take j)++Ci (x.drop j):=by unfold Ci;rw [← List.flatten_append,List.take_append_drop]
    rw [h,List.length_append];omega
  refine ⟨key k,?_⟩
  rcases Nat.lt_or_ge k x.length with h|h
  · have h2:=key (k+1)
    rw [← KU (z:=z) h,List.length_append] at h2
    exact .inr h2
  · exact .inl h
theorem OT {b:List UInt8} (h:1048576 < (b.length:Int)):sha b=[]:=by unfold sha;rw [decide_eq_true h,cond_true]
theorem Rk (b:List UInt8) (h:b.length≤1048576):(b++DQ (b.length:Int)).length % 64=0∧(b++DQ (b.length:Int)).length≤b.length+72:=by
  have hp:=Lk b.length (by omega)
  rw [HH (by omega) (by omega),List.length_append]
  omega
theorem Rj {b:List UInt8} {k:Nat} (h:b.length≤1048576) (h1:64*k≤(b++DQ (b.length:Int)).length) (h2:(b++DQ (b.length:Int)).length≤64*k):sha b=Dy (DK k0 (b++DQ (b.length:Int)) k):=by
  rw [HH (by omega) (by omega)] at *
  have:(b++pad (b.length:Int)).length / 64=k:=by omega
  unfold sha
  rw [decide_eq_false (by omega),cond_false,this]
theorem MH {h:List Int} {b:List UInt8} {k:Nat}:Dz (DK h b k) ((b.drop (64*((k:Nat):Int)).toNat).take ((64*((k:Nat):Int)+64).toNat - (64*((k:Nat):Int)).toNat))=DK h b (k+1):=by
  rw [show (64*((k:Nat):Int)+64).toNat - (64*((k:Nat):Int)).toNat=64 by omega,show (64*((k:Nat):Int)).toNat=64*k by omega]
  rfl
theorem FT {key:List UInt8} (h:1048576 < (key.length:Int)):BX key=[]:=by unfold BX;rw [decide_eq_true h,cond_true]
theorem FS {key:List UInt8} {j:Nat} (h:key.length≤1048576) (h2:64 < key.length) (h3:(sha key).length+j≤64) (h4:64≤(sha key).length+j):BX key=sha key++List.replicate j 0:=by
  unfold BX HL
  rw [decide_eq_false (by omega),cond_false,decide_eq_true (by omega),cond_true,show 64 - (sha key).length=j by omega]
theorem FR {key:List UInt8} {j:Nat} (h2:key.length≤64) (h3:key.length+j≤64) (h4:64≤key.length+j):BX key=key++List.replicate j 0:=by
  unfold BX HL
  rw [decide_eq_false (by omega),cond_false,decide_eq_false (by omega),cond_false,show 64 - key.length=j by omega]
theorem Jq {key b:List UInt8} (h:1048576 < (key.length:Int)):Ff key b=[]:=by unfold Ff;rw [decide_eq_true h,cond_true]
theorem Jp {key b:List UInt8} (h:(key.length:Int)≤1048576) (h2:1048512 < (b.length:Int)):Ff key b=[]:=by unfold Ff;rw [decide_eq_true h2,cond_true];cases decide (1048576 < (key.length:Int)) <;> rfl
theorem PW {key b:List UInt8} (h:(key.length:Int)≤1048576) (h2:(b.length:Int)≤1048512):Ff key b=sha (De (BX key) 92++sha (De (BX key) 54++b)):=by
  unfold Ff
  rw [decide_eq_false (by omega),cond_false,decide_eq_false (by omega),cond_false]
theorem NI {key b:List UInt8} (h:(key.length:Int)≤1048576) (h2:(b.length:Int)≤1048512):Ff key b=sha (Ci [De (BX key) 92,sha (Ci [De (BX key) 54,b])]):=by
  rw [PW h h2]
  simp [Ci]
theorem NH {key b:List UInt8} (h:(key.length:Int)≤1048576) (h2:(b.length:Int)≤1048512):Ff key b=sha (De ((BX key).take 64) 92++sha (De ((BX key).take 64) 54++b)):=by
  rw [PW h h2,List.take_of_length_le (Hh key).1]
theorem KD {x:List UInt8} {z y:UInt8} {k:Nat} (h:k < x.length):De (x.take k) y++[x.getD k z^^^y]=De (x.take (k+1)) y:=LW (f:=fun b=>b^^^y) h
section leads
variable {key to : List UInt8} {most : Int} {i : Nat}
end leads
end Go.Proofs.YtacoceibbheccaaGreat.K
