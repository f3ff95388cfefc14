import Derived.Test.YtacoceibbheccaaGreatMac
namespace Go.Proofs.YtacoceibbheccaaGreat.K
set_option linter.unusedSimpArgs false
set_option linter.unusedVariables false
def KU (i:Int):Int:=bif decide (i < 0) then 0 else bif decide (63 < i) then 0 else kw.getD i.toNat 0
theorem SJ {k:Nat} (h:k < 64):KU ((k:Nat):Int)=kw.getD k 0:=by
  unfold KU
  rw [decide_eq_false (by omega),decide_eq_false (by omega),cond_false,cond_false,Int.toNat_natCast]
theorem Qm (i:Int):0≤KU i∧KU i < 4294967296:=by
  unfold KU
  cases decide (i < 0) <;> cases decide (63 < i) <;> simp only [cond_true,cond_false] <;> first|omega|exact Ki UW _
def Ic (b:List UInt8) (f n:Int):List UInt8×Bool:=bif decide (0≤f) && decide (0≤n) && decide (f+n≤(b.length:Int)) then ((b.drop f.toNat).take n.toNat,true) else ([],false)
theorem MA {b:List UInt8} {f n:Int} (h:f < 0∨n < 0∨(b.length:Int) < f+n):Ic b f n=([],false):=by
  unfold Ic
  have:(decide (0≤f) && decide (0≤n) && decide (f+n≤(b.length:Int)))=false:=by
    simp only [Bool.and_eq_false_iff,decide_eq_false_iff_not];omega
  rw [this,cond_false]
theorem LT {b l:List UInt8} {f n:Int} (h0:0≤f) (h1:0≤n) (h2:f+n≤(b.length:Int)) (hl:(b.drop f.toNat).take n.toNat=l):Ic b f n=(l,true):=by
  unfold Ic
  rw [decide_eq_true h0,decide_eq_true h1,decide_eq_true h2,hl]
  rfl
theorem Sa (b:List UInt8) (f n:Int):(Ic b f n).1.length≤n.toNat∧(Ic b f n).1.length≤b.length:=by
  unfold Ic
  cases decide (0≤f) && decide (0≤n) && decide (f+n≤(b.length:Int))
  · exact ⟨Nat.zero_le _,Nat.zero_le _⟩
  · simp only [cond_true,List.length_take,List.length_drop];omega
def Hp (b:List UInt8) (i k:Int):Int×Int×Bool:=bif decide (1≤k) && decide (k≤6) && decide (0≤i) && decide (i+k≤(b.length:Int)) then (Ok b i.toNat k.toNat,i+k,true) else (0,0,false)
theorem Jw {b:List UInt8} {i k:Int} (h:k < 1∨6 < k∨i < 0∨(b.length:Int) < i+k):Hp b i k=(0,0,false):=by
  unfold Hp
  have:(decide (1≤k) && decide (k≤6) && decide (0≤i) && decide (i+k≤(b.length:Int)))=false:=by
    simp only [Bool.and_eq_false_iff,decide_eq_false_iff_not];omega
  rw [this,cond_false]
theorem Ol {b:List UInt8} {i k:Int} (h1:1≤k) (h2:k≤6) (h3:0≤i) (h4:i+k≤(b.length:Int)):Hp b i k=(Ok b i.toNat k.toNat,i+k,true):=by
  unfold Hp
  rw [decide_eq_true h1,decide_eq_true h2,decide_eq_true h3,decide_eq_true h4]
  rfl
theorem SR {b:List UInt8} {f n:Int} (h:(Ic b f n).2=true):0≤f∧0≤n∧f+n≤(b.length:Int):=by
  by_cases hh:f < 0∨n < 0∨(b.length:Int) < f+n
  · rw [MA hh] at h;cases h
  · omega
theorem MU {b:List UInt8} {i k:Int} (h:(Ic b i k).2=false):Hp b i k=(0,0,false):=by
  refine Jw ?_
  by_cases hh:k < 1∨6 < k∨i < 0∨(b.length:Int) < i+k
  · exact hh
  · rw [LT (by omega) (by omega) (by omega) rfl] at h;cases h
theorem MT {b:List UInt8} {i k:Int} {j:Nat} (h1:1≤k) (h2:k≤6) (h:(Ic b i k).2=true) (hj:(Ic b i k).1.length≤j):Hp b i k=(Jn ((Ic b i k).1.take j) 0,i+k,true):=by
  have hc:=SR h
  rw [Ol h1 h2 hc.1 hc.2.2,List.take_of_length_le hj,LT hc.1 hc.2.1 hc.2.2 rfl]
  rfl
theorem LP {b:List UInt8} {i k:Int} {j:Nat} (h1:1≤k) (h2:k≤6) (h:0≤i∧i+k≤(b.length:Int)) (hj:((j:Nat):Int)=k):Hp b i k=(Jn ((b.drop i.toNat).take j) 0,i+k,true):=by
  rw [Ol h1 h2 h.1 h.2,show k.toNat=j by omega]
  rfl
theorem QD (l:List UInt8) (i:Nat) (h:i≤6):0≤Jn (l.take i) 0∧Jn (l.take i) 0 < 281474976710656:=by
  have h1:=Oj l 0 i h
  have h2:(256:Nat) ^ i≤256 ^ 6:=Nat.pow_le_pow_right (by decide) h
  have h3:((256 ^ i:Nat):Int)=(256:Int) ^ i:=by simp
  have h4:(256:Nat) ^ 6=281474976710656:=by decide
  unfold Ok at h1
  rw [List.drop_zero] at h1
  omega
theorem NH {l:List UInt8} {i:Nat} (h:i < l.length):256*Jn (l.take i) 0+((l.getD i 0).toNat:Int)=Jn (l.take (i+1)) 0:=by
  rw [List.take_succ_eq_append_getElem h,NG,Int.mul_comm]
  simp only [List.getD_eq_getElem?_getD,List.getElem?_eq_getElem h,Option.getD_some]
theorem Py {b:List UInt8} {a:Int} {i:Nat} (h0:0≤a) (h:a+(i:Int) < (b.length:Int)):Jn ((b.drop a.toNat).take i) 0*256+((b.getD (a+((i:Nat):Int)).toNat 0).toNat:Int)=Jn ((b.drop a.toNat).take (i+1)) 0:=by
  have hl:i < (b.drop a.toNat).length:=by rw [List.length_drop];omega
  rw [← NH hl,Int.mul_comm]
  congr 3
  simp only [List.getD_eq_getElem?_getD,List.getElem?_drop,show (a+((i:Nat):Int)).toNat=a.toNat+i by omega]
def schedP (b:List UInt8):List Int:=bif decide ((b.length:Int)=64) then KA b else []
theorem Lv {b:List UInt8} (h:¬ (b.length:Int)=64):schedP b=[]:=by unfold schedP;rw [decide_eq_false h,cond_false]
theorem Lu {b:List UInt8} (h:(b.length:Int)=64):schedP b=KA b:=by unfold schedP;rw [decide_eq_true h,cond_true]
theorem OM {b:List UInt8} {m:Nat} (h:(b.length:Int)=64) (h1:48≤m) (h2:m≤48):schedP b=schedN b m++List.replicate (48 - m) 0:=by
  obtain rfl:m=48:=by omega
  rw [Lu h]
  simp [KA]
theorem OL {b:List UInt8} {m:Nat} (h:(b.length:Int)=64) (h1:48≤m) (h2:m≤48):schedP b=schedN b m:=by
  obtain rfl:m=48:=by omega
  rw [Lu h]
  rfl
theorem Ms (b:List UInt8):(schedP b).length=64∨¬ (b.length:Int)=64:=by
  by_cases h:(b.length:Int)=64
  · rw [Lu h];exact .inl (IY b 48)
  · exact .inr h
theorem OK (b:List UInt8):Iw (schedP b)=true:=by
  unfold schedP
  cases decide ((b.length:Int)=64)
  · rfl
  · exact JI b 48
theorem QE {b:List UInt8} {k:Nat} (hk:k < 16) (hb:(b.length:Int)=64):(Hp b (4*((k:Nat):Int)) 4).1=Ok b (4*k) 4:=by
  rw [Ol (by omega) (by omega) (by omega) (by omega),show (4*((k:Nat):Int)).toNat=4*k by omega]
  rfl
theorem Qk {α:Type} {l:List α} {z v:α} {n k:Nat} (hk:k=l.length) (hn:0 < n):(l++List.replicate n z).set k v=(l++[v])++List.replicate (n - 1) z:=by
  subst hk
  rw [List.set_append_right _ _ (Nat.le_refl _),Nat.sub_self]
  obtain ⟨m,rfl⟩:∃ m,n=m+1:=⟨n - 1,by omega⟩
  rw [List.replicate_succ,List.set_cons_zero,List.append_assoc]
  rfl
theorem Nv {b:List UInt8} {k:Nat} (hk:k < 16) (hb:(b.length:Int)=64):(GQ b k++List.replicate (64 - k) (0:Int)).set k (Hp b (4*((k:Nat):Int)) 4).1=GQ b (k+1)++List.replicate (64 - (k+1)) (0:Int):=by
  rw [QE hk hb,Qk (Jj b k).symm (by omega)]
  rfl
theorem Oc {b:List UInt8} {k:Nat} (hk:k < 16) (hb:(b.length:Int)=64):GQ b k++[(Hp b (4*((k:Nat):Int)) 4).1]=GQ b (k+1):=by rw [QE hk hb];rfl
theorem Lw (b:List UInt8) (m:Nat):Iw (schedN b m++List.replicate (48 - m) (0:Int))=true:=by
  have h:=JI b m
  unfold Iw at *
  rw [List.all_append,h]
  simp
def LI (l:List Int) (m:Nat):Int:=(((l.getD ((16+((m:Nat):Int)) - 7).toNat 0+l.getD ((16+((m:Nat):Int)) - 16).toNat 0)+SF (l.getD ((16+((m:Nat):Int)) - 15).toNat 0))+Qh (l.getD ((16+((m:Nat):Int)) - 2).toNat 0)) % 4294967296
theorem Nt (b:List UInt8) (m:Nat):LI (schedN b m) m=JT (schedN b m) (m+16):=by
  unfold LI JT
  rw [show ((16+((m:Nat):Int)) - 7).toNat=m+16 - 7 by omega,show ((16+((m:Nat):Int)) - 16).toNat=m+16 - 16 by omega,show ((16+((m:Nat):Int)) - 15).toNat=m+16 - 15 by omega,show ((16+((m:Nat):Int)) - 2).toNat=m+16 - 2 by omega]
theorem Lz {l r:List Int} {k:Nat} (h:k < l.length):(l++r).getD k 0=l.getD k 0:=by
  simp only [List.getD_eq_getElem?_getD,List.getElem?_append_left h]
theorem Ps (b:List UInt8) (m n:Nat):LI (schedN b m++List.replicate n 0) m=LI (schedN b m) m:=by
  have hl:=IY b m
  unfold LI
  rw [Lz (by omega),Lz (by omega),Lz (by omega),Lz (by omega)]
theorem Ob {b:List UInt8} {m:Nat} (hm:m < 48):(schedN b m++List.replicate (48 - m) (0:Int)).set (16+((m:Nat):Int)).toNat (LI (schedN b m++List.replicate (48 - m) (0:Int)) m)=schedN b (m+1)++List.replicate (48 - (m+1)) (0:Int):=by
  have hl:=IY b m
  rw [Ps,Nt,Qk (show (16+((m:Nat):Int)).toNat=(schedN b m).length by omega) (by omega)]
  rfl
theorem Pt {b:List UInt8} {m:Nat}:schedN b m++[LI (schedN b m) m]=schedN b (m+1):=by rw [Nt];rfl
section cmp
variable {w : List Int} {s : S8} {k : Nat}
theorem Ux {v:Int} (hk:k < 64) (hv:v=(((Gu w s k).z+UE (Gu w s k).e+NS (Gu w s k).e (Gu w s k).f (Gu w s k).g+KU ((k:Nat):Int)+w.getD k 0)+uOf (Gu w s k)) % 4294967296):v=(Gu w s (k+1)).a:=by rw [hv,SJ hk];rfl
theorem Uw {v:Int} (hk:k < 64) (hv:v=((Gu w s k).d+((Gu w s k).z+UE (Gu w s k).e+NS (Gu w s k).e (Gu w s k).f (Gu w s k).g+KU ((k:Nat):Int)+w.getD k 0)) % 4294967296):v=(Gu w s (k+1)).e:=by rw [hv,SJ hk];rfl
theorem Uv {t u:Int} (hk:k < 64) (ht:t=(Gu w s k).z+UE (Gu w s k).e+FA (Gy (Gu w s k).e (Gu w s k).f) (Gy (FA (Gu w s k).e 4294967295) (Gu w s k).g)+kw.getD k 0+w.getD k 0) (hu:u=uOf (Gu w s k)):(t % 4294967296+u % 4294967296) % 4294967296=(Gu w s (k+1)).a:=by
  rw [ht,hu,Nm (Gu w s k).e 4294967295]
  show _=(tOf w k (Gu w s k)+uOf (Gu w s k)) % 4294967296
  unfold tOf NS
  omega
theorem Uu {t:Int} (hk:k < 64) (ht:t=(Gu w s k).z+UE (Gu w s k).e+FA (Gy (Gu w s k).e (Gu w s k).f) (Gy (FA (Gu w s k).e 4294967295) (Gu w s k).g)+kw.getD k 0+w.getD k 0):((Gu w s k).d+t % 4294967296) % 4294967296=(Gu w s (k+1)).e:=by
  rw [ht,Nm (Gu w s k).e 4294967295]
  show _=((Gu w s k).d+tOf w k (Gu w s k)) % 4294967296
  unfold tOf NS
  omega
theorem Uf (h:s.ok):Iw s.list=true:=by
  obtain ⟨ha,hb,hc,hd,he,hf,hg,hz⟩:=h
  unfold Iw S8.list
  simp only [List.all_cons,List.all_nil,Bool.and_true,Bool.and_eq_true,decide_eq_true_eq]
  omega
end cmp
theorem Jb {h:List Int} {b:List UInt8} (hw:Js h 8=false):GP h b=h:=by unfold GP;rw [hw,cond_false]
theorem Ja {h:List Int} {b:List UInt8} (hb:¬ (b.length:Int)=64):GP h b=h:=by unfold GP;rw [decide_eq_false hb,cond_false];cases Js h 8 <;> rfl
theorem IZ {h:List Int} {b:List UInt8} {m:Nat} (hw:Js h 8=true) (hb:(b.length:Int)=64) (hm:8≤m):GP h b=(Kr h (S8.list (Gu (schedP b) (GL h) 64))).take m++h.drop m:=by
  have hl:h.length=8:=by have:=(IT hw).2;omega
  unfold GP
  rw [hw,cond_true,decide_eq_true hb,cond_true,Lu hb,Sy (by omega) (by rw [hl];rfl)]
theorem QV {h:List Int} {b:List UInt8} {k:Nat} (hk:64*k≤b.length) (hn:b.length < 64*k+64):FQ h b=(Hf h b k,b.drop (64*k)):=by
  have:b.length / 64=k:=by omega
  unfold FQ
  rw [this]
theorem LV {h:List Int} {b:List UInt8} (hw:Js h 8=true):(FQ h b).1.length=8:=KK hw _
def Hk (n:Int):List UInt8:=bif decide (0≤n) && decide (n≤1048576) then pad n else []
theorem KZ {n:Int} (h0:0≤n) (h1:n≤1048576):Hk n=pad n:=by unfold Hk;rw [decide_eq_true h0,decide_eq_true h1];rfl
theorem Mt {n:Int} (h:n < 0∨1048576 < n):Hk n=[]:=by
  unfold Hk
  have:(decide (0≤n) && decide (n≤1048576))=false:=by simp only [Bool.and_eq_false_iff,decide_eq_false_iff_not];omega
  rw [this,cond_false]
theorem IC (n:Int):(Hk n).length≤72:=by
  by_cases h:n < 0∨1048576 < n
  · rw [Mt h];simp
  · rw [KZ (by omega) (by omega)];exact (Of n (by omega)).2
theorem Vq {n:Int} (h0:0≤n) (h1:n≤1048576):Ix (8*n) 6 6=[0,0]++Ix (8*n) 4 4:=by
  have e:∀ m:Int,by8 (m % 256)=by8 (m % 256):=fun _=>rfl
  have z1:(8*n) / (2:Int) ^ (8*(6 - 1 - ((0:Nat):Int))).toNat % 256=0:=by
    have:(2:Int) ^ (8*(6 - 1 - ((0:Nat):Int))).toNat=1099511627776:=by decide
    rw [this];omega
  have z2:(8*n) / (2:Int) ^ (8*(6 - 1 - ((1:Nat):Int))).toNat % 256=0:=by
    have:(2:Int) ^ (8*(6 - 1 - ((1:Nat):Int))).toNat=4294967296:=by decide
    rw [this];omega
  simp only [Ix,z1,z2]
  rfl
theorem SL {n:Int} {j:Nat} (h0:0≤n) (h1:n≤1048576) (hj:((j:Nat):Int)≤(64 - (n+9) % 64) % 64) (hz:(n+9+(j:Int)) % 64=0):Hk n=HE (([(128:UInt8)]++List.replicate j (0:UInt8))++[0,0]) (8*n) 6:=by
  have hk:TU n=j:=by unfold TU;omega
  rw [KZ h0 h1]
  have hp:HE (([(128:UInt8)]++List.replicate j (0:UInt8))++[0,0]) (8*n) 6=(([(128:UInt8)]++List.replicate j (0:UInt8))++[0,0])++Ix (8*n) 6 6:=rfl
  rw [hp,Vq h0 h1]
  unfold pad
  rw [hk]
  simp
theorem Qq {n:Int} {j:Nat} (h0:0≤n) (h1:n≤1048576) (hj:((j:Nat):Int)≤(64 - (n+9) % 64) % 64) (hz:(n+9+(j:Int)) % 64=0):Hk n=HE (HE ([(128:UInt8)]++List.replicate j (0:UInt8)) 0 4) (8*n) 4:=by
  have hk:TU n=j:=by unfold TU;omega
  rw [KZ h0 h1,KY,KY]
  unfold pad
  rw [hk]
  have:Ix 0 4 4=[0,0,0,0]:=by decide
  rw [this]
theorem Nn {x:List Int} {k:Nat} (h:x.length≤k):GN x=GN (x.take k):=by rw [List.take_of_length_le h]
theorem Mo {x:List Int} {k:Nat} (h:k < x.length):HE (GN (x.take k)) (x.getD k 0) 4=GN (x.take (k+1)):=by
  rw [KY,List.take_succ_eq_append_getElem h,Pp]
  simp only [List.getD_eq_getElem?_getD,List.getElem?_eq_getElem h,Option.getD_some]
def uN (x:List (List UInt8)):List UInt8:=x.flatten
theorem HN (a b:List UInt8):(uN [a,b]).length=a.length+b.length:=by simp [uN]
theorem JK (a b c:List UInt8):(uN [a,b,c]).length=a.length+(b.length+c.length):=by simp [uN]
theorem RW {x:List (List UInt8)} {k:Nat} (h:x.length≤k):uN x=uN (x.take k):=by rw [List.take_of_length_le h]
theorem NM {x:List (List UInt8)} {z:List UInt8} {k:Nat} (h:k < x.length):uN (x.take k)++x.getD k z=uN (x.take (k+1)):=by
  unfold uN
  rw [List.take_succ_eq_append_getElem h,List.flatten_append]
  simp only [List.getD_eq_getElem?_getD,List.getElem?_eq_getElem h,Option.getD_some,List.flatten_cons,List.flatten_nil,List.append_nil]
theorem Tw {x:List (List UInt8)} {z:List UInt8} {k:Nat}:(uN (x.take k)).length≤(uN x).length∧(x.length≤k∨(uN (x.take k)).length+(x.getD k z).length≤(uN x).length):=by
  have key:∀ j,(uN (x.take j)).length≤(uN x).length:=fun j=>by
    have h:uN x=uN (x.take j)++uN (x.drop j):=by unfold uN;rw [← List.flatten_append,List.take_append_drop]
    rw [h,List.length_append];omega
  refine ⟨key k,?_⟩
  rcases Nat.lt_or_ge k x.length with h|h
  · have h2:=key (k+1)
    rw [← NM (z:=z) h,List.length_append] at h2
    exact .inr h2
  · exact .inl h
theorem RO {b:List UInt8} (h:1048576 < (b.length:Int)):sha b=[]:=by unfold sha;rw [decide_eq_true h,cond_true]
theorem Ud (b:List UInt8) (h:b.length≤1048576):(b++Hk (b.length:Int)).length % 64=0∧(b++Hk (b.length:Int)).length≤b.length+72:=by
  have hp:=Of b.length (by omega)
  rw [KZ (by omega) (by omega),List.length_append]
  omega
theorem Uc {b:List UInt8} {k:Nat} (h:b.length≤1048576) (h1:64*k≤(b++Hk (b.length:Int)).length) (h2:(b++Hk (b.length:Int)).length≤64*k):sha b=GN (Hf k0 (b++Hk (b.length:Int)) k):=by
  rw [KZ (by omega) (by omega)] at *
  have:(b++pad (b.length:Int)).length / 64=k:=by omega
  unfold sha
  rw [decide_eq_false (by omega),cond_false,this]
theorem Pz {h:List Int} {b:List UInt8} {k:Nat}:GP (Hf h b k) ((b.drop (64*((k:Nat):Int)).toNat).take ((64*((k:Nat):Int)+64).toNat - (64*((k:Nat):Int)).toNat))=Hf h b (k+1):=by
  rw [show (64*((k:Nat):Int)+64).toNat - (64*((k:Nat):Int)).toNat=64 by omega,show (64*((k:Nat):Int)).toNat=64*k by omega]
  rfl
theorem Je {key:List UInt8} (h:1048576 < (key.length:Int)):uF key=[]:=by unfold uF;rw [decide_eq_true h,cond_true]
theorem Jd {key:List UInt8} {j:Nat} (h:key.length≤1048576) (h2:64 < key.length) (h3:(sha key).length+j≤64) (h4:64≤(sha key).length+j):uF key=sha key++List.replicate j 0:=by
  unfold uF Lf
  rw [decide_eq_false (by omega),cond_false,decide_eq_true (by omega),cond_true,show 64 - (sha key).length=j by omega]
theorem Jc {key:List UInt8} {j:Nat} (h2:key.length≤64) (h3:key.length+j≤64) (h4:64≤key.length+j):uF key=key++List.replicate j 0:=by
  unfold uF Lf
  rw [decide_eq_false (by omega),cond_false,decide_eq_false (by omega),cond_false,show 64 - key.length=j by omega]
theorem Mz {key b:List UInt8} (h:1048576 < (key.length:Int)):Iu key b=[]:=by unfold Iu;rw [decide_eq_true h,cond_true]
theorem My {key b:List UInt8} (h:(key.length:Int)≤1048576) (h2:1048512 < (b.length:Int)):Iu key b=[]:=by unfold Iu;rw [decide_eq_true h2,cond_true];cases decide (1048576 < (key.length:Int)) <;> rfl
theorem SP {key b:List UInt8} (h:(key.length:Int)≤1048576) (h2:(b.length:Int)≤1048512):Iu key b=sha (Gw (uF key) 92++sha (Gw (uF key) 54++b)):=by
  unfold Iu
  rw [decide_eq_false (by omega),cond_false,decide_eq_false (by omega),cond_false]
theorem QC {key b:List UInt8} (h:(key.length:Int)≤1048576) (h2:(b.length:Int)≤1048512):Iu key b=sha (uN [Gw (uF key) 92,sha (uN [Gw (uF key) 54,b])]):=by
  rw [SP h h2]
  simp [uN]
theorem QB {key b:List UInt8} (h:(key.length:Int)≤1048576) (h2:(b.length:Int)≤1048512):Iu key b=sha (Gw ((uF key).take 64) 92++sha (Gw ((uF key).take 64) 54++b)):=by
  rw [SP h h2,List.take_of_length_le (Ko key).1]
theorem NA {x:List UInt8} {z y:UInt8} {k:Nat} (h:k < x.length):Gw (x.take k) y++[x.getD k z^^^y]=Gw (x.take (k+1)) y:=OS (f:=fun b=>b^^^y) h
section leads
variable {key to : List UInt8} {most : Int} {i : Nat}
end leads
end Go.Proofs.YtacoceibbheccaaGreat.K
