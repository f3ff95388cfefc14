import Derived.Test.YtacoceibbheccaaGreatWb8
namespace Go.Proofs.YtacoceibbheccaaGreat.K
set_option linter.unusedSimpArgs false
set_option linter.unusedVariables false
set_option maxRecDepth 10000
theorem Di {α:Type} (l:List α):((l.length:Nat):Int)=0↔l=[]:=by
  cases l with
  | nil=>simp
  | cons a l=>simp;omega
theorem CK {n a b:Int} (h1:a≤n) (h2:n≤b):i_within n a b=true:=by simp only [i_within,decide_eq_true h1,decide_eq_true h2,cond_true]
theorem AY (f g:PFrame):nO f g=decide (f=g):=by
  obtain ⟨a1,a2,a3,a4,a5,a6,a7,a8,a9,a10,a11⟩:=f
  obtain ⟨b1,b2,b3,b4,b5,b6,b7,b8,b9,b10,b11⟩:=g
  rw [Bool.eq_iff_iff]
  simp only [nO,Bool.cond_false_right,Bool.and_eq_true,oF,vP,decide_eq_true_eq,PFrame.mk.injEq]
  grind
theorem Db (w:PWin) (m:Int):oo w m=ux w.Bits m:=rfl
theorem yc {w:PWin} (h:rg w=true):qf w.Bits=true∧w.Bits.length=32 ∧ -1≤w.Top∧w.Top≤281474976710655∧(∀ m:Int,w.Top+1≤m→m < 1024→ux w.Bits m=false)∧(w.Top = -1∨ux w.Bits w.Top=true):=by
  have h0:=yx h
  refine ⟨h0.1,h0.2.1,h0.2.2.1,h0.2.2.2,?_,?_⟩
  all_goals
    simp only [rg,Bool.cond_false_right,Bool.and_eq_true,Bool.or_eq_true,decide_eq_true_eq] at h
  · exact (rQ _ _ _).1 h.2.2.1
  · exact h.2.2.2
theorem BM {w:PWin} (h1:qf w.Bits=true) (h2:w.Bits.length=32) (h3:-1≤w.Top) (h4:w.Top≤281474976710655) (h5:∀ m:Int,w.Top+1≤m→m < 1024→ux w.Bits m=false) (h6:w.Top = -1∨ux w.Bits w.Top=true):rg w=true:=by
  have ha:rk w.Bits 32=true:=by simp only [rk,h1,Bool.true_and];exact decide_eq_true (by omega)
  have hn:td (oo w) (w.Top+1) 1024=true:=(rQ _ _ _).2 h5
  have ht:(decide (w.Top = -1) || oo w w.Top)=true:=by
    rw [Bool.or_eq_true,decide_eq_true_eq]
    exact h6
  simp only [rg,CK h3 h4,ha,hn,ht,cond_true]
theorem xi {w:PWin} {n:Int} (h:oG w n=true):rp w n=({Top:=if w.Top < n then n else w.Top,Bits:=wd w.Bits w.Top n:PWin},true)∧rg (rp w n).1=true:=by
  have e1:rp w n=({Top:=if w.Top < n then n else w.Top,Bits:=wd w.Bits w.Top n:PWin},true):=by unfold rp;rw [h];rfl
  refine ⟨e1,?_⟩
  rw [e1]
  have h0:=vD h
  have hw:rg w=true:=by
    cases hq:rg w with
    | true=>rfl
    | false=>unfold oG at h;rw [hq] at h;cases h
  obtain ⟨p1,p2,p3,p4,p5,p6⟩:=yc hw
  refine BM (wE (rK p1 _ _) _) (by show (wd w.Bits w.Top n).length=32;rw [wd,ti,qo,p2]) ?_ ?_ ?_ ?_
  · show -1≤(if w.Top < n then n else w.Top);split <;> omega
  · show (if w.Top < n then n else w.Top)≤_;split <;> omega
  · intro m hm1 hm2
    replace hm1:(if w.Top < n then n else w.Top)+1≤m:=hm1
    show ux (wd w.Bits w.Top n) m=false
    have hm3:w.Top+1≤m∧n < m:=by split at hm1 <;> omega
    rw [tw p1 p2 p3,p5 m hm3.1 hm2,decide_eq_false (show ¬ m % 1024=n % 1024 by omega)]
    rfl
  · show (if w.Top < n then n else w.Top) = -1∨ux (wd w.Bits w.Top n) (if w.Top < n then n else w.Top)=true
    right
    rw [tw p1 p2 p3]
    by_cases ht:w.Top < n
    · rw [if_pos ht,decide_eq_true (show n % 1024=n % 1024 from rfl),Bool.or_true]
    · rw [if_neg ht,if_neg (show ¬ w.Top+1 < n - 1023 by omega),p6.resolve_left (by omega)]
      have hd:decide ((w.Top - (w.Top+1)) % 1024 < n - (w.Top+1))=false:=decide_eq_false (by omega)
      rw [hd]
      rfl
theorem BA {w:PWin} {n:Int} (h:oG w n=true):(rp w n).1.Top=if w.Top < n then n else w.Top:=by rw [(xi h).1]
theorem yw {w:PWin} {n:Int} (h:oG w n=true):oG (rp w n).1 n=false:=by
  have h0:=vD h
  have hw:=(xi h).2
  have ht:=BA h
  have hb:oo (rp w n).1 n=true:=by
    rw [Db,(xi h).1]
    show ux (wd w.Bits w.Top n) n=true
    rw [tw h0.1 h0.2.1 h0.2.2.1,decide_eq_true (show n % 1024=n % 1024 from rfl),Bool.or_true]
  have hn:¬ (rp w n).1.Top < n:=by rw [ht];split <;> omega
  simp only [oG,hw,CK h0.2.2.2.2.1 h0.2.2.2.2.2,decide_eq_false hn,cond_true,cond_false,hb,Bool.not_true]
  cases decide (((rp w n).1.Top - 1024)+1≤n) <;> rfl
theorem sC (e:PEp):pd e=true↔(0≤e.N∧e.N≤4294967295)∧(e.Key.length:Int)=32∧(0≤e.Seq∧e.Seq≤281474976710656)∧rg e.Win=true:=by
  simp only [pd,i_within,Bool.cond_false_right,Bool.and_eq_true,decide_eq_true_eq]
theorem rG (c:PChan):pq c=true↔(c.HasOld=true∧pd c.Old=true∧c.Old.N=c.Cur.N - 1∧((0≤c.Until∧c.Until≤1000005)∨(c.Until = -1∧c.Role=1)))∨(c.HasOld=false∧i_sameEp c.Old {N:=0,Key:=[],Seq:=0,Win:={Top:=0,Bits:=[]:PWin}:PEp}=true∧c.Until=0):=by
  simp only [pq,i_within,cond_eq_ite]
  cases c.HasOld <;> simp
theorem qP (c:PChan):nY c=true↔(c.Role=0∨c.Role=1)∧(c.Sn.length:Int)=12∧pd c.Cur=true∧pq c=true∧((c.Next.length:Int)=0∨(c.Role=0∧(c.Next.length:Int)=32∧c.Cur.N < 4294967295)):=by
  simp only [nY,oV,nZ,cond_eq_ite]
  grind
section u
variable {c : PChan} {ep : PEp} {k e s r now : Int} {sn p key : List UInt8}
theorem yD (ho:pd ep=true) (hq:oG ep.Win s=true):pd {N:=ep.N,Key:=ep.Key,Seq:=ep.Seq,Win:=(rp ep.Win s).1:PEp}=true :=
  (sC _).2 ⟨((sC ep).1 ho).1,((sC ep).1 ho).2.1,((sC ep).1 ho).2.2.1,(xi hq).2⟩
theorem sO (f:PFrame) (ho:nY c=true) (hn:0≤now∧now≤1000000) (hf:nW f=true) (hk:4≤f.Kind∧f.Kind≤8) (hs:f.Sn=c.Sn):i_ChanOpen c now f=(bif decide (f.Epoch=c.Cur.N) then oc c now f else bif bif c.HasOld then decide (f.Epoch=c.Old.N) else false then oc c now f else bif bif decide (0 < (c.Next.length:Int)) then decide (f.Epoch=c.Cur.N+1) else false then oc c now f else (c,[],8)):=by
  have hd:decide (qh f.Sn c.Sn=0)=true:=decide_eq_true ((sW _ _).2 hs)
  have h3:i_ChanOpen c now f=od c now f:=by
    simp only [i_ChanOpen,ho,CK hn.1 hn.2,show oZ f.Kind=true from CK hk.1 hk.2,hf,cond_true,oP]
    cases c.HasOld <;> cases decide (0 < (c.Next.length:Int)) <;> rfl
  rw [h3]
  simp only [od,hd,cond_true]
theorem yu (ho:nY c=true) (h:e=c.Cur.N∨e=c.Cur.N+1):(bif c.HasOld then decide (e=c.Old.N) else false)=false:=by
  have h1:=(rG c).1 ((qP c).1 ho).2.2.2.1
  cases hq:c.HasOld
  · rfl
  · rw [hq] at h1
    simp only [true_and,Bool.true_eq_false,false_and,or_false] at h1
    rw [cond_true]
    exact decide_eq_false (by omega)
theorem wM (h:e=c.Cur.N):(bif decide (0 < (c.Next.length:Int)) then decide (e=c.Cur.N+1) else false)=false:=by
  cases decide (0 < (c.Next.length:Int))
  · rfl
  · rw [cond_true];exact decide_eq_false (by omega)
end u
theorem pY:nB=i_within:=rfl
theorem AO (w:PWin) (n:Int):oo w n=oy w n:=by
  have h:n % 1024 % 32=n % 32:=by omega
  simp only [oo,oy,h]
theorem xj (w:PWin):rg w=pS w:=by
  have hb:oo w=oy w:=funext (AO w)
  simp only [rg,pS,pY,hb,rk]
  cases h1:i_within w.Top (-1) 281474976710655 <;> cases h2:qf w.Bits <;> by_cases h3:(w.Bits.length:Int)=32 <;> simp [h3]
  have:=nD h1
  cases h4:oy w w.Top <;> by_cases h5:w.Top = -1 <;> by_cases h6:0≤w.Top <;> simp [h5,h6] <;> omega
theorem zp (e:PEp):pd e=px e:=by
  simp only [pd,px,pY,xj]
theorem Bc (e:PEp):i_sameEp e {N:=0,Key:=[],Seq:=0,Win:={Top:=0,Bits:=[]:PWin}:PEp}=pw e:=by
  simp only [i_sameEp,pw,oF,vP,eqI,Di]
theorem vC (n:Int):oV n=nB n 0 1:=by
  simp only [oV,nB,cond_eq_ite]
  by_cases h0:n=0 <;> by_cases h1:n=1 <;> by_cases h2:0≤n <;> by_cases h3:n≤1 <;> simp_all <;> omega
theorem wb (c:PChan):nY c=nP c:=by
  simp only [nY,nP,pq,vC,nZ,zp,Bc,pY,i_within,cond_eq_ite]
  grind
theorem tV (k:Int):oT k=oZ k:=rfl
theorem zc (k n:Int):pO k n=oR k n:=rfl
theorem uy (f:PFrame):nW f=nC f:=by
  rw [Bool.eq_iff_iff]
  obtain ⟨a1,a2,a3,a4,a5,a6,a7,a8,a9,a10,a11⟩:=f
  simp only [nW,nC,Bool.cond_false_right,AY,tV,oZ,nZ,pY,zc,PFrame.mk.injEq]
  simp only [i_within,cond_eq_ite,Bool.and_eq_true,decide_eq_true_eq,Di]
  grind
theorem tU (r:Int) (f:PFrame):nA r f=nt r f:=by
  simp only [nA,nt,vC,← tV,uy]
  cases nB r 0 1 <;> cases oT f.Kind <;> cases nC f <;> simp [ns]
theorem zi (w:PWin) (n:Int):oG w n=oN w n:=by
  simp only [oG,oN,xj,pY,AO]
  cases pS w
  · rfl
  cases h:i_within n 0 281474976710655
  · rfl
  have h1:=nD h
  have h2:decide ((w.Top - 1024)+1≤n)=decide (qd w.Top≤n):=by
    refine decide_eq_decide.2 ?_
    unfold qd
    by_cases h3:w.Top < 1024
    · rw [decide_eq_true h3,cond_true];omega
    · rw [decide_eq_false h3,cond_false]
  simp only [cond_true]
  cases decide (w.Top < n)
  · simp only [cond_false]
    rw [h2]
  · rfl
theorem CI (w:PWin) (n:Int):rp w n=qA w n:=by
  unfold rp qA
  rw [zi]
  cases oN w n
  · rfl
  · by_cases h:w.Top < n
    · rw [if_pos h,decide_eq_true h];rfl
    · rw [if_neg h,decide_eq_false h];rfl
theorem Dg (w:PWin) (n:Int):(qA w n).2=oN w n:=by
  unfold qA
  cases oN w n <;> rfl
theorem zj (k:List UInt8) (r:Int) (f:PFrame):oO k r f=oS k r f:=by
  simp only [oO,oS,tU,show ∀ a b,qw a b=qq a b from fun _ _=>rfl]
theorem zo (e:PEp) (r:Int) (f:PFrame):mS e r f=na e r f:=by
  simp only [mS,na,zp,tU,CI,Dg,zj]
theorem Au (n:Int) (k:List UInt8):nU n k=s_EpNew n k:=by simp only [nU,s_EpNew,pY,ql,qT]
theorem yF (x y:List UInt8):decide (qh x y=0)=re x y:=by
  rw [re,vP]
  exact decide_eq_decide.2 (sW x y)
theorem sd (c:PChan) (n:Int) (f:PFrame):i_ChanOpen c n f=s_ChanOpen c n f:=by
  simp only [i_ChanOpen,oP,s_ChanOpen,← wb,pY,tV,← uy]
  cases h:nY c
  · rfl
  cases i_within n 0 1000000
  · rfl
  cases oZ f.Kind
  · cases nW f <;> rfl
  cases nW f
  · rfl
  have e1:(bif c.HasOld then (bif decide (0 < (c.Next.length:Int)) then od c n f else od c n f) else (bif decide (0 < (c.Next.length:Int)) then od c n f else od c n f))=od c n f:=by
    cases c.HasOld <;> cases decide (0 < (c.Next.length:Int)) <;> rfl
  simp only [cond_true]
  rw [e1]
  simp only [od,yF]
  cases re f.Sn c.Sn
  · rfl
  simp only [cond_true,oc,nQ,oU,pj,zo,Au]
  by_cases hC:f.Epoch=c.Cur.N
  · have hC':=decide_eq_true hC
    have hO:(bif c.HasOld then (decide (f.Epoch=c.Old.N)) else (false))=false:=by
      cases hq:(bif c.HasOld then (decide (f.Epoch=c.Old.N)) else (false))
      · rfl
      · exact (AF h hC' hq).elim
    have hN:(bif (decide (0 < (c.Next.length:Int))) then (decide (f.Epoch=(c.Cur.N+1))) else (false))=false:=by
      cases hq:(bif (decide (0 < (c.Next.length:Int))) then (decide (f.Epoch=(c.Cur.N+1))) else (false))
      · rfl
      · exact (AG hC' hq).elim
    simp only [hC',hO,hN,cond_true,cond_false]
  · have hC':=decide_eq_false hC
    have hx:¬ ((bif c.HasOld then (decide (f.Epoch=c.Old.N)) else (false))=true∧(bif (decide (0 < (c.Next.length:Int))) then (decide (f.Epoch=(c.Cur.N+1))) else (false))=true):=fun q=>AE h q.1 q.2
    revert hx
    cases hH:c.HasOld <;> cases hO:decide (f.Epoch=c.Old.N) <;> cases hX:decide (0 < (c.Next.length:Int)) <;> cases hN:decide (f.Epoch=c.Cur.N+1) <;> intro hx <;> simp only [hC',hH,hO,hX,hN,cond_true,cond_false]
    all_goals exact absurd ⟨rfl,rfl⟩ hx
section bent
variable {c : PChan} {f : PFrame} {n r : Int} {ep : PEp}
theorem Cz (w:PWin) (n:Int):(rp w n).2=oG w n:=by
  unfold rp
  cases oG w n <;> rfl
theorem sV (h:(mS ep r f).2.2=0):f.Epoch=ep.N∧pd (mS ep r f).1=true∧(mS ep r f).1.N=ep.N∧(mS (mS ep r f).1 r f).2.2=3:=by
  cases h1:pd ep
  · simp only [mS,h1,cond_false] at h;exact absurd h (by decide)
  cases h2:decide (((nA r f).length:Int)=0)
  rotate_left
  · simp only [mS,h1,h2,cond_true] at h;exact absurd h (by decide)
  cases h3:decide (f.Epoch=ep.N)
  · simp only [mS,h1,h2,h3,cond_true,cond_false] at h;exact absurd h (by decide)
  cases h4:(rp ep.Win f.Seq).2
  · simp only [mS,h1,h2,h3,h4,cond_true,cond_false] at h;exact absurd h (by decide)
  cases h5:(oO ep.Key r f).2
  · simp only [mS,h1,h2,h3,h4,h5,cond_true,cond_false] at h;exact absurd h (by decide)
  have hm:oG ep.Win f.Seq=true:=by rw [← Cz];exact h4
  have e1:mS ep r f=({N:=ep.N,Key:=ep.Key,Seq:=ep.Seq,Win:=(rp ep.Win f.Seq).1:PEp},(oO ep.Key r f).1,0):=by
    simp only [mS,h1,h2,h3,h4,h5,cond_true,cond_false]
  have ho:=yD h1 hm
  rw [e1]
  refine ⟨of_decide_eq_true h3,ho,rfl,?_⟩
  have h6:(rp (rp ep.Win f.Seq).1 f.Seq).2=false:=by rw [Cz];exact yw hm
  simp only [mS,ho,h2,h3,h6,cond_true,cond_false]
theorem Cb (c:PChan) (n:Int) (f:PFrame):(nQ c n f).2.2=0∨(nQ c n f).1=c:=by
  simp only [nQ,cond_eq_ite]
  (repeat' split) <;> first|exact .inl rfl|exact .inr rfl
theorem Cc (c:PChan) (n:Int) (f:PFrame):(oc c n f).2.2=0∨(oc c n f).1=c:=by
  simp only [oc,cond_eq_ite]
  (repeat' split) <;> first|exact Cb _ _ _|exact .inr rfl
theorem Cd (c:PChan) (n:Int) (f:PFrame):(od c n f).2.2=0∨(od c n f).1=c:=by
  simp only [od,cond_eq_ite]
  (repeat' split) <;> first|exact Cc _ _ _|exact .inr rfl
theorem zL (c:PChan) (n:Int) (f:PFrame):(i_ChanOpen c n f).2.2=0∨(i_ChanOpen c n f).1=c:=by
  simp only [i_ChanOpen,oP,cond_eq_ite]
  (repeat' split) <;> first|exact Cd _ _ _|exact .inr rfl
theorem wL (h:(i_ChanOpen c n f).2.2=0):nY c=true∧(0≤n∧n≤1000000)∧nW f=true∧(4≤f.Kind∧f.Kind≤8)∧f.Sn=c.Sn:=by
  cases h1:nY c
  · simp only [i_ChanOpen,h1,cond_false] at h;exact absurd h (by decide)
  cases h2:i_within n 0 1000000
  · simp only [i_ChanOpen,h1,h2,cond_true,cond_false] at h;exact absurd h (by decide)
  cases h3:oZ f.Kind
  · simp only [i_ChanOpen,h1,h2,h3,cond_true,cond_false] at h;exact absurd h (by decide)
  cases h4:nW f
  · simp only [i_ChanOpen,h1,h2,h3,h4,cond_true,cond_false] at h;exact absurd h (by decide)
  refine ⟨rfl,nD h2,rfl,nD h3,?_⟩
  cases h5:decide (qh f.Sn c.Sn=0)
  · have e3:od c n f=(c,[],8):=by simp only [od,h5,cond_false]
    have e2:i_ChanOpen c n f=(c,[],8):=by
      simp only [i_ChanOpen,h1,h2,h3,h4,cond_true,oP,e3]
      cases c.HasOld <;> cases decide (0 < (c.Next.length:Int)) <;> rfl
    rw [e2] at h
    exact absurd h (show ¬ (8:Int)=0 by decide)
  · exact (sW _ _).1 (of_decide_eq_true h5)
theorem vQ {y:PChan} (hy:nY y=true) (hn:0≤n∧n≤1000000) (hf:nW f=true) (hk:4≤f.Kind∧f.Kind≤8) (hs:f.Sn=y.Sn) (he:f.Epoch=y.Cur.N) (h3:(mS y.Cur (1 - y.Role) f).2.2=3):(i_ChanOpen y n f).2.2=3:=by
  rw [sO f hy hn hf hk hs]
  simp only [decide_eq_true he,cond_true,oc,nQ,yu hy (.inl he),wM he,cond_false,h3]
  rfl
theorem so (h:(i_ChanOpen c n f).2.2=0):nY (i_ChanOpen c n f).1=true∧(i_ChanOpen (i_ChanOpen c n f).1 n f).2.2=3∧c.Cur.N≤(i_ChanOpen c n f).1.Cur.N∧(i_ChanOpen c n f).1.Cur.N≤c.Cur.N+1:=by
  obtain ⟨ho,hn,hf,hk,hs⟩:=wL h
  have hX:=sO f ho hn hf hk hs
  have p:=(qP _).1 ho
  have po:=(rG c).1 p.2.2.2.1
  by_cases hC:f.Epoch=c.Cur.N
  · simp only [decide_eq_true hC,cond_true,oc,nQ,yu ho (.inl hC),wM hC,cond_false] at hX
    by_cases hE:(mS c.Cur (1 - c.Role) f).2.2=0
    · have q:=sV hE
      rw [decide_eq_true hE,cond_true] at hX
      have key:∀ u,((c.HasOld=true∧u=n+5)∨u=c.Until)→i_ChanOpen c n f=({Role:=c.Role,Sn:=c.Sn,Cur:=(mS c.Cur (1 - c.Role) f).1,Old:=c.Old,HasOld:=c.HasOld,Until:=u,Next:=c.Next:PChan},(mS c.Cur (1 - c.Role) f).2.1,0)→nY (i_ChanOpen c n f).1=true∧(i_ChanOpen (i_ChanOpen c n f).1 n f).2.2=3∧c.Cur.N≤(i_ChanOpen c n f).1.Cur.N∧(i_ChanOpen c n f).1.Cur.N≤c.Cur.N+1:=fun u hu e=>by
        have hy:nY {Role:=c.Role,Sn:=c.Sn,Cur:=(mS c.Cur (1 - c.Role) f).1,Old:=c.Old,HasOld:=c.HasOld,Until:=u,Next:=c.Next:PChan}=true:=by
          refine (qP _).2 ⟨p.1,p.2.1,q.2.1,(rG _).2 ?_,?_⟩
          · show (c.HasOld=true∧pd c.Old=true∧c.Old.N=(mS c.Cur (1 - c.Role) f).1.N - 1∧((0≤u∧u≤1000005)∨(u = -1∧c.Role=1)))∨(c.HasOld=false∧i_sameEp c.Old {N:=0,Key:=[],Seq:=0,Win:={Top:=0,Bits:=[]:PWin}:PEp}=true∧u=0)
            rw [q.2.2.1]
            rcases po with po|po
            · refine .inl ⟨po.1,po.2.1,po.2.2.1,?_⟩
              rcases hu with hu|hu
              · exact .inl ⟨by omega,by omega⟩
              · rw [hu];exact po.2.2.2
            · refine .inr ⟨po.1,po.2.1,?_⟩
              rcases hu with hu|hu
              · rw [po.1] at hu;exact absurd hu.1 (by decide)
              · rw [hu];exact po.2.2
          · show (c.Next.length:Int)=0∨(c.Role=0∧(c.Next.length:Int)=32∧(mS c.Cur (1 - c.Role) f).1.N < 4294967295)
            rw [q.2.2.1]
            exact p.2.2.2.2
        rw [e]
        refine ⟨hy,vQ hy hn hf hk hs (hC.trans q.2.2.1.symm) q.2.2.2,?_,?_⟩
        · show c.Cur.N≤(mS c.Cur (1 - c.Role) f).1.N;rw [q.2.2.1];omega
        · show (mS c.Cur (1 - c.Role) f).1.N≤c.Cur.N+1;rw [q.2.2.1];omega
      cases h1:c.HasOld
      · rw [h1,cond_false] at hX
        exact key _ (.inr rfl) (by rw [h1];exact hX)
      · rw [h1,cond_true] at hX
        cases h2:decide (c.Until = -1)
        · rw [h2,cond_false] at hX
          exact key _ (.inr rfl) (by rw [h1];exact hX)
        · rw [h2,cond_true] at hX
          exact key _ (.inl ⟨h1,rfl⟩) (by rw [h1];exact hX)
    · rw [decide_eq_false hE,cond_false] at hX
      rw [hX] at h
      exact absurd h hE
  rw [decide_eq_false hC,cond_false] at hX
  cases hO:(bif c.HasOld then decide (f.Epoch=c.Old.N) else false)
  · rw [hO,cond_false] at hX
    cases hN:(bif decide (0 < (c.Next.length:Int)) then decide (f.Epoch=c.Cur.N+1) else false)
    · rw [hN,cond_false] at hX
      rw [hX] at h
      exact absurd h (show ¬ (8:Int)=0 by decide)
    · simp only [hN,cond_true,oc,nQ,hO,cond_false] at hX
      by_cases hE:(mS (nU (c.Cur.N+1) c.Next) (1 - c.Role) f).2.2=0
      · have q:=sV hE
        rw [decide_eq_true hE,cond_true] at hX
        have hN2:f.Epoch=c.Cur.N+1:=by
          cases hl:decide (0 < (c.Next.length:Int))
          · rw [hl,cond_false] at hN;cases hN
          · rw [hl,cond_true] at hN;exact of_decide_eq_true hN
        have hz:(mS (nU (c.Cur.N+1) c.Next) (1 - c.Role) f).1.N=c.Cur.N+1:=by rw [q.2.2.1,← q.1];exact hN2
        have hy:nY {Role:=c.Role,Sn:=c.Sn,Cur:=(mS (nU (c.Cur.N+1) c.Next) (1 - c.Role) f).1,Old:=c.Cur,HasOld:=true,Until:=n+5,Next:=[]:PChan}=true:=by
          refine (qP _).2 ⟨p.1,p.2.1,q.2.1,(rG _).2 (.inl ⟨rfl,p.2.2.1,?_,.inl ⟨?_,?_⟩⟩),.inl rfl⟩
          · show c.Cur.N=(mS (nU (c.Cur.N+1) c.Next) (1 - c.Role) f).1.N - 1;rw [hz];omega
          · show 0≤n+5;omega
          · show n+5≤1000005;omega
        rw [hX]
        refine ⟨hy,vQ hy hn hf hk hs (hN2.trans hz.symm) q.2.2.2,?_,?_⟩
        · show c.Cur.N≤(mS (nU (c.Cur.N+1) c.Next) (1 - c.Role) f).1.N;rw [hz];omega
        · show (mS (nU (c.Cur.N+1) c.Next) (1 - c.Role) f).1.N≤c.Cur.N+1;rw [hz];omega
      · rw [decide_eq_false hE,cond_false] at hX
        rw [hX] at h
        exact absurd h hE
  · have hH:c.HasOld=true:=by
      cases hq:c.HasOld
      · rw [hq,cond_false] at hO;cases hO
      · rfl
    have hO2:f.Epoch=c.Old.N:=by rw [hH,cond_true] at hO;exact of_decide_eq_true hO
    simp only [hO,cond_true,oc,nQ] at hX
    have key:∀ v,(i_ChanOpen c n f=(bif decide ((mS c.Old (1 - c.Role) f).2.2=0) then ({Role:=c.Role,Sn:=c.Sn,Cur:=c.Cur,Old:=(mS c.Old (1 - c.Role) f).1,HasOld:=c.HasOld,Until:=c.Until,Next:=c.Next:PChan},(mS c.Old (1 - c.Role) f).2.1,0) else (c,[],(mS c.Old (1 - c.Role) f).2.2)))→(decide (c.Until = -1)=v)→(v=false→decide (c.Until < n)=false)→nY (i_ChanOpen c n f).1=true∧(i_ChanOpen (i_ChanOpen c n f).1 n f).2.2=3∧c.Cur.N≤(i_ChanOpen c n f).1.Cur.N∧(i_ChanOpen c n f).1.Cur.N≤c.Cur.N+1:=fun v e hv hw=>by
      by_cases hE:(mS c.Old (1 - c.Role) f).2.2=0
      · have q:=sV hE
        rw [decide_eq_true hE,cond_true] at e
        have hy:nY {Role:=c.Role,Sn:=c.Sn,Cur:=c.Cur,Old:=(mS c.Old (1 - c.Role) f).1,HasOld:=c.HasOld,Until:=c.Until,Next:=c.Next:PChan}=true:=by
          refine (qP _).2 ⟨p.1,p.2.1,p.2.2.1,(rG _).2 (.inl ⟨hH,q.2.1,?_,?_⟩),p.2.2.2.2⟩
          · show (mS c.Old (1 - c.Role) f).1.N=c.Cur.N - 1
            rw [q.2.2.1]
            rcases po with po|po
            · exact po.2.2.1
            · rw [hH] at po;exact absurd po.1 (by decide)
          · rcases po with po|po
            · exact po.2.2.2
            · rw [hH] at po;exact absurd po.1 (by decide)
        rw [e]
        refine ⟨hy,?_,?_,?_⟩
        · rw [sO f hy hn hf hk hs]
          simp only [decide_eq_false hC,hH,decide_eq_true (show f.Epoch=(mS c.Old (1 - c.Role) f).1.N by rw [q.2.2.1];exact hO2),cond_true,cond_false,oc,nQ,q.2.2.2]
          cases v
          · simp only [hv,hw rfl,cond_false];rfl
          · simp only [hv,cond_true];rfl
        · show c.Cur.N≤c.Cur.N;omega
        · show c.Cur.N≤c.Cur.N+1;omega
      · rw [decide_eq_false hE,cond_false] at e
        rw [e] at h
        exact absurd h hE
    cases hv:decide (c.Until = -1)
    · rw [hv,cond_false] at hX
      cases hw:decide (c.Until < n)
      · rw [hw,cond_false] at hX
        exact key _ hX hv fun _=>hw
      · rw [hw,cond_true] at hX
        rw [hX] at h
        exact absurd h (show ¬ (9:Int)=0 by decide)
    · rw [hv,cond_true] at hX
      exact key _ hX hv fun h=>by cases h
theorem BZ (h:(i_ChanOpen c n f).2.2=0):0≤c.Cur.N∧c.Cur.N≤4294967295:=((sC _).1 ((qP _).1 (wL h).1).2.2.1).1
theorem BQ (x:List UInt8):pz x x=true:=by simp [pz,vP]
theorem zR (x:List Int):eqI x x=true:=by simp [eqI]
theorem BR (x:PChan):oJ x x=true:=by simp [oJ,pF,qt,BQ,zR]
end bent
end Go.Proofs.YtacoceibbheccaaGreat.K
