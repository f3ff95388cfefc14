/- The plain side of the law on ChanOpen. -/
import Derived.Test.YtacoceibbheccaaGreatWja2
namespace Go.Proofs.YtacoceibbheccaaGreat.K
set_option linter.unusedSimpArgs false
set_option linter.unusedVariables false
set_option maxRecDepth 10000
theorem EV:Cy=i_within:=rfl
theorem In (x:List UInt8):eqB x x=true:=by simp [eqB]
theorem Pe (x:List Int):eqI x x=true:=by simp [eqI]
theorem MI (x:PWin):Gu x x=true:=by simp [Gu,Pe]
theorem NL (x:PEp):Gi x x=true:=by simp [Gi,In,MI]
theorem Lt (x:PChan):l_eqChan x x=true:=by simp [l_eqChan,In,NL]
theorem Np (x:PChan):l_toChan x=x:=by simp [l_toChan,CA,EE,cpB,cpI]
theorem Qh (w:PWin) (n:Int):Dp w n=Dm w n:=by
  have h:n % 1024 % 32=n % 32:=by omega
  simp only [Dp,Dm,h]
theorem Ms (w:PWin):GG w=EQ w:=by
  have hb:Dp w=Dm w:=funext (Qh w)
  simp only [GG,EQ,EV,hb,Gp]
  cases h1:i_within w.Top (-1) 281474976710655 <;> cases h2:Fj w.Bits <;> by_cases h3:(w.Bits.length:Int)=32 <;> simp [h3]
  have:=CE h1
  cases h4:Dm w w.Top <;> by_cases h5:w.Top = -1 <;> by_cases h6:0≤w.Top <;> simp [h5,h6] <;> omega
theorem OC (e:PEp):EN e=Eo e:=by
  simp only [EN,Eo,EV,Ms]
theorem SB {α:Type} (l:List α):((l.length:Nat):Int)=0↔l=[]:=by
  cases l with
  | nil=>simp
  | cons a l=>simp;omega
theorem Qw (e:PEp):i_sameEp e {N:=0,Key:=[],Seq:=0,Win:={Top:=0,Bits:=[]:PWin}:PEp}=En e:=by
  simp only [i_sameEp,En,Du,Mb,eqI,SB]
theorem KI (n:Int):DM n=Cy n 0 1:=by
  simp only [DM,Cy,cond_eq_ite]
  by_cases h0:n=0 <;> by_cases h1:n=1 <;> by_cases h2:0≤n <;> by_cases h3:n≤1 <;> simp_all <;> omega
theorem OD (c:PChan):Ds c=CQ c:=by
  simp only [Ds,CQ,EG,KI,CL,OC,Qw,EV,i_within,cond_eq_ite]
  grind
theorem copy_eq (c:PChan):Jo c=KA c:=by
  simp [Jo,KA,Qu,OU,OV,OZ,NF]
theorem IU (k:Int):Ej k=DU k:=rfl
theorem Oo (k n:Int):EM k n=Ey k n:=rfl
theorem Qt (f g:PFrame):CG f g=decide (f=g):=by
  obtain ⟨a1,a2,a3,a4,a5,a6,a7,a8,a9,a10,a11⟩:=f
  obtain ⟨b1,b2,b3,b4,b5,b6,b7,b8,b9,b10,b11⟩:=g
  rw [Bool.eq_iff_iff]
  simp only [CG,Bool.cond_false_right,Bool.and_eq_true,Du,Mb,decide_eq_true_eq,PFrame.mk.injEq]
  grind
theorem KV (x:PFrame):l_eqFrame x x=true:=by simp [l_eqFrame,In]
theorem JE (f:PFrame):CP f=Cx f:=by
  rw [Bool.eq_iff_iff]
  obtain ⟨a1,a2,a3,a4,a5,a6,a7,a8,a9,a10,a11⟩:=f
  simp only [CP,Cx,Bool.cond_false_right,Qt,IU,DU,CL,EV,Oo,PFrame.mk.injEq]
  simp only [i_within,cond_eq_ite,Bool.and_eq_true,decide_eq_true_eq,SB]
  grind
theorem IT (r:Int) (f:PFrame):Cr r f=Cp r f:=by
  simp only [Cr,Cp,KI,← IU,JE]
  cases Cy r 0 1 <;> cases Ej f.Kind <;> cases Cx f <;> simp [Ci]
theorem MF (t k:Int) (n:Nat) (hk:0≤k):DD {Top:=t,Bits:=DT k n:PWin} k=k+(n:Int):=by
  simp only [DD,IH,cond_eq_ite,decide_eq_true_eq]
  (repeat' split) <;> omega
theorem KL (a b t k:Int) (n1 n2:Nat) (hk:0≤k):CD {N:=a,Key:=marksB k n1,Seq:=b,Win:={Top:=t,Bits:=DT (k+(n1:Int)) n2:PWin}:PEp} k=k+((n1:Int)+(n2:Int)):=by
  have h1:=MF t (k+(n1:Int)) n2 (by omega)
  simp only [CD,Gx,h1,cond_eq_ite,decide_eq_true_eq]
  (repeat' split) <;> omega
theorem Ln (x:PChan) (k:Int) (hk:0≤k):l_heldChan (mk_PChan x k) k=k+tot_PChan x:=by
  have h1:=KL x.Cur.N x.Cur.Seq x.Cur.Win.Top (k+(x.Sn.length:Int)) x.Cur.Key.length x.Cur.Win.Bits.length (by omega)
  have h2:=KL x.Old.N x.Old.Seq x.Old.Win.Top ((k+(x.Sn.length:Int))+((x.Cur.Key.length:Int)+(x.Cur.Win.Bits.length:Int))) x.Old.Key.length x.Old.Win.Bits.length (by omega)
  simp only [l_heldChan,mk_PChan,tot_PChan,CX,DE,Gx,h1,h2,cond_eq_ite,decide_eq_true_eq]
  (repeat' split) <;> omega
theorem LB (x:PChan):0≤tot_PChan x:=by simp only [tot_PChan,CX,DE];omega
theorem Pc (x:PFrame):0≤DL x:=by simp only [DL];omega
theorem MA (x:PFrame):l_toFrame x=x:=by simp [l_toFrame,cpB]
theorem Ox (w:PWin) (n:Int):Eg w n=DC w n:=by
  simp only [Eg,DC,Ms,EV,Qh]
  cases EQ w
  · rfl
  cases h:i_within n 0 281474976710655
  · rfl
  have h1:=CE h
  have h2:decide ((w.Top - 1024)+1≤n)=decide (EZ w.Top≤n):=by
    refine decide_eq_decide.2 ?_
    unfold EZ
    by_cases h3:w.Top < 1024
    · rw [decide_eq_true h3,cond_true];omega
    · rw [decide_eq_false h3,cond_false]
  simp only [cond_true]
  cases decide (w.Top < n)
  · simp only [cond_false]
    rw [h2]
  · rfl
theorem RU (w:PWin) (n:Int):Hf w n=GQ w n:=by
  unfold Hf GQ
  rw [Ox]
  cases DC w n
  · rfl
  · by_cases h:w.Top < n
    · rw [if_pos h,decide_eq_true h];rfl
    · rw [if_neg h,decide_eq_false h];rfl
theorem Sz (w:PWin) (n:Int):(GQ w n).2=DC w n:=by
  unfold GQ
  cases DC w n <;> rfl
theorem Oy (k:List UInt8) (r:Int) (f:PFrame):DH k r f=DF k r f:=by
  simp only [DH,DF,IT,show ∀ a b,Fv a b=Fr a b from fun _ _=>rfl]
theorem OB (e:PEp) (r:Int) (f:PFrame):rl e r f=tA e r f:=by
  simp only [rl,tA,OC,IT,RU,Sz,Oy]
theorem PI (n:Int) (k:List UInt8):CF n k=Cw n k:=by simp only [CF,Cw,EV,ET,GC]
theorem NO (x y:List UInt8):decide (Fx x y=0)=Gf x y:=by
  rw [Gf,Mb]
  exact decide_eq_decide.2 (ML x y)
theorem LE (c:PChan) (n:Int) (f:PFrame):i_ChanOpen c n f=s_ChanOpen c n f:=by
  simp only [i_ChanOpen,Ec,s_ChanOpen,← OD,EV,IU,← JE]
  cases h:Ds c
  · rfl
  cases i_within n 0 1000000
  · rfl
  cases DU f.Kind
  · cases CP f <;> rfl
  cases CP f
  · rfl
  have e1:(bif c.HasOld then (bif decide (0 < (c.Next.length:Int)) then Df c n f else Df c n f) else (bif decide (0 < (c.Next.length:Int)) then Df c n f else Df c n f))=Df c n f:=by
    cases c.HasOld <;> cases decide (0 < (c.Next.length:Int)) <;> rfl
  simp only [cond_true]
  rw [e1]
  simp only [Df,NO]
  cases Gf f.Sn c.Sn
  · rfl
  simp only [cond_true,Dw,Da,DG,DY,OB,PI]
  by_cases hC:f.Epoch=c.Cur.N
  · have hC':=decide_eq_true hC
    have hO:(bif c.HasOld then (decide (f.Epoch=c.Old.N)) else (false))=false:=by
      cases hq:(bif c.HasOld then (decide (f.Epoch=c.Old.N)) else (false))
      · rfl
      · exact (PU h hC' hq).elim
    have hN:(bif (decide (0 < (c.Next.length:Int))) then (decide (f.Epoch=(c.Cur.N+1))) else (false))=false:=by
      cases hq:(bif (decide (0 < (c.Next.length:Int))) then (decide (f.Epoch=(c.Cur.N+1))) else (false))
      · rfl
      · exact (PV hC' hq).elim
    simp only [hC',hO,hN,cond_true,cond_false]
  · have hC':=decide_eq_false hC
    have hx:¬ ((bif c.HasOld then (decide (f.Epoch=c.Old.N)) else (false))=true∧(bif (decide (0 < (c.Next.length:Int))) then (decide (f.Epoch=(c.Cur.N+1))) else (false))=true):=fun q=>PT h q.1 q.2
    revert hx
    cases hH:c.HasOld <;> cases hO:decide (f.Epoch=c.Old.N) <;> cases hX:decide (0 < (c.Next.length:Int)) <;> cases hN:decide (f.Epoch=c.Cur.N+1) <;> intro hx <;> simp only [hC',hH,hO,hX,hN,cond_true,cond_false]
    all_goals exact absurd ⟨rfl,rfl⟩ hx
theorem KH (c:PChan) (n:Int) (f:PFrame):BV c n f=true:=by
  have g1:decide (1+tot_PChan c+DL f < 0)=false:=decide_eq_false (by have:=LB c;have:=Pc f;omega)
  have g2:∀ x:PChan,decide (1+tot_PChan x < 0)=false:=fun x=>decide_eq_false (by have:=LB x;omega)
  have g3:∀ (x:PChan) (p:List UInt8),decide (1+tot_PChan x+(p.length:Int) < 0)=false:=fun x p=>decide_eq_false (by have:=LB x;omega)
  simp only [BV,LE,Np,MA,Lt,KV,In,decide_true,Ln _ 1 (by decide),Gx,g1,g2,g3,cond_true,cond_false]
  cases decide (l_szFrame f (l_szChan c 1048576) < 0) <;> cases decide (l_szChan c 1048576 < 0) <;> rfl
end Go.Proofs.YtacoceibbheccaaGreat.K
