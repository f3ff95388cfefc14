import Derived.Test.YtacoceibbheccaaGreatWe6
namespace Go.Proofs.YtacoceibbheccaaGreat.K
set_option linter.unusedSimpArgs false
set_option linter.unusedVariables false
set_option maxRecDepth 10000
theorem Vn {α:Type} (l:List α):((l.length:Nat):Int)=0↔l=[]:=by
  cases l with
  | nil=>simp
  | cons a l=>simp;omega
theorem Pw {n a b:Int} (h1:a≤n) (h2:n≤b):i_within n a b=true:=by simp only [i_within,decide_eq_true h1,decide_eq_true h2,cond_true]
theorem Qo {r:Int} (h:r=0∨r=1):GC r=true:=by
  rcases h with rfl|rfl <;> rfl
theorem Ql (f g:PFrame):FW f g=decide (f=g):=by
  obtain ⟨a1,a2,a3,a4,a5,a6,a7,a8,a9,a10,a11⟩:=f
  obtain ⟨b1,b2,b3,b4,b5,b6,b7,b8,b9,b10,b11⟩:=g
  rw [Bool.eq_iff_iff]
  simp only [FW,Bool.cond_false_right,Bool.and_eq_true,GK,NN,decide_eq_true_eq,PFrame.mk.injEq]
  grind
theorem Ii {w:World} {lo lo' E E' sz sz' n n':Nat} {v v':Value} {xs xs':List Value} (h:World.ownsRow w lo E sz v n xs) (h':World.ownsRow w lo' E' sz' v' n' xs') (hne:E ≠ E'):∀ g,v.ownBlock=some g→v'.ownBlock=some g→False:=fun g h1 h2=>by
  rcases h.2 with ⟨rfl,_⟩|⟨a,_,_,rfl,_,ha,_⟩
  · cases h1
  · rcases h'.2 with ⟨rfl,_⟩|⟨b,_,_,rfl,_,hb,_⟩
    · cases h2
    · obtain rfl:a=g:=by simpa [Value.ownBlock] using h1
      obtain rfl:b=a:=by simpa [Value.ownBlock] using h2
      rw [ha] at hb
      injection hb with hb
      injection hb with _ hb
      exact hne hb
section frame
variable {k e s r : Int} {sn b t p key : List UInt8}
theorem Rg (h:GJ k (b.length:Int)=true):b.length≤40:=by
  simp only [GJ,cond_eq_ite,decide_eq_true_eq] at h
  (repeat' split at h) <;> (have hq:=of_decide_eq_true h;omega)
theorem MV (h4:4≤k) (h8:k≤8) (hs:(sn.length:Int)=12) (he:0≤e∧e≤4294967295) (hq:0≤s∧s≤281474976710655) (ht:(t.length:Int)=16) (hb:GJ k (b.length:Int)=true) :
    i_FrameOk {Kind:=k,Id:=0,Cn:=[],Sn:=sn,Tick:=0,Cookie:=[],Proof:=[],Epoch:=e,Seq:=s,Body:=b,Tag:=t:PFrame}=true:=by
  have h5:GF k=true:=Pw h4 h8
  simp only [i_FrameOk,decide_eq_false (show ¬ k=1 by omega),decide_eq_false (show ¬ k=2 by omega),decide_eq_false (show ¬ k=3 by omega),cond_false,h5,FT,decide_eq_true hs,Pw he.1 he.2,Pw hq.1 hq.2,decide_eq_true ht,hb,cond_true,Ql,decide_true]
theorem SE (hr:r=0∨r=1) (h4:4≤k) (h8:k≤8) (hs:(sn.length:Int)=12) (he:0≤e∧e≤4294967295) (hq:0≤s∧s≤281474976710655) (ht:(t.length:Int)=16) (hb:GJ k (b.length:Int)=true) :
    uL r {Kind:=k,Id:=0,Cn:=[],Sn:=sn,Tick:=0,Cookie:=[],Proof:=[],Epoch:=e,Seq:=s,Body:=b,Tag:=t:PFrame}=uN [([116]:List UInt8),FK r sn e s,([by8 k]:List UInt8),b]:=by
  have h5:GF k=true:=Pw h4 h8
  simp only [uL,Qo hr,h5,MV h4 h8 hs he hq ht hb,cond_true]
def Ji (key:List UInt8) (r:Int) (sn:List UInt8) (e s k:Int) (p:List UInt8):PFrame:={Kind:=k,Id:=0,Cn:=[],Sn:=sn,Tick:=0,Cookie:=[],Proof:=[],Epoch:=e,Seq:=s,Body:=Ia key (FK r sn e s) p,Tag:=JQ key (uN [([116]:List UInt8),FK r sn e s,([by8 k]:List UInt8),Ia key (FK r sn e s) p]):PFrame}
theorem Oh (hk:(key.length:Int)=32) (hb:GJ k (p.length:Int)=true):(Ia key (FK r sn e s) p).length=p.length:=by
  have h1:=KG key (FK r sn e s) p
  have h2:=Hw r sn e s
  have h3:=Rg hb
  omega
theorem UQ (hk:(key.length:Int)=32) (hb:GJ k (p.length:Int)=true):((JQ key (uN [([116]:List UInt8),FK r sn e s,([by8 k]:List UInt8),Ia key (FK r sn e s) p])).length:Int)=16:=by
  have h2:=Hw r sn e s
  have h3:=Rg hb
  have h4:=Oh (r:=r) (sn:=sn) (e:=e) (s:=s) hk hb
  have h5:(uN [([116]:List UInt8),FK r sn e s,([by8 k]:List UInt8),Ia key (FK r sn e s) p]).length≤100:=by
    simp only [uN,List.flatten_cons,List.flatten_nil,List.length_append,List.length_cons,List.length_nil];omega
  have h6:=RU (key:=key) (b:=uN [([116]:List UInt8),FK r sn e s,([by8 k]:List UInt8),Ia key (FK r sn e s) p]) (by omega) (by omega)
  unfold JQ
  rw [List.length_take,h6]
  rfl
theorem SH (hk:(key.length:Int)=32) (hr:r=0∨r=1) (h4:4≤k) (h8:k≤8) (hs:(sn.length:Int)=12) (he:0≤e∧e≤4294967295) (hq:0≤s∧s≤281474976710655) (hb:GJ k (p.length:Int)=true) :
    He key r sn e s k p=(Ji key r sn e s k p,true):=by
  have h5:GF k=true:=Pw h4 h8
  have h6:=Oh (r:=r) (sn:=sn) (e:=e) (s:=s) hk hb
  have hl:((List.replicate 16 (0:UInt8)).length:Int)=16:=by rw [List.length_replicate];rfl
  simp only [He,decide_eq_true hk,Qo hr,h5,MV h4 h8 hs he hq hl hb,cond_true]
  rw [SE (b:=Ia key (FK r sn e s) p) hr h4 h8 hs he hq hl (by rw [h6];exact hb)]
  rfl
theorem Lr (hk:(key.length:Int)=32) (hr:r=0∨r=1) (h4:4≤k) (h8:k≤8) (hs:(sn.length:Int)=12) (he:0≤e∧e≤4294967295) (hq:0≤s∧s≤281474976710655) (hb:GJ k (p.length:Int)=true) :
    uL r (Ji key r sn e s k p)=uN [([116]:List UInt8),FK r sn e s,([by8 k]:List UInt8),Ia key (FK r sn e s) p]∧GT key r (Ji key r sn e s k p)=(p,true)∧i_FrameOk (Ji key r sn e s k p)=true:=by
  have h6:=Oh (r:=r) (sn:=sn) (e:=e) (s:=s) hk hb
  have h7:=UQ (r:=r) (sn:=sn) (e:=e) (s:=s) hk hb
  have hb2:GJ k ((Ia key (FK r sn e s) p).length:Int)=true:=by rw [h6];exact hb
  have hi:uL r (Ji key r sn e s k p)=uN [([116]:List UInt8),FK r sn e s,([by8 k]:List UInt8),Ia key (FK r sn e s) p]:=SE hr h4 h8 hs he hq h7 hb2
  refine ⟨hi,?_,MV h4 h8 hs he hq h7 hb2⟩
  have hd:Ij (JQ key (uN [([116]:List UInt8),FK r sn e s,([by8 k]:List UInt8),Ia key (FK r sn e s) p])) (JQ key (uN [([116]:List UInt8),FK r sn e s,([by8 k]:List UInt8),Ia key (FK r sn e s) p]))=0:=(Lg _ _).2 rfl
  have hn:¬ ((uN [([116]:List UInt8),FK r sn e s,([by8 k]:List UInt8),Ia key (FK r sn e s) p]).length:Int)=0:=by
    simp only [uN,List.flatten_cons,List.flatten_nil,List.length_append,List.length_cons,List.length_nil];omega
  have hm:=Qw (key:=key) (head:=FK r sn e s) (b:=p) (by have:=Rg hb;omega) (by have:=Hw r sn e s;omega) (by omega)
  have h7':((Ji key r sn e s k p).Tag.length:Int)=16:=h7
  have hd':Ij (Ji key r sn e s k p).Tag (JQ key (uN [([116]:List UInt8),FK r sn e s,([by8 k]:List UInt8),Ia key (FK r sn e s) p]))=0:=hd
  simp only [GT,hi,decide_eq_true hk,decide_eq_false hn,cond_true,cond_false,It,decide_eq_true h7',hd',decide_true]
  exact congrArg (fun x=>(x,true)) hm
end frame
section win
theorem TH (w:PWin) (m:Int):Gm w m=Ma w.Bits m:=rfl
theorem To {w:PWin} {n:Int} (hw:IQ w=true) (h0:0≤n) (h1:n≤281474976710655) (ht:w.Top < n):Gv w n=true:=by
  simp only [Gv,hw,Pw h0 h1,decide_eq_true ht,cond_true]
theorem Nq {w:PWin} (h:IQ w=true):Iw w.Bits=true∧w.Bits.length=32 ∧ -1≤w.Top∧w.Top≤281474976710655∧(∀ m:Int,w.Top+1≤m→m < 1024→Ma w.Bits m=false)∧(w.Top = -1∨Ma w.Bits w.Top=true):=by
  have h0:=QA h
  refine ⟨h0.1,h0.2.1,h0.2.2.1,h0.2.2.2,?_,?_⟩
  all_goals
    simp only [IQ,Bool.cond_false_right,Bool.and_eq_true,Bool.or_eq_true,decide_eq_true_eq] at h
  · exact (JB _ _ _).1 h.2.2.1
  · exact h.2.2.2
theorem TZ {w:PWin} (h1:Iw w.Bits=true) (h2:w.Bits.length=32) (h3:-1≤w.Top) (h4:w.Top≤281474976710655) (h5:∀ m:Int,w.Top+1≤m→m < 1024→Ma w.Bits m=false) (h6:w.Top = -1∨Ma w.Bits w.Top=true):IQ w=true:=by
  have ha:Js w.Bits 32=true:=by simp only [Js,h1,Bool.true_and];exact decide_eq_true (by omega)
  have hn:KF (Gm w) (w.Top+1) 1024=true:=(JB _ _ _).2 h5
  have ht:(decide (w.Top = -1) || Gm w w.Top)=true:=by
    rw [Bool.or_eq_true,decide_eq_true_eq]
    exact h6
  simp only [IQ,Pw h3 h4,ha,hn,ht,cond_true]
theorem Me {w:PWin} {n:Int} (h:Gv w n=true):ID w n=({Top:=if w.Top < n then n else w.Top,Bits:=NX w.Bits w.Top n:PWin},true)∧IQ (ID w n).1=true:=by
  have e1:ID w n=({Top:=if w.Top < n then n else w.Top,Bits:=NX w.Bits w.Top n:PWin},true):=by unfold ID;rw [h];rfl
  refine ⟨e1,?_⟩
  rw [e1]
  have h0:=Lo h
  have hw:IQ w=true:=by
    cases hq:IQ w with
    | true=>rfl
    | false=>unfold Gv at h;rw [hq] at h;cases h
  obtain ⟨p1,p2,p3,p4,p5,p6⟩:=Nq hw
  refine TZ (OJ (JX p1 _ _) _) (by show (NX w.Bits w.Top n).length=32;rw [NX,Lt,IH,p2]) ?_ ?_ ?_ ?_
  · show -1≤(if w.Top < n then n else w.Top);split <;> omega
  · show (if w.Top < n then n else w.Top)≤_;split <;> omega
  · intro m hm1 hm2
    replace hm1:(if w.Top < n then n else w.Top)+1≤m:=hm1
    show Ma (NX w.Bits w.Top n) m=false
    have hm3:w.Top+1≤m∧n < m:=by split at hm1 <;> omega
    rw [KP p1 p2 p3,p5 m hm3.1 hm2,decide_eq_false (show ¬ m % 1024=n % 1024 by omega)]
    rfl
  · show (if w.Top < n then n else w.Top) = -1∨Ma (NX w.Bits w.Top n) (if w.Top < n then n else w.Top)=true
    right
    rw [KP p1 p2 p3]
    by_cases ht:w.Top < n
    · rw [if_pos ht,decide_eq_true (show n % 1024=n % 1024 from rfl),Bool.or_true]
    · rw [if_neg ht,if_neg (show ¬ w.Top+1 < n - 1023 by omega),p6.resolve_left (by omega)]
      have hd:decide ((w.Top - (w.Top+1)) % 1024 < n - (w.Top+1))=false:=decide_eq_false (by omega)
      rw [hd]
      rfl
theorem OB {w:PWin} {n:Int} (h:Gv w n=true):(ID w n).1.Top=if w.Top < n then n else w.Top:=by rw [(Me h).1]
theorem Qy {w:PWin} {n:Int} (h:Gv w n=true):Gv (ID w n).1 n=false:=by
  have h0:=Lo h
  have hw:=(Me h).2
  have ht:=OB h
  have hb:Gm (ID w n).1 n=true:=by
    rw [TH,(Me h).1]
    show Ma (NX w.Bits w.Top n) n=true
    rw [KP h0.1 h0.2.1 h0.2.2.1,decide_eq_true (show n % 1024=n % 1024 from rfl),Bool.or_true]
  have hn:¬ (ID w n).1.Top < n:=by rw [ht];split <;> omega
  simp only [Gv,hw,Pw h0.2.2.2.2.1 h0.2.2.2.2.2,decide_eq_false hn,cond_true,cond_false,hb,Bool.not_true]
  cases decide (((ID w n).1.Top - 1024)+1≤n) <;> rfl
end win
section ends
theorem Ib (e:PEp):Hm e=true↔(0≤e.N∧e.N≤4294967295)∧(e.Key.length:Int)=32∧(0≤e.Seq∧e.Seq≤281474976710656)∧IQ e.Win=true:=by
  simp only [Hm,i_within,Bool.cond_false_right,Bool.and_eq_true,decide_eq_true_eq]
theorem Nz (c:PChan):Hv c=true↔(c.HasOld=true∧Hm c.Old=true∧c.Old.N=c.Cur.N - 1∧((0≤c.Until∧c.Until≤1000005)∨(c.Until = -1∧c.Role=1)))∨(c.HasOld=false∧i_sameEp c.Old {N:=0,Key:=[],Seq:=0,Win:={Top:=0,Bits:=[]:PWin}:PEp}=true∧c.Until=0):=by
  simp only [Hv,i_within,cond_eq_ite]
  cases c.HasOld <;> simp
theorem HW (c:PChan):Gb c=true↔(c.Role=0∨c.Role=1)∧(c.Sn.length:Int)=12∧Hm c.Cur=true∧Hv c=true∧((c.Next.length:Int)=0∨(c.Role=0∧(c.Next.length:Int)=32∧c.Cur.N < 4294967295)):=by
  simp only [Gb,GC,FT,cond_eq_ite]
  grind
variable {c : PChan} {ep : PEp} {k e s r now : Int} {sn p key : List UInt8}
theorem RX (ho:Hm ep=true) (hq:ep.Seq < 281474976709656) (hr:r=0∨r=1) (hs:(sn.length:Int)=12) (h4:4≤k) (h8:k≤8) (hb:GJ k (p.length:Int)=true) :
    uM ep r sn k p=({N:=ep.N,Key:=ep.Key,Seq:=ep.Seq+1,Win:=ep.Win:PEp},Ji ep.Key r sn ep.N ep.Seq k p,0):=by
  have h:=(Ib ep).1 ho
  have e1:=SH (e:=ep.N) (s:=0) h.2.1 hr h4 h8 hs h.1 ⟨by omega,by omega⟩ hb
  have e2:=SH (e:=ep.N) (s:=ep.Seq) h.2.1 hr h4 h8 hs h.1 ⟨h.2.2.1.1,by omega⟩ hb
  simp only [uM,HS,ho,e1,e2,cond_true,decide_eq_false (show ¬ 281474976709656≤ep.Seq by omega),decide_eq_false (show ¬ ep.Seq=281474976710656 by omega),cond_false]
  cases decide (k=4) <;> rfl
theorem RY (ho:Hm ep=true) (hq:Gv ep.Win s=true) (hr:r=0∨r=1) (hs:(sn.length:Int)=12) (h4:4≤k) (h8:k≤8) (hb:GJ k (p.length:Int)=true) :
    mz ep r (Ji ep.Key r sn ep.N s k p)=({N:=ep.N,Key:=ep.Key,Seq:=ep.Seq,Win:=(ID ep.Win s).1:PEp},p,0):=by
  have h:=(Ib ep).1 ho
  have h0:=Lo hq
  obtain ⟨u1,u2,u3⟩:=Lr (e:=ep.N) (s:=s) h.2.1 hr h4 h8 hs h.1 h0.2.2.2.2 hb
  have hn:¬ ((uL r (Ji ep.Key r sn ep.N s k p)).length:Int)=0:=by
    rw [u1];simp only [uN,List.flatten_cons,List.flatten_nil,List.length_append,List.length_cons,List.length_nil];omega
  simp only [mz,ho,decide_eq_false hn,u2,cond_true,cond_false,show (Ji ep.Key r sn ep.N s k p).Epoch=ep.N from rfl,show (Ji ep.Key r sn ep.N s k p).Seq=s from rfl,decide_true,(Me hq).1]
theorem PN (ho:Gb c=true) (hq:c.Cur.Seq < 281474976709656) (h4:4≤k) (h8:k≤8) (hb:GJ k (p.length:Int)=true) :
    IB c k p=({Role:=c.Role,Sn:=c.Sn,Cur:={N:=c.Cur.N,Key:=c.Cur.Key,Seq:=c.Cur.Seq+1,Win:=c.Cur.Win:PEp},Old:=c.Old,HasOld:=c.HasOld,Until:=c.Until,Next:=c.Next:PChan},Ji c.Cur.Key c.Role c.Sn c.Cur.N c.Cur.Seq k p,0):=by
  have h:=(HW c).1 ho
  have e1:=RX (ep:=c.Cur) (k:=k) (p:=p) h.2.2.1 hq h.1 h.2.1 h4 h8 hb
  simp only [IB,ho,cond_true,e1]
theorem Mu (f:PFrame) (ho:Gb c=true) (hn:0≤now∧now≤1000000) (hf:i_FrameOk f=true) (hk:4≤f.Kind∧f.Kind≤8) (hs:f.Sn=c.Sn):FG c now f=(bif decide (f.Epoch=c.Cur.N) then Gq c now f else bif bif c.HasOld then decide (f.Epoch=c.Old.N) else false then Gq c now f else bif bif decide (0 < (c.Next.length:Int)) then decide (f.Epoch=c.Cur.N+1) else false then Gq c now f else (c,[],8)):=by
  have hd:decide (Ij f.Sn c.Sn=0)=true:=decide_eq_true ((Lg _ _).2 hs)
  have h3:FG c now f=Gk c now f:=by
    simp only [FG,ho,Pw hn.1 hn.2,show GF f.Kind=true from Pw hk.1 hk.2,hf,cond_true,Hb]
    cases c.HasOld <;> cases decide (0 < (c.Next.length:Int)) <;> rfl
  rw [h3]
  simp only [Gk,hd,cond_true]
theorem Qu (ho:Gb c=true) (h:e=c.Cur.N∨e=c.Cur.N+1):(bif c.HasOld then decide (e=c.Old.N) else false)=false:=by
  have h1:=(Nz c).1 ((HW c).1 ho).2.2.2.1
  cases hq:c.HasOld
  · rfl
  · rw [hq] at h1
    simp only [true_and,Bool.true_eq_false,false_and,or_false] at h1
    rw [cond_true]
    exact decide_eq_false (by omega)
theorem OQ (h:e=c.Cur.N):(bif decide (0 < (c.Next.length:Int)) then decide (e=c.Cur.N+1) else false)=false:=by
  cases decide (0 < (c.Next.length:Int))
  · rfl
  · rw [cond_true];exact decide_eq_false (by omega)
theorem RQ (ho:Gb c=true) (hn:0≤now∧now≤1000000) (h4:4≤k) (h8:k≤8) (hb:GJ k (p.length:Int)=true) (hq:Gv c.Cur.Win s=true) :
    FG c now (Ji c.Cur.Key (1 - c.Role) c.Sn c.Cur.N s k p)=({Role:=c.Role,Sn:=c.Sn,Cur:={N:=c.Cur.N,Key:=c.Cur.Key,Seq:=c.Cur.Seq,Win:=(ID c.Cur.Win s).1:PEp},Old:=c.Old,HasOld:=c.HasOld,Until:=bif c.HasOld && decide (c.Until = -1) then now+5 else c.Until,Next:=c.Next:PChan},p,0):=by
  have h:=(HW c).1 ho
  have hr:1 - c.Role=0∨1 - c.Role=1:=by omega
  have h0:=Lo hq
  have u3:=(Lr (e:=c.Cur.N) (s:=s) ((Ib _).1 h.2.2.1).2.1 hr h4 h8 h.2.1 ((Ib _).1 h.2.2.1).1 h0.2.2.2.2 hb).2.2
  have e1:=RY (ep:=c.Cur) (k:=k) (p:=p) h.2.2.1 hq hr h.2.1 h4 h8 hb
  rw [Mu _ ho hn u3 ⟨h4,h8⟩ rfl]
  simp only [show (Ji c.Cur.Key (1 - c.Role) c.Sn c.Cur.N s k p).Epoch=c.Cur.N from rfl,decide_true,cond_true,Gq,Gi,Qu ho (.inl rfl),OQ (e:=c.Cur.N) rfl,cond_false,e1]
  cases c.HasOld <;> cases decide (c.Until = -1) <;> rfl
end ends
section w
theorem NZ:IQ GS=true:=by
  have hb:∀ m,Gm GS m=false:=fun m=>by
    have h0:∀ j,(List.replicate 32 (0:Int)).getD j 0=0:=fun j=>by
      rw [List.getD_eq_getElem?_getD,List.getElem?_replicate]
      split <;> rfl
    simp only [Gm,GS,h0]
    rw [Int.zero_ediv]
    rfl
  have hn:KF (Gm GS) (GS.Top+1) 1024=true:=(JB _ _ _).2 fun m _ _=>hb m
  have ha:Js GS.Bits 32=true:=by decide
  have hi:i_within GS.Top (-1) 281474976710655=true:=by decide
  have ht:decide (GS.Top = -1)=true:=by decide
  simp only [IQ,hi,ha,hn,ht,cond_true,Bool.true_or]
end w
section q
theorem Ie:FP=i_within:=rfl
theorem SZ (w:PWin) (n:Int):Gm w n=GE w n:=by
  have h:n % 1024 % 32=n % 32:=by omega
  simp only [Gm,GE,h]
theorem Pj (w:PWin):IQ w=HY w:=by
  have hb:Gm w=GE w:=funext (SZ w)
  simp only [IQ,HY,Ie,hb,Js]
  cases h1:i_within w.Top (-1) 281474976710655 <;> cases h2:Iw w.Bits <;> by_cases h3:(w.Bits.length:Int)=32 <;> simp [h3]
  have:=FU h1
  cases h4:GE w w.Top <;> by_cases h5:w.Top = -1 <;> by_cases h6:0≤w.Top <;> simp [h5,h6] <;> omega
theorem Rv (e:PEp):Hm e=HB e:=by
  simp only [Hm,HB,Ie,Pj]
theorem Tn (e:PEp):i_sameEp e {N:=0,Key:=[],Seq:=0,Win:={Top:=0,Bits:=[]:PWin}:PEp}=HA e:=by
  simp only [i_sameEp,HA,GK,NN,eqI,Vn]
theorem NE (n:Int):GC n=FP n 0 1:=by
  simp only [GC,FP,cond_eq_ite]
  by_cases h0:n=0 <;> by_cases h1:n=1 <;> by_cases h2:0≤n <;> by_cases h3:n≤1 <;> simp_all <;> omega
theorem Rw (c:PChan):Gb c=Gf c:=by
  simp only [Gb,Gf,Hv,NE,FT,Rv,Tn,Ie,i_within,cond_eq_ite]
  grind
theorem Mh (k:Int):Hz k=GF k:=rfl
theorem Rf (k n:Int):GJ k n=HK k n:=rfl
theorem MI (f:PFrame):i_FrameOk f=FO f:=by
  rw [Bool.eq_iff_iff]
  obtain ⟨a1,a2,a3,a4,a5,a6,a7,a8,a9,a10,a11⟩:=f
  simp only [i_FrameOk,FO,Bool.cond_false_right,Ql,Mh,GF,FT,Ie,Rf,PFrame.mk.injEq]
  simp only [i_within,cond_eq_ite,Bool.and_eq_true,decide_eq_true_eq,Vn]
  grind
theorem Mg (r:Int) (f:PFrame):uL r f=FJ r f:=by
  simp only [uL,FJ,NE,← Mh,MI]
  cases FP r 0 1 <;> cases Hz f.Kind <;> cases FO f <;> simp [uN]
theorem Rm (w:PWin) (n:Int):Gv w n=GR w n:=by
  simp only [Gv,GR,Pj,Ie,SZ]
  cases HY w
  · rfl
  cases h:i_within n 0 281474976710655
  · rfl
  have h1:=FU h
  have h2:decide ((w.Top - 1024)+1≤n)=decide (Ip w.Top≤n):=by
    refine decide_eq_decide.2 ?_
    unfold Ip
    by_cases h3:w.Top < 1024
    · rw [decide_eq_true h3,cond_true];omega
    · rw [decide_eq_false h3,cond_false]
  simp only [cond_true]
  cases decide (w.Top < n)
  · simp only [cond_false]
    rw [h2]
  · rfl
theorem UL (w:PWin) (n:Int):ID w n=JZ w n:=by
  unfold ID JZ
  rw [Rm]
  cases GR w n
  · rfl
  · by_cases h:w.Top < n
    · rw [if_pos h,decide_eq_true h];rfl
    · rw [if_neg h,decide_eq_false h];rfl
theorem Vl (w:PWin) (n:Int):(JZ w n).2=GR w n:=by
  unfold JZ
  cases GR w n <;> rfl
theorem Rn (k:List UInt8) (r:Int) (f:PFrame):GT k r f=GZ k r f:=by
  simp only [GT,GZ,Mg,show ∀ a b,It a b=II a b from fun _ _=>rfl]
theorem Ru (e:PEp) (r:Int) (f:PFrame):mz e r f=tB e r f:=by
  simp only [mz,tB,Rv,Mg,UL,Vl,Rn]
theorem SD (n:Int) (k:List UInt8):FB n k=FM n k:=by simp only [FB,FM,Ie,GS,JP]
theorem QK (x y:List UInt8):decide (Ij x y=0)=Jp x y:=by
  rw [Jp,NN]
  exact decide_eq_decide.2 (Lg x y)
theorem OD (c:PChan) (n:Int) (f:PFrame):FG c n f=FF c n f:=by
  simp only [FG,Hb,FF,← Rw,Ie,Mh,← MI]
  cases h:Gb c
  · rfl
  cases i_within n 0 1000000
  · rfl
  cases GF f.Kind
  · cases i_FrameOk f <;> rfl
  cases i_FrameOk f
  · rfl
  have e1:(bif c.HasOld then (bif decide (0 < (c.Next.length:Int)) then Gk c n f else Gk c n f) else (bif decide (0 < (c.Next.length:Int)) then Gk c n f else Gk c n f))=Gk c n f:=by
    cases c.HasOld <;> cases decide (0 < (c.Next.length:Int)) <;> rfl
  simp only [cond_true]
  rw [e1]
  simp only [Gk,QK]
  cases Jp f.Sn c.Sn
  · rfl
  simp only [cond_true,Gq,Gi,Ha,Hr,Ru,SD]
  by_cases hC:f.Epoch=c.Cur.N
  · have hC':=decide_eq_true hC
    have hO:(bif c.HasOld then (decide (f.Epoch=c.Old.N)) else (false))=false:=by
      cases hq:(bif c.HasOld then (decide (f.Epoch=c.Old.N)) else (false))
      · rfl
      · exact (SN h hC' hq).elim
    have hN:(bif (decide (0 < (c.Next.length:Int))) then (decide (f.Epoch=(c.Cur.N+1))) else (false))=false:=by
      cases hq:(bif (decide (0 < (c.Next.length:Int))) then (decide (f.Epoch=(c.Cur.N+1))) else (false))
      · rfl
      · exact (SO hC' hq).elim
    simp only [hC',hO,hN,cond_true,cond_false]
  · have hC':=decide_eq_false hC
    have hx:¬ ((bif c.HasOld then (decide (f.Epoch=c.Old.N)) else (false))=true∧(bif (decide (0 < (c.Next.length:Int))) then (decide (f.Epoch=(c.Cur.N+1))) else (false))=true):=fun q=>SM h q.1 q.2
    revert hx
    cases hH:c.HasOld <;> cases hO:decide (f.Epoch=c.Old.N) <;> cases hX:decide (0 < (c.Next.length:Int)) <;> cases hN:decide (f.Epoch=c.Cur.N+1) <;> intro hx <;> simp only [hC',hH,hO,hX,hN,cond_true,cond_false]
    all_goals exact absurd ⟨rfl,rfl⟩ hx
end q
section e
structure EndsP (c q:PChan):Prop where
  oc:Gb c=true
  oq:Gb q=true
  rc:c.Role=0∨c.Role=1
  ro:q.Role=1 - c.Role
  sn:q.Sn=c.Sn
  nc:c.Cur.N=0
  nq:q.Cur.N=0
  key:q.Cur.Key=c.Cur.Key
  sq:c.Cur.Seq=0
  win:q.Cur.Win=GS
  hc:c.HasOld=false
  hq:q.HasOld=false
def mkC (r:Int) (sn key:List UInt8):PChan:={Role:=r,Sn:=sn,Cur:={N:=0,Key:=key,Seq:=0,Win:=GS:PEp},Old:={N:=0,Key:=[],Seq:=0,Win:={Top:=0,Bits:=[]:PWin}:PEp},HasOld:=false,Until:=0,Next:=[]:PChan}
theorem KC {code:List UInt8} {p:PChan×PChan} (hc:code.length≤1048576) (h:SB code p):EndsP p.1 p.2∧EndsP p.2 p.1:=by
  obtain ⟨sn,hs,rfl⟩:=h
  have hk:((sha code).length:Int)=32:=by rw [Oa hc];rfl
  have hE:FB 0 (sha code)={N:=0,Key:=sha code,Seq:=0,Win:=GS:PEp}:=by
    simp only [FB,show i_within 0 0 4294967295=true from rfl,decide_eq_true hk,cond_true]
  have hC:∀ r:Int,r=0∨r=1→Gr r sn (sha code)=mkC r sn (sha code):=fun r hr=>by
    simp only [Gr,Qo hr,FT,decide_eq_true (show (sn.length:Int)=12 by omega),decide_eq_true hk,cond_true,hE,mkC]
  have hO:∀ r:Int,r=0∨r=1→Gb (mkC r sn (sha code))=true:=fun r hr =>
    (HW _).2 ⟨hr,by show (sn.length:Int)=12;omega,(Ib _).2 ⟨⟨Int.le_refl _,(show (0:Int)≤4294967295 by decide)⟩,hk,⟨Int.le_refl _,(show (0:Int)≤281474976710656 by decide)⟩,NZ⟩,(Nz _).2 (.inr ⟨rfl,by simp [mkC,i_sameEp,GK,NN,eqI],rfl⟩),.inl rfl⟩
  rw [hC 0 (.inl rfl),hC 1 (.inr rfl)]
  exact ⟨⟨hO 0 (.inl rfl),hO 1 (.inr rfl),.inl rfl,rfl,rfl,rfl,rfl,rfl,rfl,rfl,rfl,rfl⟩,⟨hO 1 (.inr rfl),hO 0 (.inl rfl),.inr rfl,rfl,rfl,rfl,rfl,rfl,rfl,rfl,rfl,rfl⟩⟩
def PR (c:PChan) (k:Nat):PChan:={Role:=c.Role,Sn:=c.Sn,Cur:={N:=c.Cur.N,Key:=c.Cur.Key,Seq:=((k:Nat):Int),Win:=c.Cur.Win:PEp},Old:=c.Old,HasOld:=c.HasOld,Until:=c.Until,Next:=c.Next:PChan}
def frE (c:PChan) (v:Int) (k:Nat):PFrame:=Ji c.Cur.Key c.Role c.Sn c.Cur.N ((k:Nat):Int) 4 ([by8 ((k:Nat):Int),by8 v]:List UInt8)
def frs (c:PChan) (v:Int) (n:Nat):List PFrame:=(List.range n).map (frE c v)
variable {c q b a : PChan} {v m : Int} {k : Nat}
theorem MM (h:EndsP c q) (hk:k < 100):Gb (PR c k)=true:=by
  have p:=(HW c).1 h.oc
  have e:=(Ib _).1 p.2.2.1
  exact (HW _).2 ⟨p.1,p.2.1,(Ib _).2 ⟨e.1,e.2.1,⟨by show 0≤((k:Nat):Int);omega,by show ((k:Nat):Int)≤_;omega⟩,e.2.2.2⟩,p.2.2.2.1,p.2.2.2.2⟩
theorem Jh (h:EndsP c q) (hk:k < 100) (v:Int):IB (PR c k) 4 ([by8 ((k:Nat):Int),by8 v]:List UInt8)=(PR c (k+1),frE c v k,0):=by
  have e:=PN (c:=PR c k) (k:=4) (p:=[by8 ((k:Nat):Int),by8 v]) (MM h hk) (by show ((k:Nat):Int) < _;omega) (by decide) (by decide) rfl
  rw [e]
  refine Prod.ext ?_ (Prod.ext rfl rfl)
  show ({Role:=c.Role,Sn:=c.Sn,Cur:={N:=c.Cur.N,Key:=c.Cur.Key,Seq:=((k:Nat):Int)+1,Win:=c.Cur.Win:PEp},Old:=c.Old,HasOld:=c.HasOld,Until:=c.Until,Next:=c.Next}:PChan)=PR c (k+1)
  unfold PR
  rw [show ((k+1:Nat):Int)=((k:Nat):Int)+1 by omega]
theorem Ue (h:EndsP c q):c=PR c 0:=by
  have:=h.sq
  obtain ⟨r,s,⟨n,ky,sq,w⟩,o,ho,u,nx⟩:=c
  simp only at this
  subst this
  rfl
theorem OU (c:PChan) (v:Int) (k:Nat):frs c v (k+1)=frs c v k++[frE c v k]:=by
  unfold frs
  rw [List.range_succ,List.map_append]
  rfl
theorem QH (c:PChan) (v:Int) (k:Nat):(frs c v k).length=k:=by simp [frs]
theorem Up (c:PChan) (v:Int) {z:PFrame} {j k:Nat} (h:j < k):(frs c v k).getD j z=frE c v j:=by
  simp [frs,List.getD_eq_getElem?_getD,List.getElem?_range h]
def Ll (q:PChan) (w:PWin):PChan:={Role:=q.Role,Sn:=q.Sn,Cur:={N:=q.Cur.N,Key:=q.Cur.Key,Seq:=q.Cur.Seq,Win:=w:PEp},Old:=q.Old,HasOld:=q.HasOld,Until:=q.Until,Next:=q.Next:PChan}
structure OpenP (q b:PChan) (g:List Bool):Prop where
  eq:b=Ll q b.Cur.Win
  wn:IQ b.Cur.Win=true
  tp:b.Cur.Win.Top < 5
  gl:g.length=5
  my:∀ j:Nat,j < 5→Gv b.Cur.Win ((j:Nat):Int)=!(g.getD j false)
theorem Qt (h:EndsP c q):OpenP q q [false,false,false,false,false]:=by
  refine ⟨?_,by rw [h.win];exact NZ,by rw [h.win];decide,rfl,fun j hj=>?_⟩
  · obtain ⟨r,s,⟨n,ky,sq,w⟩,o,ho,u,nx⟩:=q
    rfl
  · rw [h.win,To NZ (by omega) (by omega) (show (-1:Int) < _ by omega)]
    rcases j with _|_|_|_|_|j
    · rfl
    · rfl
    · rfl
    · rfl
    · rfl
    · omega
theorem Qd {w:PWin} (h:EndsP c q) (hw:IQ w=true):Gb (Ll q w)=true:=by
  have p:=(HW q).1 h.oq
  have e:=(Ib _).1 p.2.2.1
  exact (HW _).2 ⟨p.1,p.2.1,(Ib _).2 ⟨e.1,e.2.1,e.2.2.1,hw⟩,p.2.2.2.1,p.2.2.2.2⟩
theorem SQ (h:EndsP c q) (w:PWin) (v:Int) (k:Nat):frE c v k=Ji (Ll q w).Cur.Key (1 - (Ll q w).Role) (Ll q w).Sn (Ll q w).Cur.N ((k:Nat):Int) 4 ([by8 ((k:Nat):Int),by8 v]:List UInt8):=by
  show _=Ji q.Cur.Key (1 - q.Role) q.Sn q.Cur.N ((k:Nat):Int) 4 _
  unfold frE
  rw [h.key,h.ro,h.sn,h.nq,h.nc,show 1 - (1 - c.Role)=c.Role by omega]
theorem Qx {w:PWin} {n j:Int} (h:Gv w n=true) (h0:0≤j) (h5:j < 5) (hn:n < 5) (ht:w.Top < 5) (hj:j ≠ n):Gv (ID w n).1 j=Gv w j:=by
  have h1:=Lo h
  have hw:IQ w=true:=by
    cases hq:IQ w with
    | true=>rfl
    | false=>unfold Gv at h;rw [hq] at h;cases h
  obtain ⟨p1,p2,p3,p4,p5,p6⟩:=Nq hw
  have tp:=OB h
  have hb:Gm (ID w n).1 j=(Ma w.Bits j && !decide ((j - (if w.Top+1 < n - 1023 then n - 1023 else w.Top+1)) % 1024 < n - (if w.Top+1 < n - 1023 then n - 1023 else w.Top+1)) || decide (j % 1024=n % 1024)):=by
    rw [TH,(Me h).1]
    exact KP p1 p2 p3 j
  rw [if_neg (show ¬ w.Top+1 < n - 1023 by omega),decide_eq_false (show ¬ j % 1024=n % 1024 by omega),Bool.or_false] at hb
  have hi:=Pw h0 (show j≤281474976710655 by omega)
  have hlo1:decide (((ID w n).1.Top - 1024)+1≤j)=true:=decide_eq_true (by rw [tp];split <;> omega)
  have hlo2:decide ((w.Top - 1024)+1≤j)=true:=decide_eq_true (by omega)
  have e3:Gm w j=Ma w.Bits j:=TH w j
  simp only [Gv,(Me h).2,hw,hi,cond_true,hlo1,hlo2,hb,e3]
  by_cases c1:w.Top < n
  · have tp':(ID w n).1.Top=n:=by rw [tp,if_pos c1]
    have k1:decide (n - 1024+1≤j)=true:=decide_eq_true (by omega)
    simp only [tp',k1,cond_true]
    by_cases c2:n < j
    · rw [decide_eq_true c2,decide_eq_true (show w.Top < j by omega)];rfl
    · rw [decide_eq_false c2,cond_false]
      by_cases c3:w.Top < j
      · rw [p5 j (by omega) (by omega),decide_eq_true c3];rfl
      · rw [decide_eq_false c3,cond_false,decide_eq_false (show ¬ (j - (w.Top+1)) % 1024 < n - (w.Top+1) by omega)]
        simp
  · have tp':(ID w n).1.Top=w.Top:=by rw [tp,if_neg c1]
    rw [decide_eq_false (show ¬ (j - (w.Top+1)) % 1024 < n - (w.Top+1) by omega)]
    simp only [tp',hlo2,cond_true]
    cases Ma w.Bits j <;> simp
theorem LM {g:List Bool} (h:EndsP c q) (o:OpenP q b g) (hk:k < 5) (hg:g.getD k false=false) (hm:0≤m∧m≤1000000) (v:Int):FG b m (frE c v k)=(Ll q (ID b.Cur.Win ((k:Nat):Int)).1,([by8 ((k:Nat):Int),by8 v]:List UInt8),0)∧OpenP q (Ll q (ID b.Cur.Win ((k:Nat):Int)).1) (g.set k true):=by
  have hq:=o.my k hk
  rw [hg] at hq
  have hb:=Qd h o.wn
  have e:=RQ (c:=Ll q b.Cur.Win) (now:=m) (s:=((k:Nat):Int)) (k:=4) (p:=[by8 ((k:Nat):Int),by8 v]) hb hm (by decide) (by decide) rfl hq
  rw [← SQ h,← o.eq] at e
  constructor
  · rw [e]
    refine Prod.ext ?_ rfl
    have hu:(bif b.HasOld && decide (b.Until = -1) then m+5 else b.Until)=q.Until:=by
      rw [o.eq]
      show (bif q.HasOld && decide (q.Until = -1) then m+5 else q.Until)=q.Until
      rw [h.hq];rfl
    show ({Role:=b.Role,Sn:=b.Sn,Cur:={N:=b.Cur.N,Key:=b.Cur.Key,Seq:=b.Cur.Seq,Win:=(ID b.Cur.Win ((k:Nat):Int)).1:PEp},Old:=b.Old,HasOld:=b.HasOld,Until:=bif b.HasOld && decide (b.Until = -1) then m+5 else b.Until,Next:=b.Next}:PChan)=_
    rw [hu]
    conv=>lhs;rw [o.eq]
    rfl
  · refine ⟨rfl,(Me hq).2,?_,by rw [List.length_set];exact o.gl,fun j hj=>?_⟩
    · show (ID b.Cur.Win ((k:Nat):Int)).1.Top < 5
      rw [OB hq]
      have:=o.tp
      split <;> omega
    · show Gv (ID b.Cur.Win ((k:Nat):Int)).1 ((j:Nat):Int)=_
      by_cases hjk:j=k
      · subst hjk
        rw [Qy hq]
        simp [List.getD_eq_getElem?_getD,List.getElem?_set_self (show j < g.length by rw [o.gl];exact hj)]
      · rw [Qx hq (by omega) (by omega) (by omega) o.tp (by omega),o.my j hj]
        simp [List.getD_eq_getElem?_getD,List.getElem?_set_ne (Ne.symm hjk)]
theorem PA {ep:PEp} {r s kd:Int} {sn p:List UInt8} (ho:Hm ep=true) (hq:Gv ep.Win s=false) (hs0:0≤s∧s≤281474976710655) (hr:r=0∨r=1) (hs:(sn.length:Int)=12) (h4:4≤kd) (h8:kd≤8) (hb:GJ kd (p.length:Int)=true) :
    mz ep r (Ji ep.Key r sn ep.N s kd p)=(ep,[],3):=by
  have h:=(Ib ep).1 ho
  obtain ⟨u1,u2,u3⟩:=Lr (e:=ep.N) (s:=s) h.2.1 hr h4 h8 hs h.1 hs0 hb
  have hn:¬ ((uL r (Ji ep.Key r sn ep.N s kd p)).length:Int)=0:=by
    rw [u1];simp only [uN,List.flatten_cons,List.flatten_nil,List.length_append,List.length_cons,List.length_nil];omega
  have ha:ID ep.Win s=(ep.Win,false):=by unfold ID;rw [hq];rfl
  simp only [mz,ho,decide_eq_false hn,cond_true,cond_false,show (Ji ep.Key r sn ep.N s kd p).Epoch=ep.N from rfl,show (Ji ep.Key r sn ep.N s kd p).Seq=s from rfl,decide_true,ha]
theorem La {g:List Bool} (h:EndsP c q) (o:OpenP q b g) (hk:k < 5) (hg:g.getD k false=true) (hm:0≤m∧m≤1000000) (v:Int):FG b m (frE c v k)=(b,[],3)∧OpenP q b (g.set k true):=by
  have hq:=o.my k hk
  rw [hg] at hq
  have hb:=Qd h o.wn
  have p:=(HW _).1 hb
  have hr:1 - (Ll q b.Cur.Win).Role=0∨1 - (Ll q b.Cur.Win).Role=1:=by omega
  have e1:=PA (ep:=(Ll q b.Cur.Win).Cur) (r:=1 - (Ll q b.Cur.Win).Role) (s:=((k:Nat):Int)) (kd:=4) (sn:=(Ll q b.Cur.Win).Sn) (p:=[by8 ((k:Nat):Int),by8 v]) p.2.2.1 hq ⟨by omega,by omega⟩ hr p.2.1 (by decide) (by decide) rfl
  have u3:=(Lr (key:=(Ll q b.Cur.Win).Cur.Key) (r:=1 - (Ll q b.Cur.Win).Role) (sn:=(Ll q b.Cur.Win).Sn) (e:=(Ll q b.Cur.Win).Cur.N) (s:=((k:Nat):Int)) (k:=4) (p:=[by8 ((k:Nat):Int),by8 v]) ((Ib _).1 p.2.2.1).2.1 hr (by decide) (by decide) p.2.1 ((Ib _).1 p.2.2.1).1 ⟨by omega,by omega⟩ rfl).2.2
  have e2:=Mu (c:=Ll q b.Cur.Win) (now:=m) _ hb hm u3 ⟨(show (4:Int)≤4 by decide),(show (4:Int)≤8 by decide)⟩ rfl
  constructor
  · have e3:FG (Ll q b.Cur.Win) m (frE c v k)=(Ll q b.Cur.Win,[],3):=by
      rw [SQ h b.Cur.Win v k,e2]
      simp only [show ∀ e s p,(Ji (Ll q b.Cur.Win).Cur.Key (1 - (Ll q b.Cur.Win).Role) (Ll q b.Cur.Win).Sn e s 4 p).Epoch=e from fun _ _ _=>rfl,decide_true,cond_true,Gq,Gi,Qu hb (.inl rfl),OQ (c:=Ll q b.Cur.Win) (e:=(Ll q b.Cur.Win).Cur.N) rfl,cond_false,e1]
      rfl
    rw [← o.eq] at e3
    exact e3
  · refine ⟨o.eq,o.wn,o.tp,by rw [List.length_set];exact o.gl,fun j hj=>?_⟩
    rw [o.my j hj]
    by_cases hjk:j=k
    · subst hjk
      rw [hg]
      simp [List.getD_eq_getElem?_getD,List.getElem?_set_self (show j < g.length by rw [o.gl];exact hj)]
    · simp [List.getD_eq_getElem?_getD,List.getElem?_set_ne (Ne.symm hjk)]
theorem Qs (a:PChan) (m n:Int) (f:PFrame) (h:a.HasOld=false) (hm:0≤m∧m≤1000000) (hn:0≤n∧n≤1000000):(FG a m f).2.2=(FG a n f).2.2:=by
  simp only [FG,Hb,Gk,Gq,Gi,Pw hm.1 hm.2,Pw hn.1 hn.2,h,cond_true,cond_false]
  cases Gb a <;> cases GF f.Kind <;> cases i_FrameOk f <;> cases decide (0 < (a.Next.length:Int)) <;> cases decide (Ij f.Sn a.Sn=0) <;> cases decide (f.Epoch=a.Cur.N) <;> cases decide (f.Epoch=a.Cur.N+1) <;> simp only [cond_true,cond_false] <;> (first|rfl|(cases decide ((mz a.Cur (1 - a.Role) f).2.2=0) <;> rfl)|(cases decide ((mz (FB (a.Cur.N+1) a.Next) (1 - a.Role) f).2.2=0) <;> rfl))
theorem Qz (h:EndsP c q) {k:Nat} {f:PFrame} (hm:0≤m∧m≤1000000) (hg:(FG (PR c k) m f).2.2=0):(FF (PR c k) 0 f).2.2=0:=by
  rw [← OD,Qs (PR c k) 0 m f h.hc (by decide) hm]
  exact hg
theorem Om (c:PChan) (v:Int) (k:Nat):(frE c v k).Seq=((k:Nat):Int):=rfl
theorem Sv {i:Int} (h0:0≤i) (h5:i < 5):(((by8 i).toNat:Nat):Int)=i:=by
  unfold by8
  rw [UInt8.toNat_ofNat']
  omega
theorem KD {z:PFrame} {i:Int} {g:List Bool} (h:EndsP c q) (o:OpenP q b g) (h0:0≤i) (h5:i < 5) (hm:0≤m∧m≤1000000) (v:Int):(g.getD i.toNat false=true→FG b m ((frs c v 5).getD i.toNat z)=(b,[],3))∧(g.getD i.toNat false=false→∃ B,FG b m ((frs c v 5).getD i.toNat z)=(B,([by8 i,by8 v]:List UInt8),0))∧OpenP q (FG b m ((frs c v 5).getD i.toNat z)).1 (g.set i.toNat true):=by
  obtain ⟨k,rfl⟩:∃ k:Nat,i=((k:Nat):Int):=⟨i.toNat,by omega⟩
  have hk:k < 5:=by omega
  rw [Int.toNat_natCast,Up c v hk]
  refine ⟨fun hg=>(La h o hk hg hm v).1,fun hg=>⟨_,(LM h o hk hg hm v).1⟩,?_⟩
  cases hg:g.getD k false
  · rw [(LM h o hk hg hm v).1];exact (LM h o hk hg hm v).2
  · rw [(La h o hk hg hm v).1];exact (La h o hk hg hm v).2
end e
end Go.Proofs.YtacoceibbheccaaGreat.K
