import Derived.Test.YtacoceibbheccaaGreatCame
namespace Go.Proofs.YtacoceibbheccaaGreat.K
open Go.RowKit Go.ChangeShapes Go.WideShapes
set_option linter.unusedVariables false
abbrev Ads:=List (Option Addr×Nat)
abbrev El (α:Type):=α×Ads
def Dk (l:Ads) (j:Nat):Option Addr×Nat:=l.getD j (none,0)
structure LTy (α:Type) where
  E:TypeId
  Eb:TypeId
  sz:Nat
  enc:El α→List Value
  bs:α→List (List UInt8)
  len:∀ e,(enc e).length=sz
  one:∀ e,∀ u ∈ enc e,u.oneCell'=true
  pos:0 < sz
  ne:E ≠ Eb
def tx (w:World) (M:Nat):Ads→List (List UInt8)→Prop
  | [],[]=>True
  | p :: l,b :: bs=>(Rd w 1 (.slice p.1 b.length p.2) b.length (b.map bV)∧b.length≤M)∧tx w M l bs
  | _,_=>False
def sH (w:World) (lo:Nat) (E:TypeId) (M:Nat):Ads→List (List UInt8)→Prop
  | [],[]=>True
  | p :: l,b :: bs=>(w.ownsRow lo E 1 (.slice p.1 b.length p.2) b.length (b.map bV)∧b.length≤M)∧sH w lo E M l bs
  | _,_=>False
section sub
variable {S : Nat → Prop} {w w' : World} {M lo : Nat} {E : TypeId}
theorem tx.ch (hc:Ch S w w'):∀ {l:Ads} {bs:List (List UInt8)},tx w M l bs→(∀ p ∈ l,∀ z,p.1=some z→z.block < w.heap.size→¬ S z.block)→tx w' M l bs
  | [],[],_,_=>trivial
  | p :: l,b :: bs,h,hs=>⟨⟨h.1.1.ch hc fun g hg hlt=>by
      rcases hp:p.1 with _|z
      · rw [hp] at hg;cases hg
      · rw [hp] at hg
        have:z.block=g:=by simpa [Value.ownBlock] using hg
        subst this
        exact hs p List.mem_cons_self z hp hlt,h.1.2⟩,tx.ch hc h.2 fun q hq=>hs q (List.mem_cons_of_mem _ hq)⟩
  | [],_ :: _,h,_=>h.elim
  | _ :: _,[],h,_=>h.elim
theorem tx.kp (hc:Keep w w') {l:Ads} {bs:List (List UInt8)} (h:tx w M l bs):tx w' M l bs:=tx.ch hc h fun _ _ _ _ _=>id
theorem sH.ch (hc:Ch S w w'):∀ {l:Ads} {bs:List (List UInt8)},sH w lo E M l bs→(∀ p (b:List UInt8),p ∈ l→w.ownsRow lo E 1 (.slice p.1 b.length p.2) b.length (b.map bV)→∀ g,(Value.slice p.1 b.length p.2).ownBlock=some g→¬ S g)→sH w' lo E M l bs
  | [],[],_,_=>trivial
  | p :: l,b :: bs,h,hs=>⟨⟨gc h.1.1 hc fun g hg _=>hs p b List.mem_cons_self h.1.1 g hg,h.1.2⟩,sH.ch hc h.2 fun q b hq=>hs q b (List.mem_cons_of_mem _ hq)⟩
  | [],_ :: _,h,_=>h.elim
  | _ :: _,[],h,_=>h.elim
theorem AC {lo1 lo2 s1 s2 n1 n2 g:Nat} {E1 E2:TypeId} {v1 v2:Value} {x1 x2:List Value} (h1:w.ownsRow lo1 E1 s1 v1 n1 x1) (h2:w.ownsRow lo2 E2 s2 v2 n2 x2) (hne:E1 ≠ E2) (g1:v1.ownBlock=some g) (g2:v2.ownBlock=some g):False:=by
  rcases h1.2 with ⟨rfl,_⟩|⟨k1,_,_,rfl,_,q1,_⟩
  · cases g1
  · rcases h2.2 with ⟨rfl,_⟩|⟨k2,_,_,rfl,_,q2,_⟩
    · cases g2
    · have e1:k1=g:=by simpa [Value.ownBlock] using g1
      have e2:k2=g:=by simpa [Value.ownBlock] using g2
      rw [e1] at q1
      rw [e2,q1] at q2
      injection q2 with q2
      injection q2 with _ q2 _
      exact hne q2
theorem sH.rd:∀ {l:Ads} {bs:List (List UInt8)},sH w lo E M l bs→tx w M l bs
  | [],[],_=>trivial
  | p :: l,b :: bs,h=>⟨⟨Rd.of_own h.1.1,h.1.2⟩,sH.rd h.2⟩
  | [],_ :: _,h=>h.elim
  | _ :: _,[],h=>h.elim
theorem sH.lt:∀ {l:Ads} {bs:List (List UInt8)},sH w lo E M l bs→∀ p ∈ l,∀ z,p.1=some z→lo≤z.block∧z.block < w.heap.size
  | [],[],_,p,hp,_,_=>by cases hp
  | q :: l,b :: bs,h,p,hp,z,hz=>by
    rcases List.mem_cons.1 hp with rfl|hp
    · exact nb h.1.1 z.block (by rw [hz];rfl)
    · exact sH.lt h.2 p hp z hz
  | [],_ :: _,h,_,_,_,_=>h.elim
  | _ :: _,[],h,_,_,_,_=>h.elim
theorem tx.c {l:Ads} {b:List UInt8} {bs:List (List UInt8)} (h:tx w M l (b :: bs)):∃ a c r,l=(a,c) :: r∧Rd w 1 (.slice a b.length c) b.length (b.map bV)∧b.length≤M∧tx w M r bs:=by
  rcases l with _|⟨⟨a,c⟩,r⟩
  · exact h.elim
  · exact ⟨a,c,r,rfl,h.1.1,h.1.2,h.2⟩
theorem tx.n {l:Ads} (h:tx w M l []):l=[]:=by
  rcases l with _|⟨p,r⟩
  · rfl
  · exact h.elim
theorem sH.c {l:Ads} {b:List UInt8} {bs:List (List UInt8)} (h:sH w lo E M l (b :: bs)):∃ a c r,l=(a,c) :: r∧w.ownsRow lo E 1 (.slice a b.length c) b.length (b.map bV)∧b.length≤M∧sH w lo E M r bs:=by
  rcases l with _|⟨⟨a,c⟩,r⟩
  · exact h.elim
  · exact ⟨a,c,r,rfl,h.1.1,h.1.2,h.2⟩
theorem sH.n {l:Ads} (h:sH w lo E M l []):l=[]:=by
  rcases l with _|⟨p,r⟩
  · rfl
  · exact h.elim
end sub
def Hi (hi:Nat) (l:Ads):Prop:=∀ p ∈ l,∀ z,p.1=some z→z.block < hi
theorem zf {l:Ads}:Aps l↔l.Pairwise Ap:=by
  induction l with
  | nil=>simp [Aps]
  | cons a l ih =>
    have:∀ m,zq a m↔∀ b ∈ m,Ap a b:=fun m=>by
      induction m with
      | nil=>simp [zq]
      | cons b m ih=>simp [zq,ih]
    simp [Aps,List.pairwise_cons,ih,this]
def RLv {α:Type} (L:LTy α) (w:World) (M:Nat) (a:Option Addr) (n c:Nat) (x:List α):Prop :=
  ∃ y:List (El α),y.map Prod.fst=x∧x.length=n∧Rd w L.sz (.slice a n c) n (y.flatMap L.enc)∧(∀ e ∈ y,tx w M e.2 (L.bs e.1))∧n≤M
def OLv {α:Type} (L:LTy α) (w:World) (lo hi:Nat) (a:Option Addr) (n c:Nat) (x:List α):Prop :=
  ∃ y:List (El α),y.map Prod.fst=x∧x.length=n∧w.ownsRow lo L.E L.sz (.slice a n c) n (y.flatMap L.enc)∧(∀ e ∈ y,sH w lo L.Eb 1073741824 e.2 (L.bs e.1)) ∧
    Aps ((a,c) :: y.flatMap Prod.snd)∧Hi hi ((a,c) :: y.flatMap Prod.snd)∧n≤1073741824
section lv
variable {S : Nat → Prop} {w w' : World} {M lo hi : Nat} {α : Type} {L : LTy α} {a : Option Addr} {n c : Nat} {x : List α}
theorem RLv.nil (w:World) (M:Nat) (L:LTy α):RLv L w M none 0 0 []:=⟨[],rfl,rfl,Rd.nil _ _,(fun e h=>by cases h),Nat.zero_le _⟩
theorem OLv.nil (w:World) (lo hi:Nat) (L:LTy α):OLv L w lo hi none 0 0 []:=by
  refine ⟨[],rfl,rfl,nM _ _ _ _,fun e h=>by (cases h),⟨trivial,trivial⟩,fun p hp z hz=>?_,Nat.zero_le _⟩
  have:p=(none,0):=by simpa using hp
  subst this
  cases hz
theorem OLv.nn (h:OLv L w lo hi a n c x):n=x.length:=by obtain ⟨_,_,h,_⟩:=h;exact h.symm
theorem OLv.len (h:OLv L w lo hi a n c x):OLv L w lo hi a x.length c x:=by rw [← h.nn];exact h
theorem RLv.from0 (h:RLv L w M a n c x) (hc:Ch (fun k=>w.heap.size≤k) w w'):RLv L w' M a n c x:=by
  obtain ⟨y,hy,hn,hr,hs,hl⟩:=h
  exact ⟨y,hy,hn,hr.from0 hc,fun e he=>tx.ch hc (hs e he) fun p _ z _ hlt=>by omega,hl⟩
theorem RLv.kp (h:RLv L w M a n c x) (hc:Keep w w'):RLv L w' M a n c x:=by
  obtain ⟨y,hy,hn,hr,hs,hl⟩:=h
  exact ⟨y,hy,hn,hr.kp hc,fun e he=>tx.kp hc (hs e he),hl⟩
theorem OLv.ch (h:OLv L w lo hi a n c x) (hc:Ch S w w') (hs:∀ g,lo≤g→g < hi→¬ S g):OLv L w' lo hi a n c x:=by
  obtain ⟨y,hy,hn,hr,hsub,hap,hhi,hl⟩:=h
  have key:∀ (p:Option Addr×Nat) (m g:Nat),p ∈ (a,c) :: y.flatMap Prod.snd→(Value.slice p.1 m p.2).ownBlock=some g→lo≤g→¬ S g:=fun p m g hp hg h1=>by
    rcases hq:p.1 with _|z
    · rw [hq] at hg;cases hg
    · rw [hq] at hg
      have:z.block=g:=by simpa [Value.ownBlock] using hg
      subst this
      exact hs _ h1 (hhi p hp z hq)
  exact ⟨y,hy,hn,gc hr hc fun g hg _=>key (a,c) _ g List.mem_cons_self hg (nb hr g hg).1,
    fun e he=>sH.ch hc (hsub e he) fun p b hp ho g hg=>key p _ g (List.mem_cons_of_mem _ (List.mem_flatMap.2 ⟨e,he,hp⟩)) hg (nb ho g hg).1,hap,hhi,hl⟩
theorem OLv.kp (h:OLv L w lo hi a n c x) (hc:Keep w w'):OLv L w' lo hi a n c x:=h.ch hc fun _ _ _=>id
theorem OLv.now (h:OLv L w lo hi a n c x):OLv L w lo w.heap.size a n c x:=by
  obtain ⟨y,hy,hn,hr,hsub,hap,hhi,r⟩:=h
  refine ⟨y,hy,hn,hr,hsub,hap,fun p hp z hz=>?_,r⟩
  rcases List.mem_cons.1 hp with rfl|hp
  · exact (nb hr z.block (by rw [show a=some z from hz];rfl)).2
  · obtain ⟨e,he,hp⟩:=List.mem_flatMap.1 hp
    exact ((hsub e he).lt p hp z hz).2
def wc (L:LTy α) (w:World) (M:Nat):List (El α)→Prop
  | []=>True
  | e :: y=>tx w M e.2 (L.bs e.1)∧wc L w M y
theorem wc.each:∀ {y:List (El α)},wc L w M y→∀ e ∈ y,tx w M e.2 (L.bs e.1)
  | [],_,e,he=>by cases he
  | q :: y,h,e,he=>by
    rcases List.mem_cons.1 he with rfl|he
    · exact h.1
    · exact wc.each h.2 e he
theorem RLv.mk {n:Nat} (y:List (El α)) (hr:Rd w L.sz (.slice a n c) n (y.flatMap L.enc)) (hn:(y.map Prod.fst).length=n) (hs:wc L w M y) (hl:n≤M):RLv L w M a n c (y.map Prod.fst):=⟨y,rfl,hn,hr,hs.each,hl⟩
theorem RLv.row (h:RLv L w M a n c x):∃ ys,Rd w L.sz (.slice a n c) n ys:=by
  obtain ⟨y,hy,hn,hr,_⟩:=h
  exact ⟨_,hr⟩
theorem RLv.el (z:α) {i:Nat} (h:RLv L w M a n c x) (hi:i < n):∃ ys l,Rd w L.sz (.slice a n c) n ys∧(ys.drop (i*L.sz)).take L.sz=L.enc (x.getD i z,l)∧tx w M l (L.bs (x.getD i z)):=by
  obtain ⟨y,rfl,hn,hr,hs,hl⟩:=h
  have hi':i < y.length:=by rw [List.length_map] at hn;omega
  refine ⟨_,y[i].2,hr,?_,?_⟩
  · rw [vv L.len (z,[]) rfl hi']
    simp [hi']
  · have:=hs y[i] (List.getElem_mem hi')
    simpa [hi'] using this
theorem OLv.el (z:α) {i:Nat} (h:OLv L w lo hi a n c x) (hi:i < n):∃ ys l,Rd w L.sz (.slice a n c) n ys∧(ys.drop (i*L.sz)).take L.sz=L.enc (x.getD i z,l)∧sH w lo L.Eb 1073741824 l (L.bs (x.getD i z)):=by
  obtain ⟨y,rfl,hn,hr,hs,hl⟩:=h
  have hi':i < y.length:=by rw [List.length_map] at hn;omega
  refine ⟨_,y[i].2,Rd.of_own hr,?_,?_⟩
  · rw [vv L.len (z,[]) rfl hi']
    simp [hi']
  · have:=hs y[i] (List.getElem_mem hi')
    simpa [hi'] using this
theorem Cg {ys us:List Value} {i off sz j:Nat} (h:(ys.drop (i*sz)).take sz=us) (hj:j=i*sz+off) (hn:off < sz):ys[j]?=us[off]?:=by
  subst hj
  rw [← h,List.getElem?_take,if_pos hn,List.getElem?_drop]
theorem sH.own {w:World} {lo M:Nat} {E:TypeId}:∀ {l:Ads} {bs:List (List UInt8)},sH w lo E M l bs→∀ p ∈ l,∃ b:List UInt8,w.ownsRow lo E 1 (.slice p.1 b.length p.2) b.length (b.map bV)
  | [],[],_,p,hp=>by cases hp
  | q :: l,b :: bs,h,p,hp=>by
    rcases List.mem_cons.1 hp with rfl|hp
    · exact ⟨b,h.1.1⟩
    · exact sH.own h.2 p hp
  | [],_ :: _,h,_,_=>h.elim
  | _ :: _,[],h,_,_=>h.elim
end lv
section ops
variable {P : Program} {ops : Array Oper} {Q : Exit → Act → World → Prop} {n : Nat} {e : Env} {w : World} {o : Oper} {rest : List Oper} {T bytes lo hi lo2 : Nat} {z v2 : Value} {α : Type} {L : LTy α} {a : Option Addr} {m c : Nat} {xs : List α} {el : α} {l : Ads}
end ops
def tX (a:Option Addr) (c lo sz:Nat):Option Addr:=if c=lo then a else a.map (·.add (lo*sz))
theorem CM (a:Option Addr) (c sz:Nat):tX a c 0 sz=a:=by
  unfold tX
  split
  · rfl
  · cases a with
    | none=>rfl
    | some z=>rw [Nat.zero_mul];simp [Addr.add]
theorem Rd.sub {w:World} {sz m lo hi:Nat} {a:Option Addr} {c:Nat} {xs:List Value} (h:Rd w sz (.slice a m c) m xs) (h1:lo≤hi) (h2:hi≤m):Rd w sz (.slice (tX a c lo sz) (hi - lo) (c - lo)) (hi - lo) ((xs.drop (lo*sz)).take ((hi - lo)*sz)):=by
  obtain ⟨A,c',hv,h3,h4,h5,h6⟩:=h
  injection hv with hv1 _ hv3
  subst hv1;subst hv3
  refine ⟨_,c - lo,rfl,by omega,by omega,?_,fun hp=>?_⟩
  · simp only [List.length_take,List.length_drop,h5]
    have:(hi - lo)*sz≤m*sz - lo*sz:=by rw [← Nat.sub_mul];exact Nat.mul_le_mul_right _ (by omega)
    omega
  · obtain ⟨ad,rfl,hc⟩:=h6 (by omega)
    refine ⟨ad.add (lo*sz),by rw [tX,if_neg (by omega)];rfl,fun j u hu=>?_⟩
    rw [xO]
    refine hc _ u ?_
    rw [List.getElem?_take] at hu
    split at hu
    · simpa using hu
    · cases hu
theorem Rd.subV {α:Type} {f:α→Value} {w:World} {lo hi:Nat} {a:Option Addr} {c:Nat} {x x':List α} (h:Rd w 1 (.slice a x.length c) x.length (x.map f)) (h1:lo≤hi) (h2:hi≤x.length) (hx:x'=(x.drop lo).take (hi - lo)) :
    Rd w 1 (.slice (tX a c lo 1) x'.length (c - lo)) x'.length (x'.map f):=by
  have hl:x'.length=hi - lo:=by rw [hx];simp;omega
  have:=h.sub h1 h2
  rw [hl,hx,List.map_take,List.map_drop]
  simpa using this
theorem RLv.sub {α:Type} {L:LTy α} {w:World} {M n lo hi:Nat} {a:Option Addr} {c:Nat} {x x':List α} (h:RLv L w M a n c x) (h1:lo≤hi) (h2:hi≤n) (hx:x'=(x.drop lo).take (hi - lo)) :
    RLv L w M (tX a c lo L.sz) (hi - lo) (c - lo) x':=by
  obtain ⟨y,rfl,hn,hr,hs,hl⟩:=h
  have hlen:x'.length=hi - lo:=by rw [hx];simp at hn ⊢;omega
  refine ⟨(y.drop lo).take (hi - lo),by rw [hx,List.map_take,List.map_drop],hlen,?_,fun e he=>hs e (List.mem_of_mem_drop (List.mem_of_mem_take he)),by omega⟩
  rw [← yo L.len,← tD L.len]
  exact hr.sub h1 h2
section ops
variable {P : Program} {ops : Array Oper} {Q : Exit → Act → World → Prop} {n : Nat} {e : Env} {w : World} {o : Oper} {rest : List Oper} {T E bytes : Nat} {z : Value} {α : Type} {f : α → Value} {a : Option Addr} {c : Nat}
theorem slv {x:List α} (x':List α) (lo hi:Nat) (hw:pH n ops o e) (hT:SlTy P T E 1 bytes z) (hr:Rd w 1 (.slice a x.length c) x.length (x.map f)) (h1:lo≤hi) (h2:hi≤x.length) (hx':x'=(x.drop lo).take (hi - lo)) {d:Nat} {xo:Operand} {l h:Option Operand} (hd:o.dst=some d) (hdn:Nat.blt d n=true) (ho:o.op=.slice T xo l h none) (hx:ev e xo=.slice a x.length c)
    (hl:(l=none∧lo=0)∨∃ y k i,l=some y∧ev e y=.int k i∧i=(lo:Int)) (hh:(h=none∧hi=x.length)∨∃ y k i,h=some y∧ev e y=.int k i∧i=(hi:Int))
    (hk:WL P ops Q rest n (upd e d (.slice (tX a c lo 1) x'.length (c - lo))) w):WL P ops Q (o :: rest) n e w:=by
  have hlen:x'.length=hi - lo:=by rw [hx'];simp;omega
  obtain ⟨A,c0,hv,h3,h4,h5,h6⟩:=hr
  injection hv with hv1 _ hv3
  subst hv1;subst hv3
  obtain ⟨i0,hi0,hz,hs,hb⟩:=hT.info
  refine oQ hw hd hdn ?_ hk
  rw [hlen]
  have hcl:(lo:Int)≤(hi:Int):=by omega
  have hch:(hi:Int)≤(c:Int):=by omega
  have hlm:(lo:Int)≤(x.length:Int):=by omega
  have n1:¬ c < hi:=by omega
  have n2:¬ hi < lo:=by omega
  have n3:¬ x.length < lo:=by omega
  unfold execOp
  rcases hl with ⟨rfl,rfl⟩|⟨y,k,i,rfl,hy,rfl⟩ <;> rcases hh with ⟨rfl,rfl⟩|⟨y',k',i',rfl,hy',rfl⟩ <;>
    simp [tX,Instr.sliceAt,Instr.slice,Instr.sliceBounds,Instr.sliceBound,asIntOf,run_underlying hT.under,sizeOf,typeInfo,go_sem, *]
end ops
section suba
variable {S : Nat → Prop} {w w' : World} {lo hi n c : Nat} {α : Type} {L : LTy α} {a : Option Addr} {x : List α}
def zv (L:LTy α) (w:World) (lo:Nat) (y:List (El α)):Prop:=∀ e ∈ y,sH w lo L.Eb 1073741824 e.2 (L.bs e.1)
theorem OLv.op (h:OLv L w lo hi a n c x):∃ y:List (El α),y.map Prod.fst=x∧y.length=n∧w.ownsRow lo L.E L.sz (.slice a n c) n (y.flatMap L.enc)∧zv L w lo y∧Aps ((a,c) :: y.flatMap Prod.snd)∧Hi hi ((a,c) :: y.flatMap Prod.snd)∧n≤1073741824:=by
  obtain ⟨y,hy,hn,hr,hs,hap,hhi,hl⟩:=h
  exact ⟨y,hy,by rw [← hn,← hy];simp,hr,hs,hap,hhi,hl⟩
theorem zv.ch {p:Option Addr×Nat} {y:List (El α)} (h:zv L w lo y) (hh:Hi hi (p :: y.flatMap Prod.snd)) (hc:Ch S w w') (hs:∀ g,lo≤g→g < hi→¬ S g):zv L w' lo y:=fun e he =>
  sH.ch hc (h e he) fun p b hp ho g hg=>by
    rcases hq:p.1 with _|z
    · rw [hq] at hg;cases hg
    · have hz:=(nb ho g hg).1
      rw [hq] at hg
      have:z.block=g:=by simpa [Value.ownBlock] using hg
      subst this
      exact hs _ hz (hh p (List.mem_cons_of_mem _ (List.mem_flatMap.2 ⟨e,he,hp⟩)) z hq)
theorem zv.kp {y:List (El α)} (h:zv L w lo y) (hc:Keep w w'):zv L w' lo y:=fun e he=>sH.ch hc (h e he) fun _ _ _ _ _ _=>id
theorem zv.row {y:List (El α)} {lo' sz m:Nat} {v:Value} {xs:List Value} (h:zv L w lo y) (hr:w.ownsRow lo' L.E sz v m xs) (hc:Ch (fun k=>v.ownBlock=some k) w w'):zv L w' lo y:=fun e he =>
  sH.ch hc (h e he) fun p b hp ho g hg hg2=>AC hr ho L.ne hg2 hg
theorem zK {E:TypeId} {sz i:Nat} {xs:List Value} (h:w.ownsRow lo E sz (.slice a n c) n xs) (hi:i≤n):w.ownsRow lo E sz (.slice a i c) i (xs.take (i*sz)):=by
  obtain ⟨hl,h⟩:=h
  refine ⟨by rw [List.length_take,hl];exact Nat.min_eq_left (Nat.mul_le_mul_right _ hi),?_⟩
  rcases h with ⟨hv,rfl⟩|⟨g,cap,cur,hv,hb,hg,hn,hm,hsz,htk⟩
  · injection hv with h1 h2 h3
    subst h1 h3
    obtain rfl:i=0:=by omega
    exact .inl ⟨rfl,rfl⟩
  · injection hv with h1 h2 h3
    subst h1 h3
    refine .inr ⟨g,c,cur,rfl,hb,hg,by omega,hm,hsz,?_⟩
    rw [← htk,List.take_take,Nat.min_eq_left (Nat.mul_le_mul_right _ hi)]
end suba
end Go.Proofs.YtacoceibbheccaaGreat.K
