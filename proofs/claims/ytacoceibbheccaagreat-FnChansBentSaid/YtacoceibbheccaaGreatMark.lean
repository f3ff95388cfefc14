import Derived.Test.YtacoceibbheccaaGreatDraw
namespace Go.Proofs.YtacoceibbheccaaGreat.K
open Go.RowKit Go.ChangeShapes Go.WideShapes
set_option linter.unusedVariables false
def W1 (w:World) (E:TypeId) (p:Option Addr×Nat) (b:List UInt8):Prop:=Wp w E p.1 b.length p.2 (b.map bV)∧Rd w 1 (.slice p.1 b.length p.2) b.length (b.map bV)∧b.length≤1073741824
def tW (w:World) (E:TypeId):Ads→List (List UInt8)→Prop
  | [],[]=>True
  | p :: l,b :: bs=>W1 w E p b∧tW w E l bs
  | _,_=>False
section w1
variable {w w' : World} {E Eb : TypeId} {lo sz n m : Nat} {v : Value} {xs : List Value} {p q : Option Addr × Nat} {b : List UInt8}
theorem rd0 {sz c:Nat} {a:Option Addr} (hc:0≤c) (hm:c≤maxLen) (w:World):Rd w sz (.slice a 0 c) 0 []:=⟨a,c,rfl,hc,hm,by simp,fun h=>absurd h (by omega)⟩
theorem W1.row (h:W1 w Eb p b) (hr:w.ownsRow lo E sz v n xs) (hne:E ≠ Eb) (hc:Ch (fun k=>v.ownBlock=some k) w w'):W1 w' Eb p b:=by
  obtain ⟨h1,h2,h3⟩:=h
  have hs:0 < b.length→∀ x,p.1=some x→x.block < w.heap.size→¬ v.ownBlock=some x.block:=fun hn x hx _ hv=>by
    rcases h1 with h1|⟨lo',h1⟩
    · omega
    · exact AC hr h1 hne hv (by rw [hx];rfl)
  refine ⟨h1.ch hc hs,?_,h3⟩
  rcases Nat.eq_zero_or_pos b.length with h0|h0
  · have:b=[]:=List.eq_nil_of_length_eq_zero h0
    subst this
    obtain ⟨A,c,hv,q1,q2,_⟩:=h2
    injection hv with _ _ hv
    exact rd0 (Nat.zero_le _) (by rw [hv];exact q2) w'
  · refine h2.ch hc fun g hg hlt=>?_
    rcases hp:p.1 with _|z
    · rw [hp] at hg;cases hg
    · rw [hp] at hg
      have:z.block=g:=by simpa [Value.ownBlock] using hg
      subst this
      exact hs h0 z hp hlt
theorem W1.ms (h:W1 w Eb p b) (hap:Ap q p) (hm:m≤q.2) (hc:Ch (MS [(q.1,m)]) w w'):W1 w' Eb p b:=by
  obtain ⟨h1,h2,h3⟩:=h
  have hl:[(q.1,m)]=([(q.1,m,q.2)]:List (Option Addr×Nat×Nat)).map fun p=>(p.1,p.2.1):=rfl
  have ha:∀ r ∈ [(q.1,m,q.2)],r.2.1≤r.2.2∧Ap (r.1,r.2.2) (p.1,p.2):=fun r hr=>by
    obtain rfl:r=(q.1,m,q.2):=by simpa using hr
    exact ⟨hm,hap⟩
  exact ⟨h1.ms (AA h2) hl hc ha,h2.ms hl hc ha,h3⟩
theorem tW.rd:∀ {l:Ads} {bs:List (List UInt8)},tW w E l bs→tx w 1073741824 l bs
  | [],[],_=>trivial
  | p :: l,b :: bs,h=>⟨⟨h.1.2.1,h.1.2.2⟩,tW.rd h.2⟩
  | [],_ :: _,h=>h.elim
  | _ :: _,[],h=>h.elim
theorem tW.row (hr:w.ownsRow lo E sz v n xs) (hne:E ≠ Eb) (hc:Ch (fun k=>v.ownBlock=some k) w w'):∀ {l:Ads} {bs:List (List UInt8)},tW w Eb l bs→tW w' Eb l bs
  | [],[],_=>trivial
  | p :: l,b :: bs,h=>⟨h.1.row hr hne hc,tW.row hr hne hc h.2⟩
  | [],_ :: _,h=>h.elim
  | _ :: _,[],h=>h.elim
theorem tW.ms (hm:m≤q.2) (hc:Ch (MS [(q.1,m)]) w w'):∀ {l:Ads} {bs:List (List UInt8)},(∀ p ∈ l,Ap q p)→tW w Eb l bs→tW w' Eb l bs
  | [],[],_,_=>trivial
  | p :: l,b :: bs,hap,h=>⟨h.1.ms (hap p List.mem_cons_self) hm hc,tW.ms hm hc (fun r hr=>hap r (List.mem_cons_of_mem _ hr)) h.2⟩
  | [],_ :: _,_,h=>h.elim
  | _ :: _,[],_,h=>h.elim
theorem tW.c {l:Ads} {b:List UInt8} {bs:List (List UInt8)} (h:tW w E l (b :: bs)):∃ a c r,l=(a,c) :: r∧W1 w E (a,c) b∧tW w E r bs:=by
  rcases l with _|⟨⟨a,c⟩,r⟩
  · exact h.elim
  · exact ⟨a,c,r,rfl,h.1,h.2⟩
theorem tW.nn {l:Ads} (h:tW w E l []):l=[]:=by
  rcases l with _|⟨p,r⟩
  · rfl
  · exact h.elim
end w1
section mk
variable {α : Type} {L : LTy α} {mk : α → Int → α} {wt : α → Int} {w w' w0 : World} {lo hi n c : Nat} {a : Option Addr} {k : Int}
def um (mk:α→Int→α) (wt:α→Int):List α→Int→List α
  | [],_=>[]
  | x :: l,k=>mk x k :: um mk wt l (k+wt x)
theorem ul:∀ (l:List α) (k:Int),(um mk wt l k).length=l.length
  | [],_=>rfl
  | x :: l,k=>by simp [um,ul l]
def sR (mk:α→Int→α) (wt:α→Int):List (El α)→Int→List (El α)
  | [],_=>[]
  | e :: y,k=>(mk e.1 k,e.2) :: sR mk wt y (k+wt e.1)
theorem vA:∀ (y:List (El α)) (k:Int),(sR mk wt y k).length=y.length
  | [],_=>rfl
  | e :: y,k=>by simp [sR,vA y]
theorem vz:∀ (y:List (El α)) (k:Int),(sR mk wt y k).flatMap Prod.snd=y.flatMap Prod.snd
  | [],_=>rfl
  | e :: y,k=>by simp [sR,vz y]
theorem vB:∀ (y:List (El α)) (k:Int),(sR mk wt y k).map Prod.fst=um mk wt (y.map Prod.fst) k
  | [],_=>rfl
  | e :: y,k=>by simp [sR,um,vB y]
def De (w:World) (L:LTy α) (g:Nat):Prop:=∃ cur E,w.heap[g]?=some (.cells cur E (0,0))∧(E=L.E∨E=L.Eb)
def Dd (L:LTy α) (w:World) (lo hi:Nat):Nat→Prop:=fun b=>lo≤b∧b < hi∧De w L b
structure MkI (L:LTy α) (mk:α→Int→α) (wt:α→Int) (w0:World) (lo hi:Nat) (a:Option Addr) (n c:Nat) (y:List (El α)) (k:Int) (i:Nat) (w:World):Prop where
  row:w.ownsRow lo L.E L.sz (.slice a n c) n ((sR mk wt (y.take i) k++y.drop i).flatMap L.enc)
  sub:∀ e ∈ sR mk wt (y.take i) k++y.drop i,tW w L.Eb e.2 (L.bs e.1)
  ch:Ch (Dd L w0 lo hi) w0 w
structure MkC (L:LTy α) (w0:World) (lo hi:Nat) (a:Option Addr) (n c:Nat) (y:List (El α)):Prop where
  len:y.length=n
  aps:Aps (y.flatMap Prod.snd)
  bd:∀ p ∈ (a,c) :: y.flatMap Prod.snd,∀ z,p.1=some z→Dd L w0 lo hi z.block
def Rst (L:LTy α) (w:World) (r:List (El α)):Prop:=∀ e ∈ r,tW w L.Eb e.2 (L.bs e.1)
theorem Rst.row {r:List (El α)} {lo sz n:Nat} {v:Value} {xs:List Value} (h:Rst L w r) (hr:w.ownsRow lo L.E sz v n xs) (hc:Ch (fun k=>v.ownBlock=some k) w w'):Rst L w' r:=fun e he=>tW.row hr L.ne hc (h e he)
theorem Rst.ms {r:List (El α)} {m:Nat} {q:Option Addr×Nat} (h:Rst L w r) (hap:∀ p ∈ r.flatMap Prod.snd,Ap q p) (hm:m≤q.2) (hc:Ch (MS [(q.1,m)]) w w'):Rst L w' r :=
  fun e he=>tW.ms hm hc (fun p hp=>hap p (List.mem_flatMap.2 ⟨e,he,hp⟩)) (h e he)
theorem MkI.open (z:α) {y:List (El α)} {i:Nat} (h:MkI L mk wt w0 lo hi a n c y k i w) (hC:MkC L w0 lo hi a n c y) (hin:i < n):∃ (x:α) (l:Ads),(y.map Prod.fst).getD i z=x∧(sR mk wt (y.take i) k++y.drop i).getD i (z,[])=(x,l) ∧
    tW w L.Eb l (L.bs x)∧Rst L w (sR mk wt (y.take i) k++y.drop (i+1))∧Aps l∧(∀ q ∈ l,∀ p ∈ (sR mk wt (y.take i) k++y.drop (i+1)).flatMap Prod.snd,Ap q p)∧(∀ p ∈ l,∀ z,p.1=some z→Dd L w0 lo hi z.block):=by
  have hi':i < y.length:=by rw [hC.len];exact hin
  have hd:y.drop i=y[i] :: y.drop (i+1):=List.drop_eq_getElem_cons hi'
  have hsp:y=y.take i++y[i] :: y.drop (i+1):=by rw [← hd,List.take_append_drop]
  have hlen:(sR mk wt (y.take i) k).length=i:=by rw [vA,List.length_take];omega
  have hap:=hC.aps
  rw [hsp,List.flatMap_append,List.flatMap_cons,zf,List.pairwise_append,List.pairwise_append] at hap
  refine ⟨y[i].1,y[i].2,by simp [List.getElem?_eq_getElem hi'],?_,?_,fun e he=>?_,?_,fun q hq p hp=>?_,fun p hp=>?_⟩
  · rw [List.getD_eq_getElem?_getD,List.getElem?_append_right (by omega),hlen,Nat.sub_self,hd]
    rfl
  · exact h.sub y[i] (List.mem_append_right _ (by rw [hd];exact List.mem_cons_self))
  · refine h.sub e ?_
    rw [hd]
    rcases List.mem_append.1 he with he|he
    · exact List.mem_append_left _ he
    · exact List.mem_append_right _ (List.mem_cons_of_mem _ he)
  · rw [zf];exact hap.2.1.1
  · rw [List.flatMap_append,vz] at hp
    rcases List.mem_append.1 hp with hp|hp
    · exact (hap.2.2 p hp q (List.mem_append_left _ hq)).symm
    · exact hap.2.1.2.2 q hq p hp
  · refine hC.bd p (List.mem_cons_of_mem _ (List.mem_flatMap.2 ⟨y[i],List.getElem_mem hi',hp⟩))
theorem MkI.done {y:List (El α)} {x:List α} (h:MkI L mk wt w0 lo hi a n c y k n w) (hC:MkC L w0 lo hi a n c y) (hy:y.map Prod.fst=x) (hn:x.length=n) (hl:n≤1073741824):RLv L w 1073741824 a n c (um mk wt x k):=by
  have e1:y.take n=y:=List.take_of_length_le (by rw [hC.len];omega)
  have e2:y.drop n=[]:=List.drop_eq_nil_of_le (by rw [hC.len];omega)
  have hr:=h.row
  have hs:=h.sub
  rw [e1,e2,List.append_nil] at hr hs
  exact ⟨_,by rw [vB,hy],by rw [ul,hn],Rd.of_own hr,fun e he=>(hs e he).rd,hl⟩
def RLk {α:Type} (L:LTy α) (w:World) (lo hi:Nat) (a:Option Addr) (n c:Nat) (x:List α):Prop:=∀ (S:Nat→Prop) (w':World),Ch S w w'→(∀ g,lo≤g→g < hi→¬ S g)→RLv L w' 1073741824 a n c x
theorem RLk.ch {α:Type} {L:LTy α} {w w1:World} {lo hi:Nat} {a:Option Addr} {n c:Nat} {x:List α} {S:Nat→Prop} (h:RLk L w lo hi a n c x) (hc:Ch S w w1) (hs:∀ g,lo≤g→g < hi→¬ S g):RLk L w1 lo hi a n c x :=
  fun S' w' hc' hs'=>h (fun g=>S g∨S' g) w' ((hc.mono fun _ _=>.inl).comp hc' fun _ _=>.inr) fun g h1 h2 hg=>hg.elim (hs g h1 h2) (hs' g h1 h2)
theorem RLk.kp {α:Type} {L:LTy α} {w w1:World} {lo hi:Nat} {a:Option Addr} {n c:Nat} {x:List α} (h:RLk L w lo hi a n c x) (hc:Keep w w1):RLk L w1 lo hi a n c x:=h.ch hc fun _ _ _=>id
theorem sH.bs {M:Nat} {E:TypeId}:∀ {l:Ads} {bs:List (List UInt8)},sH w lo E M l bs→∀ b ∈ bs,b.length≤M
  | [],[],_,b,hb=>by cases hb
  | p :: l,q :: bs,h,b,hb=>by
    rcases List.mem_cons.1 hb with rfl|hb
    · exact h.1.2
    · exact sH.bs h.2 b hb
  | [],_ :: _,h,_,_=>h.elim
  | _ :: _,[],h,_,_=>h.elim
theorem OLv.bs {x:List α} (h:OLv L w lo hi a n c x):∀ e ∈ x,∀ b ∈ L.bs e,b.length≤1073741824:=by
  obtain ⟨y,rfl,hn,hr,hs,_⟩:=h
  intro e he b hb
  obtain ⟨q,hq,rfl⟩:=List.mem_map.1 he
  exact (hs q hq).bs b hb
end mk
section rng
variable {S : Nat → Prop} {w w' : World} {a b : Nat}
end rng
end Go.Proofs.YtacoceibbheccaaGreat.K
