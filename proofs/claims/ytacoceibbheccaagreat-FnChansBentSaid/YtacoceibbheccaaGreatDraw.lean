import Derived.Test.YtacoceibbheccaaGreatList
namespace Go.Proofs.YtacoceibbheccaaGreat.K
open Go.RowKit Go.ChangeShapes Go.WideShapes
set_option linter.unusedVariables false
section drawT
variable {P : Program} {Q : Exit → Act → World → Prop} {n : Nat} {e : Env} {w : World}
abbrev TR:=List (Nat×(World→World→Prop))
def zt:TR→Nat→World→World→Prop
  | [],_=>Keep
  | (j,T) :: r,i=>match Nat.beq i j with|true=>T|false=>zt r i
def BB (T:World→World→Prop) (j:Nat):Nat→GV→Prop
  | _,[]=>True
  | i,(_,_,_,G) :: r=>(i=j∨∀ e v w w',G e v w→T w w'→G e v w')∧BB T j (i+1) r
def xm (Gs:GV):TR→Prop
  | []=>True
  | (j,T) :: r=>BB T j 0 Gs∧xm Gs r
abbrev LF:=Nat→Bool
def Aq (R:LF→World→Prop):TR→Prop
  | []=>True
  | (j,T) :: r=>(∀ lf lf' w w',R lf w→(∀ m,lf' m=false→lf m=false)→lf' j=true→T w w'→R lf' w')∧Aq R r
def AK (Gs:GV) (j:Nat):List Nat:=match Gs[j]? with|some p=>p.2.2.1|none=>[]
def NBp (Gs:GV) (lf:LF) (i:Nat):TR→Prop
  | []=>True
  | (j,_) :: r=>(((AK Gs j).elem i=false∧Nat.beq i j=false)∨lf j=false)∧NBp Gs lf i r
def QT (Q:Exit→Act→World→Prop) (n d:Nat) (G:Env→Value→World→Prop) (T:World→World→Prop) (w:World) (e:Env):Exit→Act→World→Prop :=
  Exit.then (fun a w'=>∃ v,Fits n (upd e d v) a∧G e v w'∧T w w') Q
def rP (Gs:GV):Nat→List Oper→Bool
  | _,[]=>true
  | i,o :: r=>(pp o).all (fun j=>Nat.blt j i) && (Nat.blt i Gs.length || (List.range i).all fun j=>(pp o).elem j || (pp o).any fun d=>(Nat.ble Gs.length d && Nat.blt j d) || (Nat.blt d Gs.length && (AK Gs d).elem j)) && rP Gs (i+1) r
theorem pc {Gs:GV}:∀ (l:List Oper) (i0:Nat),rP Gs i0 l=true→∀ (j:Nat) (o:Oper),l[j]?=some o→(∀ x ∈ pp o,x < i0+j) ∧
    (Gs.length≤i0+j→∀ x,x < i0+j→x ∈ pp o∨∃ d ∈ pp o,(Gs.length≤d∧x < d)∨(d < Gs.length∧x ∈ AK Gs d))
  | [],i0,_,j,o,h=>by simp at h
  | o0 :: r,i0,h,j,o,hj=>by
    simp only [rP,Bool.and_eq_true,Bool.or_eq_true] at h
    obtain ⟨⟨h1,h2⟩,h3⟩:=h
    cases j with
    | zero =>
      simp at hj
      subst hj
      refine ⟨fun x hx=>by simpa using List.all_eq_true.1 h1 x hx,fun hk x hx=>?_⟩
      rcases h2 with h2|h2
      · have:i0 < Gs.length:=by simpa using h2
        omega
      · rcases Bool.or_eq_true_iff.1 (List.all_eq_true.1 h2 x (List.mem_range.2 (by simpa using hx))) with h4|h4
        · exact .inl (List.mem_of_elem_eq_true h4)
        · obtain ⟨d,hd,h5⟩:=List.any_eq_true.1 h4
          refine .inr ⟨d,hd,?_⟩
          rcases Bool.or_eq_true_iff.1 h5 with h6|h6
          · rw [Bool.and_eq_true] at h6
            exact .inl ⟨by simpa using h6.1,by simpa using h6.2⟩
          · rw [Bool.and_eq_true] at h6
            exact .inr ⟨by simpa using h6.1,List.mem_of_elem_eq_true h6.2⟩
    | succ j =>
      have:=pc r (i0+1) h3 j o (by simpa using hj)
      rwa [show i0+1+j=i0+(j+1) by omega] at this
theorem xA {l:List Oper} {Gs:GV} {k:Nat} (hk0:k=Gs.length) (he:rP Gs 0 l=true) (hcl:∀ d,d < Gs.length→∀ x ∈ AK Gs d,x < d):∀ (fuel m:Nat) (listed:Array Bool) (a:Act) (w:World),k≤m→m≤l.length→l.length≤m+fuel→listed.size=l.length →
    (∀ i,i < l.length→listed.getD i false=decide (i < m))→wpList P l.toArray Q (l.drop m) a w→wpAny P .any l.toArray Q fuel listed a w:=by
  intro fuel
  induction fuel with
  | zero =>
    intro m listed a w hk hm hf hs hl h
    have:m=l.length:=by omega
    subst this
    refine ⟨List.eq_nil_iff_forall_not_mem.2 fun i hi=>?_,by simpa [wpList] using h⟩
    obtain ⟨h1,o,ho,-⟩:=py.1 hi
    have hi':i < l.length:=(List.getElem?_eq_some_iff.1 ho).1
    rw [pa (by omega) true false,hl i hi'] at h1
    simp [hi'] at h1
  | succ fuel ih =>
    intro m listed a w hk hm hf hs hl h
    have only:∀ i,i ∈ Region.ready .any l.toArray listed→i=m:=by
      intro i hi
      obtain ⟨h1,o,ho,hd⟩:=py.1 hi
      have hi':i < l.length:=(List.getElem?_eq_some_iff.1 ho).1
      rw [pa (by omega) true false,hl i hi'] at h1
      have hmi:m≤i:=by simpa using h1
      rcases Nat.lt_or_eq_of_le hmi with hlt|heq
      · exfalso
        have hm2:∀ x ∈ pp o,x < m:=fun x hx=>by
          have h7:=hd x hx
          have h8:=(pc l 0 he i o ho).1 x hx
          rw [hl x (by omega)] at h7
          simpa using h7
        rcases (pc l 0 he i o ho).2 (by omega) m (by omega) with h9|⟨d,hd9,h9⟩
        · have:=hm2 m h9;omega
        · have h10:=hm2 d hd9
          rcases h9 with h9|h9
          · omega
          · have:=hcl d h9.1 m h9.2;omega
      · exact heq.symm
    rcases Nat.lt_or_eq_of_le hm with hlt|heq
    · have hmem:m ∈ Region.ready .any l.toArray listed:=by
        refine py.2 ⟨by rw [pa (by omega) true false,hl m hlt];simp,l[m],List.getElem?_eq_getElem hlt,fun j hj=>?_⟩
        have:=(pc l 0 he m _ (List.getElem?_eq_getElem hlt)).1 j hj
        rw [hl j (by omega)]
        simpa using this
      refine ⟨(fun hn=>by rw [hn] at hmem;cases hmem),fun i hi=>?_⟩
      obtain rfl:=only i hi
      rw [List.drop_eq_getElem_cons hlt] at h
      unfold wpList at h
      have hnext:∀ a w,wpList P l.toArray Q (l.drop (i+1)) a w→wpAny P .any l.toArray Q fuel (listed.setIfInBounds i true) a w:=fun a w hh =>
        ih (i+1) _ a w (by omega) (by omega) (by omega) (by simpa using hs) (fun j hj=>by
          by_cases hji:j=i
          · subst hji;simp [Array.getD,hs,hj]
          · rw [getD_set_ne false (fun hh=>hji hh.symm),hl j hj]
            simp only [decide_eq_decide];omega) hh
      unfold wpOp
      simp only [List.getElem?_toArray,List.getElem?_eq_getElem hlt]
      split
      · rename_i hw;rw [if_pos hw] at h
        exact h.imp (Oper.wp_mono hnext) id
      · rename_i hw;rw [if_neg hw] at h
        exact hnext _ _ h
    · refine ⟨fun _=>by rw [heq] at h;simpa [wpList] using h,fun i hi=>?_⟩
      obtain rfl:=only i hi
      obtain ⟨h1,o,ho,-⟩:=py.1 hi
      have:=(List.getElem?_eq_some_iff.1 ho).1
      omega
def xl (P:Program) (ops:Array Oper) (Q:Exit→Act→World→Prop) (n:Nat) (R:LF→World→Prop) (Ts:TR) (e:Env) (Gs:GV):Nat→List Oper→GV→Prop
  | i,o :: r,(d,_,cl,G) :: gs=>(∀ lf w,R lf w→NBp Gs lf i Ts→AQ w (fun e'=>WL P ops (QT Q n d G (zt Ts i) w e') [o] n e' w) cl 0 Gs e)∧xl P ops Q n R Ts e Gs (i+1) r gs
  | _,_,_=>True
def rO (Gs:GV):List Nat→List Oper→GV→Bool
  | _,_,[]=>true
  | seen,o :: r,(d,ds,cl,_) :: gs=>!seen.elem d && (ds.all fun x=>cl.any fun j=>(Gs[j]?).any fun p=>Nat.beq p.1 x) &&
    (cl.all fun x=>(pp o).elem x || (pp o).any fun j=>(Gs[j]?).any fun p=>p.2.2.1.elem x) && rO Gs (d :: seen) r gs
  | _,[],_ :: _=>false
theorem nK {ops:Array Oper} {d:Nat} {G:Env→Value→World→Prop} {T:World→World→Prop} {v:Value} {w':World} (hk:T w w') (h:G e v w'):WL P ops (QT Q n d G T w e) [] n (upd e d v) w' :=
  fun a ha=>⟨v,ha,h,hk⟩
theorem ya {ops:Array Oper} {d:Nat} {G:Env→Value→World→Prop} {T:World→World→Prop} {w':World} (hd:Nat.ble n d=true) (hk:T w w') (h:G e undef w'):WL P ops (QT Q n d G T w e) [] n e w' :=
  fun a ha=>⟨undef,⟨ha.size,ha.defers,fun t=>by
    rw [qU]
    by_cases ht:t=d
    · subst ht
      have hd':n≤t:=by simpa using hd
      rw [if_pos rfl]
      simp [Array.getD,ha.size,show ¬ t < n by omega]
    · rw [if_neg ht];exact ha.get t⟩,h,hk⟩
theorem ui {R:LF→World→Prop} {Gs:GV} (hK:∀ lf lf' w w',R lf w→(∀ m,lf' m=false→lf m=false)→Keep w w'→R lf' w') (hst:wz Gs):∀ (Ts:TR),Aq R Ts→xm Gs Ts→∀ i:Nat,
    (∀ lf lf' w w',R lf w→(∀ m,lf' m=false→lf m=false)→lf' i=true→zt Ts i w w'→R lf' w')∧(∀ (j d:Nat) (ds cl:List Nat) (G:Env→Value→World→Prop),Gs[j]?=some (d,ds,cl,G)→j ≠ i→∀ e v w w',G e v w→zt Ts i w w'→G e v w')
  | [],_,_,i=>⟨fun lf lf' w w' h1 h2 _ h3=>hK lf lf' w w' h1 h2 h3,fun j d ds cl G hj _ e v w w' hG hk=>(pL Gs hst j d ds cl G hj).1 e v w w' hG hk⟩
  | (j0,T) :: r,hR,hS,i=>by
    have ih:=ui hK hst r hR.2 hS.2 i
    rcases hb:Nat.beq i j0 with _|_
    rotate_left
    · have hts:zt ((j0,T) :: r) i=T:=by simp only [zt,hb]
      rw [hts]
      have hij:=Nat.eq_of_beq_eq_true hb
      subst hij
      refine ⟨hR.1,?_⟩
      have aux:∀ (gs:GV) (m:Nat),BB T i m gs→∀ (j d:Nat) (ds cl:List Nat) (G:Env→Value→World→Prop),gs[j]?=some (d,ds,cl,G)→m+j ≠ i→∀ e v w w',G e v w→T w w'→G e v w':=by
        intro gs
        induction gs with
        | nil=>intro m _ j d ds cl G hj;simp at hj
        | cons p gs ihg =>
          intro m hs j d ds cl G hj hne
          cases j with
          | zero =>
            simp at hj
            subst hj
            rcases hs.1 with h1|h1
            · exact absurd h1 (by simpa using hne)
            · exact h1
          | succ j=>exact ihg (m+1) hs.2 j d ds cl G (by simpa using hj) (by omega)
      intro j d ds cl G hj hne
      exact aux Gs 0 hS.1 j d ds cl G hj (by omega)
    · have hts:zt ((j0,T) :: r) i=zt r i:=by simp only [zt,hb]
      rw [hts]
      exact ih
theorem tB {ops:Array Oper} {R:LF→World→Prop} {Ts:TR} {Gs:GV}:∀ (i0:Nat) (l:List Oper) (gs:GV),xl P ops Q n R Ts e Gs i0 l gs→∀ (j:Nat) (o:Oper) (d:Nat) (ds cl:List Nat) (G:Env→Value→World→Prop),l[j]?=some o→gs[j]?=some (d,ds,cl,G) →
    ∀ lf w,R lf w→NBp Gs lf (i0+j) Ts→AQ w (fun e'=>WL P ops (QT Q n d G (zt Ts (i0+j)) w e') [o] n e' w) cl 0 Gs e
  | i0,o0 :: r,(d0,ds0,cl0,G0) :: gs,hs,j,o,d,ds,cl,G,ho,hg=>by
    cases j with
    | zero=>simp at ho hg;obtain ⟨rfl,rfl,rfl,rfl⟩:=hg;subst ho;exact hs.1
    | succ j =>
      have:=tB (i0+1) r gs hs.2 j o d ds cl G (by simpa using ho) (by simpa using hg)
      rwa [show i0+1+j=i0+(j+1) by omega] at this
  | _,[],_,_,j,o,d,ds,cl,G,ho,_=>by simp at ho
  | _,_ :: _,[],_,j,o,d,ds,cl,G,_,hg=>by simp at hg
theorem sq {Gs:GV}:∀ (gs:GV) (seen:List Nat) (l:List Oper),rO Gs seen l gs=true →
    (∀ (j d:Nat) (ds cl:List Nat) (G:Env→Value→World→Prop),gs[j]?=some (d,ds,cl,G)→(∃ o:Oper,l[j]?=some o∧True∧(∀ x ∈ ds,∃ i ∈ cl,∃ p,Gs[i]?=some p∧p.1=x) ∧
      (∀ x ∈ cl,x ∈ pp o∨∃ i ∈ pp o,∃ p,Gs[i]?=some p∧x ∈ p.2.2.1))∧True∧d ∉ seen) ∧
    (∀ (i j d:Nat) (ds ds' cl cl':List Nat) (G G':Env→Value→World→Prop),gs[i]?=some (d,ds,cl,G)→gs[j]?=some (d,ds',cl',G')→i=j)
  | [],_,_,_=>⟨fun j d ds cl G h=>by simp at h,fun i j d ds ds' cl cl' G G' h=>by simp at h⟩
  | (d0,ds0,cl0,G0) :: r,seen,[],h=>by simp [rO] at h
  | (d0,ds0,cl0,G0) :: r,seen,o :: l,h=>by
    simp only [rO,Bool.and_eq_true,Bool.not_eq_true'] at h
    obtain ⟨⟨⟨h3,h5⟩,h6⟩,h4⟩:=h
    obtain ⟨ih1,ih2⟩:=sq r (d0 :: seen) l h4
    refine ⟨fun j d ds cl G hj=>?_,fun i j d ds ds' cl cl' G G' hi hj=>?_⟩
    · cases j with
      | zero =>
        simp at hj
        obtain ⟨rfl,rfl,rfl,rfl⟩:=hj
        refine ⟨⟨o,rfl,trivial,fun x hx=>?_,fun x hx=>?_⟩,trivial,by simpa using h3⟩
        · obtain ⟨i,hi,hq⟩:=List.any_eq_true.1 (List.all_eq_true.1 h5 x hx)
          cases hp:Gs[i]? with
          | none=>simp [hp] at hq
          | some p=>exact ⟨i,hi,p,hp,by simpa [hp] using hq⟩
        · have hq:=List.all_eq_true.1 h6 x hx
          rcases Bool.or_eq_true_iff.1 hq with hq|hq
          · exact .inl (List.mem_of_elem_eq_true hq)
          · obtain ⟨i,hi,hq⟩:=List.any_eq_true.1 hq
            cases hp:Gs[i]? with
            | none=>simp [hp] at hq
            | some p=>exact .inr ⟨i,hi,p,hp,by simpa [hp] using hq⟩
      | succ j =>
        obtain ⟨a,b,c⟩:=ih1 j d ds cl G (by simpa using hj)
        exact ⟨by simpa using a,b,fun hm=>c (List.mem_cons_of_mem _ hm)⟩
    · cases i with
      | zero =>
        cases j with
        | zero=>rfl
        | succ j =>
          simp at hi
          obtain ⟨rfl,rfl,rfl,rfl⟩:=hi
          exact absurd List.mem_cons_self (ih1 j d0 ds' cl' G' (by simpa using hj)).2.2
      | succ i =>
        cases j with
        | zero =>
          simp at hj
          obtain ⟨rfl,rfl,rfl,rfl⟩:=hj
          exact absurd List.mem_cons_self (ih1 i d0 ds cl G (by simpa using hi)).2.2
        | succ j=>rw [ih2 i j d ds ds' cl cl' G G' (by simpa using hi) (by simpa using hj)]
theorem wv {l:List Oper} {Gs:GV} {R:LF→World→Prop} {Ts:TR} (he:rP Gs 0 l=true) (hf:rO Gs [] l Gs=true) (hst:wz Gs) (hK:∀ lf lf' w w',R lf w→(∀ m,lf' m=false→lf m=false)→Keep w w'→R lf' w') (hRT:Aq R Ts) (hTs:xm Gs Ts) (hsv:xl P l.toArray Q n R Ts e Gs 0 l Gs) (hlen:Gs.length≤l.length)
    (hk:∀ lf w,R lf w→BG w (fun e'=>WL P l.toArray Q (l.drop Gs.length) n e' w) Gs e) :
    ∀ (fuel:Nat) (listed:Array Bool) (a:Act) (e':Env) (w:World),Fits n e' a→R (fun j=>listed.getD j false) w→listed.size=l.length →
      (∀ i,Gs.length≤i→listed.getD i false=false)→(∀ t,(∀ p ∈ Gs,p.1 ≠ t)→e' t=e t)→(∀ j d ds cl G,Gs[j]?=some (d,ds,cl,G)→listed.getD j false=true→G e' (e' d) w) →
      (∀ j o,l[j]?=some o→j < Gs.length→listed.getD j false=true→∀ x ∈ pp o,listed.getD x false=true) →
      ((List.range l.length).filter fun i=>!listed.getD i true).length≤fuel→wpAny P .any l.toArray Q fuel listed a w:=by
  obtain ⟨hf1,hf2⟩:=sq (Gs:=Gs) Gs [] l hf
  have hcase:=ui hK hst Ts hRT hTs
  intro fuel
  have cllt:∀ (j d:Nat) (ds cl:List Nat) (G:Env→Value→World→Prop),Gs[j]?=some (d,ds,cl,G)→∀ x ∈ cl,x < j:=by
    intro j
    induction j using Nat.strongRecOn with
    | _ j ih =>
      intro d ds cl G hj x hx
      obtain ⟨⟨o,ho,-,-,hcl⟩,-⟩:=hf1 j d ds cl G hj
      rcases hcl x hx with h|⟨i,hi,p,hp,hxp⟩
      · have:=(pc l 0 he j o ho).1 x h;omega
      · have h1:=(pc l 0 he j o ho).1 i hi
        have:=ih i (by omega) p.1 p.2.1 p.2.2.1 p.2.2.2 hp x hxp
        omega
  have clin:∀ (listed:Array Bool),(∀ j o,l[j]?=some o→j < Gs.length→listed.getD j false=true→∀ x ∈ pp o,listed.getD x false=true) →
      ∀ (j d:Nat) (ds cl:List Nat) (G:Env→Value→World→Prop),Gs[j]?=some (d,ds,cl,G)→(∀ o,l[j]?=some o→∀ x ∈ pp o,listed.getD x false=true)→∀ x ∈ cl,listed.getD x false=true:=by
    intro listed hcl0 j
    induction j using Nat.strongRecOn with
    | _ j ih =>
      intro d ds cl G hj hd x hx
      obtain ⟨⟨o,ho,-,-,hcl⟩,-⟩:=hf1 j d ds cl G hj
      rcases hcl x hx with h|⟨i,hi,p,hp,hxp⟩
      · exact hd o ho x h
      · have h1:=(pc l 0 he j o ho).1 i hi
        exact ih i (by omega) p.1 p.2.1 p.2.2.1 p.2.2.2 hp (fun o' ho'=>hcl0 i o' ho' (List.getElem?_eq_some_iff.1 hp).1 (hd o ho i hi)) x hxp
  -- a fact may be said of the Cw of updates in place of the environment
  have loc:∀ (j d:Nat) (ds cl:List Nat) (G:Env→Value→World→Prop),Gs[j]?=some (d,ds,cl,G)→∀ (e':Env) (w:World),G e' (e' d) w→G ((Gs.take j).foldl (fun e p=>upd e p.1 (e' p.1)) e) (e' d) w:=by
    intro j d ds cl G hj e' w hG
    refine (pL Gs hst j d ds cl G hj).2 e' _ _ _ (fun x hx=>?_) hG
    obtain ⟨⟨o,ho,-,hds,-⟩,-⟩:=hf1 j d ds cl G hj
    obtain ⟨i,hi,p,hp,rfl⟩:=hds x hx
    exact (vK Gs e j i p hp (cllt j d ds cl G hj i hi)).symm
  -- all of the front is done
  have done:∀ (fuel:Nat) (listed:Array Bool) (a:Act) (e':Env) (w:World),Fits n e' a→R (fun j=>listed.getD j false) w→listed.size=l.length→(∀ i,Gs.length≤i→listed.getD i false=false) →
      (∀ t,(∀ p ∈ Gs,p.1 ≠ t)→e' t=e t)→(∀ j d ds cl G,Gs[j]?=some (d,ds,cl,G)→listed.getD j false=true→G e' (e' d) w)→(∀ i,i < Gs.length→listed.getD i false=true) →
      ((List.range l.length).filter fun i=>!listed.getD i true).length≤fuel→wpAny P .any l.toArray Q fuel listed a w:=by
    intro fuel listed a e' w ha hw hs hb ho hG hall hc
    have hK:=tS (e':=e') Gs e (hk _ w hw) fun j d ds cl G hj=>loc j d ds cl G hj e' w (hG j d ds cl G hj (hall j (List.getElem?_eq_some_iff.1 hj).1))
    rw [uL Gs e ho] at hK
    have hl:∀ i,i < l.length→listed.getD i false=decide (i < Gs.length):=fun i hi=>by
      by_cases h:i < Gs.length
      · simp [h,hall i h]
      · simp [h,hb i (by omega)]
    refine xA rfl he (fun d hd x hx=>by
      have hg:=List.getElem?_eq_getElem hd
      unfold AK at hx
      rw [hg] at hx
      exact cllt d _ _ _ _ hg x hx) fuel Gs.length listed a w (Nat.le_refl _) hlen ?_ hs hl (hK a ha)
    have hcount:∀ (N:Nat),N≤l.length→N - Gs.length≤((List.range N).filter fun i=>!listed.getD i true).length:=by
      intro N
      induction N with
      | zero=>intro _;omega
      | succ N ih =>
        intro hN
        rw [List.range_succ,List.filter_append,List.length_append]
        have:=ih (by omega)
        by_cases hNk:Gs.length≤N
        · have hf:listed.getD N true=false:=by rw [pa (by omega) true false];exact hb N hNk
          simp only [List.filter_cons,List.filter_nil,hf,Bool.not_false,if_true,List.length_cons,List.length_nil]
          omega
        · omega
    have:=hcount l.length (Nat.le_refl _)
    omega
  induction fuel with
  | zero =>
    intro listed a e' w ha hw hs hb ho hG hcl hc
    refine done 0 listed a e' w ha hw hs hb ho hG (fun i hi=>?_) hc
    have hnil:((List.range l.length).filter fun i=>!listed.getD i true)=[]:=List.eq_nil_of_length_eq_zero (by omega)
    have hni:i ∉ ((List.range l.length).filter fun i=>!listed.getD i true):=by rw [hnil];simp
    rw [List.mem_filter,List.mem_range] at hni
    have hil:i < l.length:=by omega
    rw [pa (by omega) false true]
    cases h:listed.getD i true
    · exact absurd ⟨hil,by simp [h]⟩ hni
    · rfl
  | succ fuel ih =>
    intro listed a e' w ha hw hs hb ho hG hcl hc
    by_cases hall:∀ i,i < Gs.length→listed.getD i false=true
    · exact done (fuel+1) listed a e' w ha hw hs hb ho hG hall hc
    · -- the least one that is not listed is ready
      have hex:∃ i,i < Gs.length∧listed.getD i false=false∧∀ j,j < i→listed.getD j false=true:=by
        have:∃ i,i < Gs.length∧listed.getD i false=false:=by
          refine Classical.byContradiction fun hn=>hall fun i hi=>?_
          cases h:listed.getD i false
          · exact absurd ⟨i,hi,h⟩ hn
          · rfl
        obtain ⟨i,hi⟩:=this
        induction i using Nat.strongRecOn with
        | _ i ihh =>
          by_cases hj:∃ j,j < i∧listed.getD j false=false
          · obtain ⟨j,hj1,hj2⟩:=hj
            exact ihh j hj1 ⟨by omega,hj2⟩
          · refine ⟨i,hi.1,hi.2,fun j hji=>?_⟩
            cases h:listed.getD j false
            · exact absurd ⟨j,hji,h⟩ hj
            · rfl
      obtain ⟨i0,hi0,hi1,hi2⟩:=hex
      have hmem:i0 ∈ Region.ready .any l.toArray listed:=by
        refine py.2 ⟨by rw [pa (by omega) true false];exact hi1,l[i0],List.getElem?_eq_getElem (by omega),fun j hj=>hi2 j ?_⟩
        have:=(pc l 0 he i0 _ (List.getElem?_eq_getElem (by omega))).1 j hj
        omega
      refine ⟨(fun hn=>by rw [hn] at hmem;cases hmem),fun i hi=>?_⟩
      obtain ⟨h1,o,hol,hd⟩:=py.1 hi
      have hil:i < l.length:=(List.getElem?_eq_some_iff.1 hol).1
      rw [pa (by omega) true false] at h1
      have hik:i < Gs.length:=by
        refine Classical.byContradiction fun hn=>?_
        rcases (pc l 0 he i o hol).2 (by omega) i0 (by omega) with h9|⟨d,hd9,h9⟩
        · have:=hd i0 h9
          rw [hi1] at this
          cases this
        · have h10:=hd d hd9
          rcases h9 with h9|⟨h9,h11⟩
          · rw [hb d h9.1] at h10;cases h10
          · have hg9:=List.getElem?_eq_getElem h9
            unfold AK at h11
            rw [hg9] at h11
            have:=clin listed hcl d _ _ _ _ hg9 (fun o' ho'=>hcl d o' ho' h9 h10) i0 h11
            rw [hi1] at this
            cases this
      have hg:Gs[i]?=some (Gs[i].1,Gs[i].2.1,Gs[i].2.2.1,Gs[i].2.2.2):=List.getElem?_eq_getElem hik
      have hnb:NBp Gs (fun j=>listed.getD j false) (0+i) Ts:=by
        have aux:∀ (ts:TR),NBp Gs (fun j=>listed.getD j false) (0+i) ts:=by
          intro ts
          induction ts with
          | nil=>trivial
          | cons p ts iht =>
            refine ⟨?_,iht⟩
            rcases hlj:listed.getD p.1 false with _|_
            · exact .inr (show listed.getD p.1 false=false from hlj)
            · refine .inl ⟨?_,?_⟩
              · rcases hel:(AK Gs p.1).elem (0+i) with _|_
                · rfl
                · exfalso
                  rw [Nat.zero_add] at hel
                  have hmem:=List.mem_of_elem_eq_true hel
                  unfold AK at hmem
                  rcases hgj:Gs[p.1]? with _|q
                  · rw [hgj] at hmem;cases hmem
                  · rw [hgj] at hmem
                    have:=clin listed hcl p.1 q.1 q.2.1 q.2.2.1 q.2.2.2 hgj (fun o' ho'=>hcl p.1 o' ho' (List.getElem?_eq_some_iff.1 hgj).1 hlj) i hmem
                    rw [h1] at this
                    cases this
              · rcases hbq:Nat.beq (0+i) p.1 with _|_
                · rfl
                · exfalso
                  have hq:=Nat.eq_of_beq_eq_true hbq
                  rw [Nat.zero_add] at hq
                  rw [← hq,h1] at hlj
                  cases hlj
        exact aux Ts
      have hstep:=tB 0 l Gs hsv i o _ _ _ _ hol hg _ w hw hnb
      have hWL:=sD (e':=e') Gs 0 e hstep fun j d ds cl G hj hel=>loc j d ds cl G hj e' w (hG j d ds cl G hj (clin listed hcl i _ _ _ _ hg (fun o' ho'=>by rw [hol] at ho';injection ho' with ho';subst ho';exact hd) j (List.mem_of_elem_eq_true (by simpa using hel))))
      rw [uL Gs e ho] at hWL
      refine ud (by simpa using hol) ha hWL fun a' w' hM=>?_
      obtain ⟨v,hfit,hgv,hkp⟩:=hM
      rw [Nat.zero_add] at hkp
      refine ih (listed.setIfInBounds i true) a' _ w' hfit ((hcase i).1 _ _ _ _ hw (fun m hm=>by
        rcases hlm:listed.getD m false with _|_
        · rfl
        · have hm2:(listed.setIfInBounds i true).getD m false=false:=hm
          rw [getD_set_true hlm] at hm2;cases hm2) (by
        show (listed.setIfInBounds i true).getD i false=true
        simp [Array.getD,hs,hil]) hkp) (by simpa using hs) (fun j hj=>?_) (fun t ht=>?_) (fun j d ds cl G hj hlj=>?_) (fun j o' ho' hjk hlj x hx=>?_) ?_
      · rw [getD_set_ne false (by omega)];exact hb j hj
      · rw [qU,if_neg (fun h=>ht Gs[i] (List.getElem_mem hik) h.symm)];exact ho t ht
      · by_cases hji:j=i
        · subst hji
          rw [hg] at hj
          injection hj with hj
          injection hj with hj1 hj2
          injection hj2 with hj2 hj3
          injection hj3 with hj3 hj4
          subst hj1;subst hj2;subst hj3;subst hj4
          rw [qU,if_pos rfl]
          refine (pL Gs hst j _ _ _ _ hg).2 e' _ _ _ (fun x hx=>?_) hgv
          obtain ⟨⟨o2,ho2,-,hds,-⟩,-⟩:=hf1 j _ _ _ _ hg
          obtain ⟨i2,hi2',p,hp,rfl⟩:=hds x hx
          have hlt:=cllt j _ _ _ _ hg i2 hi2'
          have hne:p.1 ≠ Gs[j].1:=fun h=>by
            have:=hf2 i2 j p.1 p.2.1 Gs[j].2.1 p.2.2.1 Gs[j].2.2.1 p.2.2.2 Gs[j].2.2.2 hp (by rw [h];exact hg)
            omega
          rw [qU,if_neg hne]
        · rw [getD_set_ne false (fun h=>hji h.symm)] at hlj
          have hne:d ≠ Gs[i].1:=fun h=>hji (hf2 j i d ds Gs[i].2.1 cl Gs[i].2.2.1 G Gs[i].2.2.2 hj (by rw [h];exact hg))
          rw [qU,if_neg hne]
          refine (pL Gs hst j d ds cl G hj).2 e' _ _ _ (fun x hx=>?_) ((hcase i).2 j d ds cl G hj hji _ _ _ _ (hG j d ds cl G hj hlj) hkp)
          obtain ⟨⟨o2,ho2,-,hds,-⟩,-⟩:=hf1 j d ds cl G hj
          obtain ⟨i2,hi2',p,hp,rfl⟩:=hds x hx
          have hli:=clin listed hcl j d ds cl G hj (fun o' ho'=>hcl j o' ho' (List.getElem?_eq_some_iff.1 hj).1 hlj) i2 hi2'
          have hne2:p.1 ≠ Gs[i].1:=fun h=>by
            have:=hf2 i2 i p.1 p.2.1 Gs[i].2.1 p.2.2.1 Gs[i].2.2.1 p.2.2.2 Gs[i].2.2.2 hp (by rw [h];exact hg)
            subst this
            rw [h1] at hli
            cases hli
          rw [qU,if_neg hne2]
      · by_cases hji:j=i
        · subst hji
          rw [hol] at ho'
          injection ho' with ho'
          subst ho'
          exact getD_set_true (hd x hx)
        · rw [getD_set_ne false (fun h=>hji h.symm)] at hlj
          exact getD_set_true (hcl j o' ho' hjk hlj x hx)
      · have hlt:((List.range l.length).filter fun j=>!(listed.setIfInBounds i true).getD j true).length < ((List.range l.length).filter fun j=>!listed.getD j true).length:=by
          have hsub:∀ (N:Nat),N≤l.length→((List.range N).filter fun j=>!(listed.setIfInBounds i true).getD j true).length+(if i < N then 1 else 0)=((List.range N).filter fun j=>!listed.getD j true).length:=by
            intro N
            induction N with
            | zero=>intro _;simp
            | succ N ihN =>
              intro hN
              have:=ihN (by omega)
              rw [List.range_succ,List.filter_append,List.filter_append,List.length_append,List.length_append]
              by_cases hiN:N=i
              · subst hiN
                have hx:(listed.setIfInBounds N true).getD N true=true:=by simp [Array.getD,hs,hil]
                have hy:listed.getD N true=false:=by rw [pa (by omega) true false];exact h1
                simp only [List.filter_cons,List.filter_nil,hx,hy,Bool.not_true,Bool.not_false,if_true,Bool.false_eq_true,if_false,List.length_cons,List.length_nil]
                split at this <;> split <;> omega
              · have hx:(listed.setIfInBounds i true).getD N true=listed.getD N true:=getD_set_ne true (fun h=>hiN h.symm)
                simp only [List.filter_cons,List.filter_nil,hx]
                cases listed.getD N true <;> simp only [Bool.not_true,Bool.not_false,if_true,Bool.false_eq_true,if_false,List.length_cons,List.length_nil] <;> split at this <;> split <;> omega
          have:=hsub l.length (Nat.le_refl _)
          rw [if_pos hil] at this
          omega
        omega
theorem ob {id:Nat} {l:List Oper} (Gs:GV) (R:LF→World→Prop) (Ts:TR) (hm:P.follows .mixedOrders=true) (hlen:Nat.ble Gs.length l.length=true) (he:rP Gs 0 l=true) (hf:rO Gs [] l Gs=true) (hst:wz Gs)
    (hR0:∀ lf w',Keep w w'→R lf w') (hK:∀ lf lf' w w',R lf w→(∀ m,lf' m=false→lf m=false)→Keep w w'→R lf' w') (hRT:Aq R Ts) (hTs:xm Gs Ts)
    (hsv:xl P l.toArray Q n R Ts e Gs 0 l Gs) (hk:∀ lf w',R lf w'→BG w' (fun e'=>WL P l.toArray Q (l.drop Gs.length) n e' w') Gs e):WC P (.region id l.toArray true) Q n e w:=by
  intro a ha
  refine wp_region_any hm ?_
  refine wv he hf hst hK hRT hTs hsv (by simpa using hlen) hk _ _ a e _ ha (hR0 _ _ (Ch.drew w)) (by simp) (fun i hi=>?_) (fun _ _=>rfl) (fun j d ds cl G hj hl=>?_) (fun j o ho hj hl=>?_) ?_
  · simp [Array.getD]
  · simp [Array.getD] at hl
  · simp [Array.getD] at hl
  · refine Nat.le_trans (List.length_filter_le _ _) ?_
    simp
end drawT
section blks
variable {S : Nat → Prop} {w w' : World} {g g' : Nat} {E E' : TypeId} {cs cs' : List Value}
theorem Blk.inj (h:Blk w g E cs) (h':Blk w g E' cs'):cs=cs':=by
  unfold Blk at h h'
  rw [h] at h'
  injection h' with h'
  injection h' with h1 _ _
  simpa using h1
theorem Av {i j:Nat} (h:(Value.pointer (some ⟨g,i,none⟩))=.pointer (some ⟨g',j,none⟩)):g'=g:=by
  injection h with h
  injection h with h
  injection h with h
  exact h.symm
theorem ny {lo sz n:Nat} {E1:TypeId} {v:Value} {xs:List Value} (h:w.ownsRow lo E1 sz v n xs) (hb:Blk w g E cs) (hne:E1 ≠ E) (hc:Ch (fun k=>k=g) w w'):w'.ownsRow lo E1 sz v n xs:=by
  refine gc h hc fun k hk _ hkg=>?_
  subst hkg
  rcases h.2 with ⟨rfl,_⟩|⟨k1,_,_,rfl,_,q1,_⟩
  · cases hk
  · have e1:k1=k:=by simpa [Value.ownBlock] using hk
    rw [e1,show w.heap[k]?=_ from hb] at q1
    injection q1 with q1
    injection q1 with _ q1 _
    exact hne q1.symm
end blks
section bk
variable {w w' : World} {g g' E : Nat} {off n i j : Nat} {us cs cs0 : List Value} {lf lf' : LF} {ms : List (Nat × Nat × Nat)}
def BK (w:World) (g E i:Nat) (us:List Value):Prop:=∃ cs,Blk w g E cs∧(cs.drop i).take us.length=us
def RK (lf:LF) (w:World) (g E:Nat) (cs0:List Value) (ms:List (Nat×Nat×Nat)):Prop :=
  ∃ cs,Blk w g E cs∧cs.length=cs0.length∧∀ q,(∀ m ∈ ms,lf m.1=false∨q < m.2.1∨m.2.1+m.2.2≤q)→cs[q]?=cs0[q]?
def TK (g E off n:Nat) (w w':World):Prop:=Ch (fun k=>k=g) w w'∧∀ cs,Blk w g E cs→∃ us,us.length=n∧off+n≤cs.length∧Blk w' g E (cs.take off++us++cs.drop (off+n))
theorem wJ (h:off+us.length≤cs.length) (q:Nat):(cs.take off++us++cs.drop (off+us.length))[q]?=if q < off then cs[q]? else if q < off+us.length then us[q - off]? else cs[q]?:=by
  by_cases h1:q < off
  · rw [if_pos h1,List.append_assoc,List.getElem?_append_left (by rw [List.length_take];omega),List.getElem?_take_of_lt h1]
  · rw [if_neg h1]
    have hl:(cs.take off).length=off:=by rw [List.length_take];omega
    by_cases h2:q < off+us.length
    · rw [if_pos h2,List.append_assoc,List.getElem?_append_right (by omega),hl,List.getElem?_append_left (by omega)]
    · rw [if_neg h2,List.getElem?_append_right (by rw [List.length_append,hl];omega),List.length_append,hl,List.getElem?_drop]
      congr 1
      omega
theorem yt (h:off+us.length≤cs.length):(cs.take off++us++cs.drop (off+us.length)).length=cs.length:=by
  simp only [List.length_append,List.length_take,List.length_drop];omega
theorem tm:(cs.drop i).take us.length=us↔(∀ q,q < us.length→cs[i+q]?=us[q]?):=by
  constructor
  · intro h q hq
    have h1:((cs.drop i).take us.length)[q]?=us[q]?:=by rw [h]
    rwa [List.getElem?_take_of_lt hq,List.getElem?_drop] at h1
  · intro h
    refine List.ext_getElem? fun q=>?_
    by_cases hq:q < us.length
    · rw [List.getElem?_take_of_lt hq,List.getElem?_drop,h q hq]
    · rw [List.getElem?_eq_none (by rw [List.length_take];omega),List.getElem?_eq_none (by omega)]
theorem BK.kp (h:BK w g E i us) (k:Keep w w'):BK w' g E i us:=by obtain ⟨cs,h1,h2⟩:=h;exact ⟨cs,h1.kp k,h2⟩
theorem BK.ch {S:Nat→Prop} (h:BK w g E i us) (k:Ch S w w') (hs:¬ S g):BK w' g E i us:=by obtain ⟨cs,h1,h2⟩:=h;exact ⟨cs,h1.ch k hs,h2⟩
theorem BK.st (h:BK w g E i us) (t:TK g E off n w w') (hn:off+n≤i∨i+us.length≤off):BK w' g E i us:=by
  obtain ⟨cs,h1,h2⟩:=h
  obtain ⟨vs,hv,hl,hb⟩:=t.2 cs h1
  subst hv
  refine ⟨_,hb,tm.2 fun q hq=>?_⟩
  rw [wJ hl,← tm.1 h2 q hq]
  split
  · rfl
  · split
    · omega
    · rfl
theorem sK {us:Env→Value→List Value}:∀ e v w w',BK w g E i (us e v)→Keep w w'→BK w' g E i (us e v):=fun _ _ _ _ h k=>h.kp k
theorem sKs {us:Env→Value→List Value} (m:Nat) (hn:Nat.ble (off+n) i=true∨Nat.ble (i+m) off=true) (hm:∀ e v,(us e v).length=m:=by intros;rfl):∀ e v w w',BK w g E i (us e v)→TK g E off n w w'→BK w' g E i (us e v):=fun e v _ _ h t =>
  h.st t (by rw [hm];simpa using hn)
theorem RK.z (h:Blk w g E cs0) (k:Keep w w'):RK lf w' g E cs0 ms:=⟨cs0,h.kp k,rfl,fun _ _=>rfl⟩
theorem RK.mono (h:RK lf w g E cs0 ms) (mo:∀ m,lf' m=false→lf m=false):RK lf' w g E cs0 ms:=by
  obtain ⟨cs,h1,h2,h3⟩:=h
  exact ⟨cs,h1,h2,fun q hq=>h3 q fun m hm=>(hq m hm).imp (mo _) id⟩
theorem RK.ch {S:Nat→Prop} (h:RK lf w g E cs0 ms) (mo:∀ m,lf' m=false→lf m=false) (k:Ch S w w') (hs:¬ S g):RK lf' w' g E cs0 ms:=by
  obtain ⟨cs,h1,h2,h3⟩:=h.mono mo
  exact ⟨cs,h1.ch k hs,h2,h3⟩
theorem RK.kp (h:RK lf w g E cs0 ms) (mo:∀ m,lf' m=false→lf m=false) (k:Keep w w'):RK lf' w' g E cs0 ms:=h.ch mo k id
theorem RK.st (h:RK lf w g E cs0 ms) (mo:∀ m,lf' m=false→lf m=false) (hj:lf' j=true) (hm:(j,off,n) ∈ ms) (t:TK g E off n w w'):RK lf' w' g E cs0 ms:=by
  obtain ⟨cs,h1,h2,h3⟩:=h.mono mo
  obtain ⟨vs,hv,hl,hb⟩:=t.2 cs h1
  subst hv
  refine ⟨_,hb,by rw [yt hl,h2],fun q hq=>?_⟩
  rw [← h3 q hq,wJ hl]
  have h4:=hq _ hm
  simp only [hj,Bool.true_eq_false,false_or] at h4
  split
  · rfl
  · split
    · omega
    · rfl
def NL (lf:LF):List (Nat×Nat×Nat)→Prop
  | []=>True
  | m :: r=>lf m.1=false∧NL lf r
theorem RK.old (h:RK lf w g E cs0 ms) (hn:NL lf ms):Blk w g E cs0:=by
  obtain ⟨cs,h1,h2,h3⟩:=h
  have hA:∀ (l:List (Nat×Nat×Nat)),NL lf l→∀ m ∈ l,lf m.1=false:=by
    intro l
    induction l with
    | nil=>intro _ m hm;cases hm
    | cons a l ih =>
      intro hl m hm
      rcases List.mem_cons.1 hm with rfl|hm
      · exact hl.1
      · exact ih hl.2 m hm
  have:cs=cs0:=List.ext_getElem? fun q=>h3 q fun m hm=>.inl (hA ms hn m hm)
  rwa [this] at h1
def ov (cs:List Value):List (Nat×List Value)→List Value
  | []=>cs
  | p :: r=>ov (cs.take p.1++p.2++cs.drop (p.1+p.2.length)) r
def StL (w:World) (g E:Nat):List (Nat×List Value)→Prop
  | []=>True
  | p :: r=>BK w g E p.1 p.2∧StL w g E r
theorem BV (hb:Blk w g E cs):∀ (l:List (Nat×List Value)) (c0:List Value),StL w g E l→cs.length=c0.length→(∀ p ∈ l,p.1+p.2.length≤c0.length)→(∀ q,(∀ p ∈ l,q < p.1∨p.1+p.2.length≤q)→cs[q]?=c0[q]?)→cs=ov c0 l
  | [],c0,_,_,_,h=>List.ext_getElem? fun q=>h q fun p hp=>by cases hp
  | p :: r,c0,hs,hl,hr,h=>by
    have hp:=hr p (List.mem_cons_self ..)
    refine BV hb r _ hs.2 (by rw [yt hp,hl]) (fun p' hp'=>by rw [yt hp];exact hr p' (List.mem_cons_of_mem _ hp')) fun q hq=>?_
    rw [wJ hp]
    obtain ⟨cs',hb',he⟩:=hs.1
    have hcs:=Blk.inj hb hb'
    subst hcs
    by_cases h1:q < p.1
    · rw [if_pos h1]
      exact h q fun p' hp'=>by rcases List.mem_cons.1 hp' with rfl|hp';exact .inl h1;exact hq p' hp'
    · rw [if_neg h1]
      by_cases h2:q < p.1+p.2.length
      · rw [if_pos h2]
        have:=tm.1 he (q - p.1) (by omega)
        rwa [show p.1+(q - p.1)=q by omega] at this
      · rw [if_neg h2]
        exact h q fun p' hp'=>by rcases List.mem_cons.1 hp' with rfl|hp';exact .inr (by omega);exact hq p' hp'
theorem RK.fin (h:RK lf w g E cs0 ms) (l:List (Nat×List Value)) (hs:StL w g E l) (hm:ms.map (fun m=>m.2)=l.map (fun p=>(p.1,p.2.length)):=by exact rfl) (hb:(l.all fun p=>Nat.ble (p.1+p.2.length) cs0.length)=true:=by exact rfl):Blk w g E (ov cs0 l):=by
  obtain ⟨cs,h1,h2,h3⟩:=h
  have:=BV h1 l cs0 hs h2 (fun p hp=>by simpa using List.all_eq_true.1 hb p hp) fun q hq=>h3 q fun m hmm=>.inr ?_
  · rwa [this] at h1
  · have h4:m.2 ∈ l.map (fun p=>(p.1,p.2.length)):=by rw [← hm];exact List.mem_map_of_mem hmm
    obtain ⟨p,hp,he⟩:=List.mem_map.1 h4
    have:=hq p hp
    rw [← he]
    exact this
end bk
section stk
variable {P : Program} {ops : Array Oper} {Q : Exit → Act → World → Prop} {n : Nat} {e : Env} {w : World} {o : Oper}
theorem stK (v:Value) (us:List Value) (hw:pH n ops o e) {lf:LF} {d T g off:Nat} {E:TypeId} {cs0:List Value} {ms:List (Nat×Nat×Nat)} {x y:Operand} {G:Env→Value→World→Prop} {TT:World→World→Prop} (hS:∀ w,(sizeOf T).run P w=.ok us.length w) (hr:RK lf w g E cs0 ms)
    (hG:∀ w',BK w' g E off us→G e undef w') (hT:∀ w',TK g E off us.length w w'→TT w w')
    (hnd:Nat.ble n d=true:=by exact rfl) (h1:∀ u ∈ us,u.oneCell'=true:=by exact uF rfl) (hd:o.dst=none:=by exact rfl) (ho:o.op=.store T x y:=by exact rfl) (hx:ev e x=.pointer (some ⟨g,off,none⟩):=by exact rfl) (hy:ev e y=v:=by exact rfl)
    (hvs:v.cells=us.toArray:=by exact rfl) (hi:Nat.ble (off+us.length) cs0.length=true:=by exact rfl):WL P ops (QT Q n d G TT w e) [o] n e w:=by
  obtain ⟨cs,hb,hl,-⟩:=hr
  have hi':off+us.length≤cs.length:=by rw [hl];simpa using hi
  refine wB v us _ hw hd ho hx hy hvs h1 hS hb (by simpa using hi') rfl fun w' hc hb' _=>?_
  refine ya hnd (hT w' ⟨hc,fun c hbc=>⟨us,rfl,?_,?_⟩⟩) (hG w' ⟨_,hb',tm.2 fun q hq=>?_⟩)
  · rw [← Blk.inj hb hbc];exact hi'
  · rw [← Blk.inj hb hbc];exact hb'
  · rw [wJ hi',if_neg (by omega),if_pos (by omega)]
    congr 1
    omega
end stk
end Go.Proofs.YtacoceibbheccaaGreat.K
