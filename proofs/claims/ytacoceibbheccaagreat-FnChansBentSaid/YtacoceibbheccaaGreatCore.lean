import Derived.Below
import Derived.WalkKit
import Derived.Laws.OwnMore
import Derived.Deep.AppendLies
import Derived.Deep.Draws
import Derived.Laws.Rows
import Derived.Maps.AppendAt
import Derived.OwnWalk
import Derived.Orders
import Derived.ArgAppend
import Derived.Laws.StructEq
import Derived.OpenShut
import Derived.ChangeSlices
import Derived.KernelRfl
namespace Go.Proofs.YtacoceibbheccaaGreat.K
open Go.RowKit Go.ChangeShapes Go.WideShapes
set_option linter.unusedVariables false
abbrev Env:=Nat→Value
def upd (e:Env) (d:Nat) (v:Value):Env:=fun t=>match Nat.beq t d with|true=>v|false=>e t
def ev (e:Env):Operand→Value
  | .tmp t=>e t
  | .const v=>v
  | .global g=>.pointer (some ⟨g,0,none⟩)
  | .func f=>.func (.func f) #[] #[]
def lst (l:List Value):Env:=fun t=>l.getD t undef
structure Fits (n:Nat) (e:Env) (a:Act):Prop where
  size:a.tmps.size=n
  defers:a.defers=[]
  get:∀ t,a.tmps.getD t undef=e t
theorem qU (e:Env) (d:Nat) (v:Value) (t:Nat):upd e d v t=if t=d then v else e t:=by
  unfold upd
  split <;> rename_i h
  · rw [if_pos (Nat.eq_of_beq_eq_true h)]
  · rw [if_neg (Nat.ne_of_beq_eq_false h)]
theorem Fits.eval {n:Nat} {e:Env} {a:Act} (h:Fits n e a):a.eval=ev e:=by
  funext x
  cases x <;> simp [Act.eval,ev]
  have:=h.get
  simp at this
  exact this _
theorem Fits.put {n:Nat} {e:Env} {a:Act} (h:Fits n e a) {d:Nat} (hd:Nat.blt d n=true) (v:Value):Fits n (upd e d v) (a.put (some d) v):=by
  have hd':d < n:=by simpa using hd
  refine ⟨by simpa [Act.put] using h.size,h.defers,fun t=>?_⟩
  rw [qU,← h.get t]
  simp only [Act.put]
  by_cases ht:t=d
  · subst ht
    simp [Array.getD,h.size,hd']
  · have hne:¬ d=t:=fun h=>ht h.symm
    simp only [ht,if_false,Array.getD_eq_getD_getElem?,Array.getElem?_setIfInBounds,hne]
def WL (P:Program) (ops:Array Oper) (Q:Exit→Act→World→Prop) (l:List Oper) (n:Nat) (e:Env) (w:World):Prop :=
  ∀ a,Fits n e a→wpList P ops Q l a w
def WC (P:Program) (c:Code) (Q:Exit→Act→World→Prop) (n:Nat) (e:Env) (w:World):Prop:=∀ a,Fits n e a→c.wp P Q a w
def WQ (K:Act→World→Prop) (n:Nat) (e:Env) (w:World):Prop:=∀ a,Fits n e a→K a w
def Ret (R:Value→World→Prop):Ending→World→Prop
  | .returned v,w=>R v w
  | _,_=>False
abbrev Fn (P:Program) (f:FuncId) (args:Array Value) (w:World) (R:Value→World→Prop):Prop:=Calls P f args w (Ret R)
theorem Fn.mono {P:Program} {f:FuncId} {args:Array Value} {w:World} {R R':Value→World→Prop} (h:Fn P f args w R) (hr:∀ v w',R v w'→R' v w'):Fn P f args w R' :=
  Calls.mono h fun e w'=>by cases e <;> first|exact hr _ _|exact id
section code
variable {P : Program} {Q : Exit → Act → World → Prop} {n : Nat} {e : Env} {w : World}
theorem CT {f:FuncId} {fn:Func} {c:Code} {args:Array Value} {R:Value→World→Prop} {l:List Value}
    (hf:P.funcs[f]?=some fn) (hb:fn.body=some c) (hn:fn.ntmps=n) (hl:(args++Array.replicate (n - args.size) undef).toList=l)
    (hs:l.length=n) (h:WC P c (bodyPost P fn (Ret R)) n (lst l) w):Fn P f args w R:=by
  refine calls_of_wp hf hb (h _ ⟨?_,rfl,fun t=>?_⟩)
  · rw [hn,← Array.length_toList,hl,hs]
  · rw [hn]
    show (args++Array.replicate (n - args.size) undef).getD t undef=l.getD t undef
    rw [← hl,Array.getD_eq_getD_getElem?,List.getD_eq_getElem?_getD,Array.getElem?_toList]
theorem nh {x y:Code} (h:WC P x (Exit.then (y.wp P Q) Q) n e w):WC P (.seq x y) Q n e w:=fun a ha=>wp_seq (h a ha)
theorem nm (h:WQ (Q .normal) n e w):WC P .skip Q n e w:=fun a ha=>wp_skip (h a ha)
theorem oY (h:WQ (Q .ret) n e w):WC P .ret Q n e w:=fun a ha=>wp_ret (h a ha)
theorem oh {id:Nat} (h:WQ (Q (.exit id)) n e w):WC P (.exit id) Q n e w:=fun a ha=>wp_exit (h a ha)
theorem ng {id:Nat} {c:Code} (h:WC P c (Exit.inBlock id Q) n e w):WC P (.block id c) Q n e w:=fun a ha=>wp_block (h a ha)
theorem AW {c:Operand} {x y:Code} (hc:ev e c=.bool true) (h:WC P x Q n e w):WC P (.cond c x y) Q n e w :=
  fun a ha=>wp_cond_true (by rw [ha.eval];exact hc) (h a ha)
theorem zF {c:Operand} {x y:Code} (hc:ev e c=.bool false) (h:WC P y Q n e w):WC P (.cond c x y) Q n e w :=
  fun a ha=>wp_cond_false (by rw [ha.eval];exact hc) (h a ha)
theorem mV {id:Nat} {l:List Oper} (h:WL P l.toArray Q l n e w):WC P (.region id l.toArray false) Q n e w:=fun a ha=>wp_region_lit (h a ha)
theorem mW {ops:Array Oper} (h:WQ (Q .normal) n e w):WL P ops Q [] n e w:=fun a ha=>wpList_nil (h a ha)
theorem mP {y:Code} (h:WC P y Q n e w):WQ (Exit.then (y.wp P Q) Q .normal) n e w:=h
theorem AX {c:Code} (I:Env→World→Prop) (μ:Env→World→Nat) (h0:I e w)
    (hr:∀ e' w',I e' w'→WC P c (Exit.then (fun a w2=>∃ e2,Fits n e2 a∧I e2 w2∧μ e2 w2 < μ e' w') Q) n e' w'):WC P (.loop c) Q n e w:=by
  intro a ha
  have hμ:∀ (e1 e2:Env) (a:Act),Fits n e1 a→Fits n e2 a→e1=e2:=fun e1 e2 a h1 h2=>funext fun t=>(h1.get t).symm.trans (h2.get t)
  let env:Act→Env:=fun a t=>a.tmps.getD t undef
  have he:∀ e a,Fits n e a→env a=e:=fun e a h=>funext h.get
  refine wp_loop (fun a w=>∃ e,Fits n e a∧I e w) (fun a w=>μ (env a) w) ⟨e,ha,h0⟩ ?_
  rintro a' w' ⟨e',hf,hI⟩
  refine wp_mono (hr e' w' hI a' hf) fun ex a2 w2 hq=>?_
  cases ex <;> first|exact hq|skip
  obtain ⟨e2,hf2,hI2,hlt⟩:=hq
  refine ⟨⟨e2,hf2,hI2⟩,?_⟩
  show μ (env a2) w2 < μ (env a') w'
  rw [he _ _ hf2,he _ _ hf]
  exact hlt
theorem AR {I:Env→World→Prop} {μ:Env→World→Nat} {Q':Exit→Act→World→Prop} {e0:Env} {w0:World} (e':Env) (he:∀ t,e t=e' t) (h:I e' w) (hm:μ e' w < μ e0 w0) :
    WQ (Exit.then (fun a w2=>∃ e2,Fits n e2 a∧I e2 w2∧μ e2 w2 < μ e0 w0) Q' .normal) n e w :=
  fun a ha=>⟨e',⟨ha.size,ha.defers,fun t=>(ha.get t).trans (he t)⟩,h,hm⟩
end code
def pH (n:Nat) (ops:Array Oper) (o:Oper) (e:Env):Prop:=∀ a,Fits n e a→Region.wanted o (yielded ops a.tmps)=true
section ops
variable {P : Program} {ops : Array Oper} {Q : Exit → Act → World → Prop} {n : Nat} {e : Env} {w : World} {o : Oper} {rest : List Oper}
theorem ye (h:o.guard=none):pH n ops o e:=fun _ _=>by simp [Region.wanted,h]
theorem uc {a:Act} (ha:Fits n e a) {j t:Nat} {b:Bool} (hj:((ops[j]?).bind (·.dst))=some t) (ht:Nat.blt t n=true) (hb:e t=.bool b):yielded ops a.tmps j=some b:=by
  have ht':t < a.tmps.size:=by rw [ha.size];simpa using ht
  have hv:=ha.get t
  rw [hb] at hv
  unfold yielded
  rw [hj]
  have:a.tmps[t]?=some (.bool b):=by
    rw [Array.getElem?_eq_getElem ht']
    simp [Array.getD,ht'] at hv
    rw [hv]
  simp [this]
theorem yd {j t:Nat} {b:Bool} (h:o.guard=some (j,b)) (hj:((ops[j]?).bind (·.dst))=some t) (ht:Nat.blt t n=true) (hb:e t=.bool b):pH n ops o e:=fun a ha=>by
  simp [Region.wanted,h,uc ha hj ht hb]
theorem AT {j t d:Nat} {b b':Bool} (h:o.guard=some (j,b)) (hj:((ops[j]?).bind (·.dst))=some t) (ht:Nat.blt t n=true) (hb:e t=.bool b') (hne:b'=!b)
    (hd:o.dst=some d) (hdn:Nat.blt d n=true) (hk:WL P ops Q rest n (upd e d undef) w):WL P ops Q (o :: rest) n e w:=by
  intro a ha
  have hw:Region.wanted o (yielded ops a.tmps)=false:=by
    rw [Region.wanted,h]
    simp only [uc ha hj ht hb,hne]
    cases b <;> rfl
  unfold wpList
  rw [hw]
  simp only [Bool.false_eq_true,if_false,hd]
  exact hk _ (ha.put hdn _)
theorem zz {j t d:Nat} {b:Bool} (h:o.guard=some (j,b)) (hj:((ops[j]?).bind (·.dst))=some t) (hb:e t=undef)
    (hd:o.dst=some d) (hdn:Nat.blt d n=true) (hk:WL P ops Q rest n (upd e d undef) w):WL P ops Q (o :: rest) n e w:=by
  intro a ha
  have hw:Region.wanted o (yielded ops a.tmps)=false:=by
    rw [Region.wanted,h]
    have hv:=ha.get t
    rw [hb] at hv
    have:yielded ops a.tmps j=none:=by
      unfold yielded
      rw [hj]
      cases hq:a.tmps[t]? with
      | none=>simp [hq]
      | some v =>
        rw [Array.getD_eq_getD_getElem?,hq] at hv
        simp only [Option.getD_some] at hv
        subst hv
        simp [hq,undef]
    simp [this]
  unfold wpList
  rw [hw]
  simp only [Bool.false_eq_true,if_false,hd]
  exact hk _ (ha.put hdn _)
theorem oQ (hw:pH n ops o e) {d:Nat} {v:Value} {w':World} (hd:o.dst=some d) (hdn:Nat.blt d n=true) (hr:(execOp (ev e) o).run P w=.ok (.value v) w')
    (hk:WL P ops Q rest n (upd e d v) w'):WL P ops Q (o :: rest) n e w:=by
  intro a ha
  unfold wpList
  rw [hw a ha,if_pos rfl]
  left
  unfold Oper.wp
  rw [ha.eval,hr,Oper.upon_value,hd]
  exact hk _ (ha.put hdn _)
theorem xU (hw:pH n ops o e) {w':World} (hd:o.dst=none) (hr:(execOp (ev e) o).run P w=.ok .skip w')
    (hk:WL P ops Q rest n e w'):WL P ops Q (o :: rest) n e w:=by
  intro a ha
  unfold wpList
  rw [hw a ha,if_pos rfl]
  left
  unfold Oper.wp
  rw [ha.eval,hr,Oper.upon_skip,hd]
  exact hk _ ha
theorem AV (hw:pH n ops o e) {d:Nat} {f:FuncId} {args:Array Value} {R:Value→World→Prop} (hd:o.dst=some d) (hdn:Nat.blt d n=true)
    (hr:(execOp (ev e) o).run P w=.ok (.enter f args) w) (hc:Fn P f args w R) (hk:∀ v w',R v w'→WL P ops Q rest n (upd e d v) w'):WL P ops Q (o :: rest) n e w:=by
  intro a ha
  unfold wpList
  rw [hw a ha,if_pos rfl]
  left
  unfold Oper.wp
  rw [ha.eval,hr,Oper.upon_enter]
  refine Calls.mono hc fun en w' h=>?_
  cases en <;> first|exact h.elim|skip
  rw [hd]
  exact hk _ _ h _ (ha.put hdn _)
end ops
structure Ch (S:Nat→Prop) (w w':World):Prop where
  os:w'.os=w.os
  tape:w'.tape=w.tape
  output:w'.output=w.output
  size:w.heap.size≤w'.heap.size
  block:∀ k,k < w.heap.size→¬ S k→w'.heap[k]?=w.heap[k]?
abbrev Keep:=Ch fun _=>False
section ch
variable {S S' : Nat → Prop} {w w' w1 w2 : World}
theorem Ch.refl (S:Nat→Prop) (w:World):Ch S w w:=⟨rfl,rfl,rfl,Nat.le_refl _,fun _ _ _=>rfl⟩
theorem Ch.comp (h:Ch S w w1) (h':Ch S' w1 w2) (hs:∀ k,k < w.heap.size→S' k→S k):Ch S w w2 :=
  ⟨h'.os.trans h.os,h'.tape.trans h.tape,h'.output.trans h.output,Nat.le_trans h.size h'.size,
   fun k hk hn=>(h'.block k (Nat.lt_of_lt_of_le hk h.size) (fun hs'=>hn (hs k hk hs'))).trans (h.block k hk hn)⟩
theorem Ch.mono (h:Ch S w w') (hs:∀ k,k < w.heap.size→S k→S' k):Ch S' w w':=⟨h.os,h.tape,h.output,h.size,fun k hk hn=>h.block k hk fun q=>hn (hs k hk q)⟩
theorem Keep.trans (h:Keep w w1) (h':Keep w1 w2):Keep w w2:=h.comp h' fun _ _ x=>x
theorem Keep.new (h:Keep w w1) (h':Ch S w1 w2) (hs:∀ k,S k→w.heap.size≤k):Keep w w2:=h.comp h' fun k hk x=>by have:=hs k x;omega
theorem Keep.to (h:Keep w w') (S:Nat→Prop):Ch S w w':=h.mono fun _ _ x=>x.elim
theorem Ch.below (h:Keep w w'):Below w.heap.size w w':=⟨h.os,h.tape,h.output,h.size,fun k hk=>h.block k hk id⟩
theorem Ch.of_grown {row:Option Nat} (h:w.grownBy w' row):Ch (fun k=>row=some k) w w':=⟨h.os,h.tape,h.output,h.size,fun k hk hn=>h.block k hk fun e=>hn e.symm⟩
theorem Ch.alloc (w:World) (o:Obj):Keep w (w.alloc o):=⟨rfl,rfl,rfl,by simp,fun k hk _=>Below.heap_alloc _ _ _ hk⟩
theorem Ch.drew (w:World):Keep w w.drew:=⟨rfl,rfl,rfl,Nat.le_refl _,fun _ _ _=>rfl⟩
end ch
def Blk (w:World) (g:Nat) (t:TypeId) (cs:List Value):Prop:=w.heap[g]?=some (.cells cs.toArray t (0,0))
section blk
variable {S : Nat → Prop} {w w' : World} {g : Nat} {t : TypeId} {cs : List Value}
theorem Blk.lt (h:Blk w g t cs):g < w.heap.size:=by
  rcases Nat.lt_or_ge g w.heap.size with hlt|hge
  · exact hlt
  · unfold Blk at h;rw [Array.getElem?_eq_none hge] at h;cases h
theorem Blk.ch (h:Blk w g t cs) (hc:Ch S w w') (hs:¬ S g):Blk w' g t cs:=(hc.block g h.lt hs).trans h
theorem Blk.kp (h:Blk w g t cs) (hc:Keep w w'):Blk w' g t cs:=h.ch hc id
theorem Blk.cell (h:Blk w g t cs) (i:Nat):w.cell? ⟨g,i,none⟩=cs[i]?:=by
  rw [cell_of_row w g i cs.toArray t (0,0) h];simp
end blk
section ops2
variable {P : Program} {ops : Array Oper} {Q : Exit → Act → World → Prop} {n : Nat} {e : Env} {w : World} {o : Oper} {rest : List Oper}
theorem BI (v:Value) (hw:pH n ops o e) {d:Nat} {x:Operand} (hd:o.dst=some d) (hdn:Nat.blt d n=true) (ho:o.op=.move x∨o.op=.assign x) (hv:ev e x=v)
    (hk:WL P ops Q rest n (upd e d v) w):WL P ops Q (o :: rest) n e w:=by
  refine oQ hw hd hdn ?_ hk
  unfold execOp
  rcases ho with ho|ho <;> simp [ho,hv]
theorem xX (v:Value) (hw:pH n ops o e) {d:Nat} {c x y:Operand} (hd:o.dst=some d) (hdn:Nat.blt d n=true) (ho:o.op=.pick c x y) (hc:ev e c=.bool true) (hv:ev e x=v)
    (hk:WL P ops Q rest n (upd e d v) w):WL P ops Q (o :: rest) n e w:=by
  refine oQ hw hd hdn ?_ hk
  unfold execOp
  simp [ho,hv,hc,asBool,go_sem]
theorem xY (v:Value) (hw:pH n ops o e) {d:Nat} {c x y:Operand} (hd:o.dst=some d) (hdn:Nat.blt d n=true) (ho:o.op=.pick c x y) (hc:ev e c=.bool false) (hv:ev e y=v)
    (hk:WL P ops Q rest n (upd e d v) w):WL P ops Q (o :: rest) n e w:=by
  refine oQ hw hd hdn ?_ hk
  unfold execOp
  simp [ho,hv,hc,asBool,go_sem]
theorem BL (hw:pH n ops o e) {d:Nat} {E:TypeId} {x:Operand} (cs:List Value) (hd:o.dst=some d) (hdn:Nat.blt d n=true) (ho:o.op=.box E x) (hx:(ev e x).cells=cs.toArray)
    (hk:∀ g w',w.heap.size≤g→g < w'.heap.size→Keep w w'→Blk w' g E cs→WL P ops Q rest n (upd e d (.pointer (some ⟨g,0,none⟩))) w'):WL P ops Q (o :: rest) n e w:=by
  refine oQ hw hd hdn (w':=w.alloc (.cells cs.toArray E)) ?_ (hk _ _ (Nat.le_refl _) (by simp) (Ch.alloc _ _) (heap_alloc_new _ _))
  unfold execOp
  simp only [ho,Instr.box,newVar,hx]
  simp [newRow,go_sem]
theorem zE (hw:pH n ops o e) {d:Nat} {E:TypeId} (z:Value) (cs:List Value) (hz:∀ w,(zeroValue E).run P w=.ok z w) (hd:o.dst=some d) (hdn:Nat.blt d n=true) (ho:o.op=.alloc E) (hx:z.cells=cs.toArray)
    (hk:∀ g w',w.heap.size≤g→g < w'.heap.size→Keep w w'→Blk w' g E cs→WL P ops Q rest n (upd e d (.pointer (some ⟨g,0,none⟩))) w'):WL P ops Q (o :: rest) n e w:=by
  refine oQ hw hd hdn (w':=w.alloc (.cells cs.toArray E)) ?_ (hk _ _ (Nat.le_refl _) (by simp) (Ch.alloc _ _) (heap_alloc_new _ _))
  unfold execOp
  have hv:(newVar E z).run P w=.ok ⟨w.heap.size,0,none⟩ (w.alloc (.cells cs.toArray E)):=by
    unfold newVar
    rw [hx]
    simp [newRow,go_sem]
  simp [ho,Instr.alloc,hz,hv]
theorem zB (v:Value) (hw:pH n ops o e) {d T g i:Nat} {E:TypeId} {cs:List Value} {x:Operand} (hd:o.dst=some d) (hdn:Nat.blt d n=true) (ho:o.op=.load T x)
    (hx:ev e x=.pointer (some ⟨g,i,none⟩)) (hT:∀ w,(isAgg T).run P w=.ok false w) (hb:Blk w g E cs) (hv:cs[i]?=some v)
    (hk:WL P ops Q rest n (upd e d v) w):WL P ops Q (o :: rest) n e w:=by
  refine oQ hw hd hdn ?_ hk
  have hc:w.cell? ⟨g,i,none⟩=some v:=by rw [hb.cell];exact hv
  unfold execOp
  simp [ho,hx,Instr.loadAt,Instr.sureAddr,loadVar,hT,hc,go_sem]
theorem zA (vs:List Value) (hw:pH n ops o e) {d T g i:Nat} {E:TypeId} {cs:List Value} {x:Operand} (hd:o.dst=some d) (hdn:Nat.blt d n=true) (ho:o.op=.load T x)
    (hx:ev e x=.pointer (some ⟨g,i,none⟩)) (hT:∀ w,(isAgg T).run P w=.ok true w) (hS:∀ w,(sizeOf T).run P w=.ok vs.length w) (hb:Blk w g E cs) (hv:(cs.drop i).take vs.length=vs)
    (hk:WL P ops Q rest n (upd e d (.agg vs.toArray)) w):WL P ops Q (o :: rest) n e w:=by
  refine oQ hw hd hdn ?_ hk
  have hl:(loadCells ⟨g,i,none⟩ vs.length).run P w=.ok vs.toArray w:=by
    refine run_loadCells_list (P:=P) w ⟨g,i,none⟩ vs fun j v hj=>?_
    have hadd:(⟨g,i,none⟩:Addr).add j=⟨g,i+j,none⟩:=by unfold Addr.add;split <;> simp_all
    rw [hadd,hb.cell]
    rw [← hv,List.getElem?_take] at hj
    split at hj
    · simpa using hj
    · cases hj
  unfold execOp
  simp [ho,hx,Instr.loadAt,Instr.sureAddr,loadVar,hT,hS,hl]
theorem wB (v:Value) (vs cs':List Value) (hw:pH n ops o e) {T g i:Nat} {E:TypeId} {cs:List Value} {x y:Operand} (hd:o.dst=none) (ho:o.op=.store T x y)
    (hx:ev e x=.pointer (some ⟨g,i,none⟩)) (hy:ev e y=v) (hvs:v.cells=vs.toArray) (h1:∀ u ∈ vs,u.oneCell'=true) (hS:∀ w,(sizeOf T).run P w=.ok vs.length w) (hb:Blk w g E cs)
    (hi:Nat.ble (i+vs.length) cs.length=true) (hcs:cs.take i++vs++cs.drop (i+vs.length)=cs')
    (hk:∀ w',Ch (fun k=>k=g) w w'→Blk w' g E cs'→w'.heap.size=w.heap.size→WL P ops Q rest n e w'):WL P ops Q (o :: rest) n e w:=by
  have hi':i+vs.length≤cs.length:=by simpa using hi
  refine xU hw hd (w':=w.setRow g cs'.toArray) ?_ (hk _ ⟨rfl,rfl,rfl,by simp,fun k hk hn=>setRow_other _ _ _ _ hn⟩ ?_ (by simp))
  · have hst:=run_storeCells_at (P:=P) g i E vs 0 cs.toArray w hb (by simpa using hi') h1
    simp only [Nat.add_zero,hcs] at hst
    have hsv:(storeVar T ⟨g,i,none⟩ v).run P w=.ok () (w.setRow g cs'.toArray):=by
      unfold storeVar
      rw [hvs]
      simp [hS,hst]
    unfold execOp
    simp only [ho,hx,hy,Instr.storeAt,Instr.sureAddr]
    simp [hsv]
  · exact setRow_heap w g cs.toArray cs'.toArray E (0,0) hb
end ops2
def Rd (w:World) (sz:Nat) (v:Value) (n:Nat) (xs:List Value):Prop :=
  ∃ A c,v=.slice A n c∧n≤c∧c≤maxLen∧xs.length=n*sz∧(0 < n→∃ ad,A=some ad∧∀ j u,xs[j]?=some u→w.cell? (ad.add j)=some u)
section rd
variable {S : Nat → Prop} {w w' : World} {sz n : Nat} {v : Value} {xs : List Value}
theorem Am (g j:Nat):(⟨g,0,none⟩:Addr).add j=⟨g,j,none⟩:=by unfold Addr.add;split <;> simp_all
theorem qz (a:Addr) (n:Nat):(a.add n).block=a.block:=by unfold Addr.add;split <;> rfl
theorem xO (a:Addr) (i j:Nat):(a.add i).add j=a.add (i+j):=by
  unfold Addr.add
  by_cases hi:i=0 <;> by_cases hj:j=0 <;> simp [hi,hj,Nat.add_assoc]
theorem vc {a:Addr} {u:Value} (h:w.cell? a=some u):a.block < w.heap.size:=by
  unfold World.cell? at h
  split at h
  · rename_i hh
    rcases Nat.lt_or_ge a.block w.heap.size with hlt|hge
    · exact hlt
    · rw [Array.getElem?_eq_none hge] at hh;cases hh
  · cases h
theorem Ch.cell (hc:Ch S w w') {a:Addr} {u:Value} (h:w.cell? a=some u) (hs:¬ S a.block):w'.cell? a=some u:=by
  rw [World.cell?_of_block (w:=w) (hc.block a.block (vc h) hs)];exact h
theorem Rd.ch (h:Rd w sz v n xs) (hc:Ch S w w') (hs:∀ g,v.ownBlock=some g→g < w.heap.size→¬ S g):Rd w' sz v n xs:=by
  obtain ⟨A,c,rfl,h1,h2,h3,h4⟩:=h
  refine ⟨A,c,rfl,h1,h2,h3,fun hn=>?_⟩
  obtain ⟨ad,rfl,hx⟩:=h4 hn
  refine ⟨ad,rfl,fun j u hu=>?_⟩
  have hcell:=hx j u hu
  refine hc.cell hcell ?_
  rw [qz]
  exact hs _ rfl (by have:=vc hcell;rwa [qz] at this)
theorem Rd.kp (h:Rd w sz v n xs) (hc:Keep w w'):Rd w' sz v n xs:=h.ch hc fun _ _ _=>id
theorem Rd.nil (w:World) (sz:Nat):Rd w sz (.slice none 0 0) 0 []:=⟨none,0,rfl,Nat.le_refl _,by simp [maxLen],by simp,fun h=>absurd h (by omega)⟩
theorem Rd.of_own {base:Nat} {E:TypeId} (h:w.ownsRow base E sz v n xs):Rd w sz v n xs:=by
  obtain ⟨hl,h⟩:=h
  rcases h with ⟨rfl,rfl⟩|⟨g,cap,cur,rfl,hb,hg,hn,hm,hsz,htk⟩
  · have:xs=[]:=List.eq_nil_of_length_eq_zero (by simpa using hl)
    subst this
    exact Rd.nil w sz
  · refine ⟨_,_,rfl,hn,hm,hl,fun _=>⟨_,rfl,fun j u hu=>?_⟩⟩
    have hadd:(⟨g,0,none⟩:Addr).add j=⟨g,j,none⟩:=by unfold Addr.add;split <;> simp_all
    rw [hadd,cell_of_row w g j cur E (0,0) hg]
    rw [← htk,List.getElem?_take] at hu
    split at hu
    · simpa using hu
    · cases hu
theorem gc {base:Nat} {E:TypeId} (h:w.ownsRow base E sz v n xs) (hc:Ch S w w') (hs:∀ g,v.ownBlock=some g→g < w.heap.size→¬ S g):w'.ownsRow base E sz v n xs:=by
  obtain ⟨hl,h⟩:=h
  refine ⟨hl,?_⟩
  rcases h with ⟨rfl,rfl⟩|⟨g,cap,cur,rfl,hb,hg,hn,hm,hsz,htk⟩
  · exact .inl ⟨rfl,rfl⟩
  · have hlt:g < w.heap.size:=Blk.lt (t:=E) (cs:=cur.toList) (by simpa [Blk] using hg)
    exact .inr ⟨g,cap,cur,rfl,hb,(hc.block g hlt (hs g rfl hlt)).trans hg,hn,hm,hsz,htk⟩
theorem mz {base:Nat} {E:TypeId} (h:w.ownsRow base E sz v n xs) (hc:Keep w w'):w'.ownsRow base E sz v n xs:=gc h hc fun _ _ _=>id
theorem mO {base base':Nat} {E:TypeId} (h:w.ownsRow base E sz v n xs) (hb:base'≤base):w.ownsRow base' E sz v n xs:=by
  obtain ⟨hl,h⟩:=h
  refine ⟨hl,?_⟩
  rcases h with ⟨rfl,rfl⟩|⟨g,cap,cur,rfl,hb',hg,r⟩
  · exact .inl ⟨rfl,rfl⟩
  · exact .inr ⟨g,cap,cur,rfl,by omega,hg,r⟩
theorem nb {base:Nat} {E:TypeId} (h:w.ownsRow base E sz v n xs):∀ g,v.ownBlock=some g→base≤g∧g < w.heap.size:=by
  obtain ⟨hl,h⟩:=h
  rcases h with ⟨rfl,rfl⟩|⟨g,cap,cur,rfl,hb',hg,r⟩
  · intro g hg;cases hg
  · intro g' hg'
    have:g=g':=by simpa [Value.ownBlock] using hg'
    subst this
    exact ⟨hb',Blk.lt (t:=E) (cs:=cur.toList) (by simpa [Blk] using hg)⟩
end rd
def bV (b:UInt8):Value:=.int .u8 (b.toNat:Int)
def iV (n:Int):Value:=.int .i64 n
structure SlTy (P:Program) (T E:TypeId) (sz bytes:Nat) (z:Value):Prop where
  under:P.underlying T=some (.slice E)
  info:∃ i,P.info? E=some i∧i.zero=some z∧i.size=sz∧i.bytes=bytes
  zs:z.cells.size=sz
  pos:0 < sz
theorem CN {P:Program} {T E:TypeId} {sz bytes:Nat} {z:Value} (h1:P.underlying T=some (.slice E)) (h2:(P.info? E).map (fun i=>(i.zero,i.size,i.bytes))=some (some z,sz,bytes))
    (h3:Nat.beq z.cells.size sz=true) (h4:Nat.blt 0 sz=true):SlTy P T E sz bytes z:=by
  obtain ⟨i0,hi,hz0,hz1,hz2⟩:=info_parts h2
  exact ⟨h1,⟨i0,hi,hz0,hz1,hz2⟩,Nat.eq_of_beq_eq_true h3,by simpa using h4⟩
def elA:Value→Nat→Addr
  | .slice (some a) _ _,i=>a.add i
  | _,_=>default
section sl
variable {P : Program} {ops : Array Oper} {Q : Exit → Act → World → Prop} {n : Nat} {e : Env} {w : World} {o : Oper} {rest : List Oper}
variable {T E : TypeId} {sz bytes m : Nat} {z v : Value} {xs : List Value}
theorem BJ (hw:pH n ops o e) {d:Nat} {x:Operand} (hd:o.dst=some d) (hdn:Nat.blt d n=true) (ho:o.op=.call {callee:=.builtin .len,args:=#[x],argTypes:=#[T]})
    (hT:SlTy P T E sz bytes z) (hx:ev e x=v) (hr:Rd w sz v m xs) (hk:WL P ops Q rest n (upd e d (.int .i64 (m:Int))) w):WL P ops Q (o :: rest) n e w:=by
  refine oQ hw hd hdn ?_ hk
  obtain ⟨A,c,rfl,-⟩:=hr
  unfold execOp
  simp [ho,hx,resolve,invoke,builtin,Builtin.len_,run_underlying hT.under,goInt]
theorem zC (hw:pH n ops o e) {d:Nat} {x y:Operand} {k:IntKind} (i:Int) (hd:o.dst=some d) (hdn:Nat.blt d n=true) (ho:o.op=.indexAddr T x y)
    (hT:SlTy P T E sz bytes z) (hx:ev e x=v) (hy:ev e y=.int k i) (hr:Rd w sz v m xs) (h0:0≤i) (h1:i < m)
    (hk:WL P ops Q rest n (upd e d (.pointer (some (elA v (i.toNat*sz))))) w):WL P ops Q (o :: rest) n e w:=by
  refine oQ hw hd hdn ?_ hk
  obtain ⟨A,c,rfl,h2,h3,h4,h5⟩:=hr
  obtain ⟨ad,rfl,-⟩:=h5 (by omega)
  obtain ⟨i0,hi,hz,hs,hb⟩:=hT.info
  subst hs
  unfold execOp
  simp [ho,hx,hy,Instr.indexAt,asIntOf,run_underlying hT.under,sizeOf,typeInfo,hi,h0,h1,elA,go_sem]
theorem pE (u:Value) (hw:pH n ops o e) {d L j:Nat} {x:Operand} (hd:o.dst=some d) (hdn:Nat.blt d n=true) (ho:o.op=.load L x)
    (hx:ev e x=.pointer (some (elA v j))) (hL:∀ w,(isAgg L).run P w=.ok false w) (hr:Rd w sz v m xs) (hj:xs[j]?=some u)
    (hk:WL P ops Q rest n (upd e d u) w):WL P ops Q (o :: rest) n e w:=by
  refine oQ hw hd hdn ?_ hk
  obtain ⟨A,c,rfl,h2,h3,h4,h5⟩:=hr
  obtain ⟨ad,rfl,hc⟩:=h5 (by
    rcases Nat.eq_zero_or_pos m with h|h
    · subst h
      have:xs=[]:=List.eq_nil_of_length_eq_zero (by simpa using h4)
      subst this
      simp at hj
    · exact h)
  have hcell:=hc j u hj
  have hx':ev e x=.pointer (some (ad.add j)):=hx
  unfold execOp
  simp [ho,hx',Instr.loadAt,Instr.sureAddr,loadVar,hL,hcell,go_sem]
abbrev Ow (w:World) (base:Nat) (E:TypeId) (sz:Nat) (v:Value) (m:Nat) (xs:List Value):Prop:=w.ownsRow base E sz v m xs
theorem vm (u:Value) (us:List Value) (hw:pH n ops o e) {base L j:Nat} {x y:Operand} (hd:o.dst=none) (ho:o.op=.store L x y) (hx:ev e x=.pointer (some (elA v j))) (hy:ev e y=u)
    (hus:u.cells=us.toArray) (h1:∀ q ∈ us,q.oneCell'=true) (hS:∀ w,(sizeOf L).run P w=.ok us.length w) (hr:Ow w base E sz v m xs) (hj:j+us.length≤xs.length) (hu:0 < us.length)
    (hk:∀ w',Ch (fun k=>v.ownBlock=some k) w w'→Ow w' base E sz v m (xs.take j++us++xs.drop (j+us.length))→w'.heap.size=w.heap.size→WL P ops Q rest n e w'):WL P ops Q (o :: rest) n e w:=by
  obtain ⟨hl,hr⟩:=hr
  rcases hr with ⟨rfl,rfl⟩|⟨g,cap,cur,rfl,hb,hg,hn,hm,hsz,htk⟩
  · exact absurd hj (by have:xs.length=0:=by simpa using hl
                        omega)
  have hcur:cur.toList=xs++cur.toList.drop (m*sz):=by rw [← htk,List.take_append_drop]
  have hjc:j+us.length≤cur.size:=by
    have:=congrArg List.length hcur
    rw [List.length_append,Array.length_toList] at this
    omega
  have hst:=run_storeCells_at (P:=P) g j E us 0 cur w hg (by simpa using hjc) h1
  simp only [Nat.add_zero] at hst
  have hx':ev e x=.pointer (some ⟨g,j,none⟩):=by rw [← Am];exact hx
  have hnew:cur.toList.take j++us++cur.toList.drop (j+us.length)=(xs.take j++us++xs.drop (j+us.length))++cur.toList.drop (m*sz):=by
    have e1:cur.toList.take j=xs.take j:=by rw [← htk,List.take_take,Nat.min_eq_left (by omega)]
    have e2:cur.toList.drop (j+us.length)=xs.drop (j+us.length)++cur.toList.drop (m*sz):=by
      conv=>lhs;rw [hcur]
      rw [List.drop_append_of_le_length (by omega)]
    rw [e1,e2]
    simp
  have hlen:(xs.take j++us++xs.drop (j+us.length)).length=m*sz:=by simp;omega
  refine xU hw hd (w':=w.setRow g (cur.toList.take j++us++cur.toList.drop (j+us.length)).toArray) ?_
    (hk _ ⟨rfl,rfl,rfl,by simp,fun k hk hn'=>setRow_other _ _ _ _ (fun h=>hn' (by subst h;rfl))⟩ ⟨hlen,.inr ⟨g,cap,_,rfl,hb,setRow_heap w g cur _ E (0,0) hg,hn,hm,?_,?_⟩⟩ (by simp))
  · have hsv:(storeVar L ⟨g,j,none⟩ u).run P w=.ok () (w.setRow g (cur.toList.take j++us++cur.toList.drop (j+us.length)).toArray):=by
      unfold storeVar
      rw [hus]
      simp [hS,hst]
    unfold execOp
    simp only [ho,hx',hy,Instr.storeAt,Instr.sureAddr]
    simp [hsv]
  · simp
    omega
  · rw [hnew,List.take_append_of_le_length (by omega),List.take_of_length_le (by omega)]
theorem sL (base:Nat) (t ty e:TypeId) (i:TypeInfo) (size:Nat) (ht:P.underlying t=some (.slice e)) (hi:P.info? e=some i)
    (v:Value) (n:Nat) (xs:List Value) (hown:w.ownsRow base e size v n xs) (c:Nat):(Builtin.append_ #[t,t] ty #[v,.slice none 0 c]).run P w=.ok v w:=by
  rcases hown.2 with ⟨rfl,rfl⟩|⟨g,cap,cur,rfl,_,_,hnc,_⟩
  · simp [Builtin.append_,run_underlying ht,sizeOf,typeInfo,hi,Builtin.lenOf,Builtin.firstCells]
  · simp [Builtin.append_,run_underlying ht,sizeOf,typeInfo,hi,Builtin.lenOf,Builtin.firstCells,hnc,storeCells]
theorem rl (hw:pH n ops o e) {d base:Nat} {x y:Operand} {v2:Value} {m2:Nat} {ys:List Value} (hd:o.dst=some d) (hdn:Nat.blt d n=true)
    (ho:o.op=.call {callee:=.builtin .append,args:=#[x,y],argTypes:=#[T,T]}) (hT:SlTy P T E sz bytes z) (hx:ev e x=v) (hy:ev e y=v2)
    (hown:Ow w base E sz v m xs) (hr:Rd w sz v2 m2 ys) (h1:∀ u ∈ ys,u.oneCell'=true) (hsz:(m+m2)*bytes≤140737488355328) (h63:m+m2≤maxLen) (hbase:base≤w.heap.size)
    (hk:∀ v' w',Ch (fun k=>v.ownBlock=some k) w w'→Ow w' base E sz v' (m+m2) (xs++ys)→(∀ k,v'.ownBlock=some k→v.ownBlock=some k∨w.heap.size≤k)→WL P ops Q rest n (upd e d v') w') :
    WL P ops Q (o :: rest) n e w:=by
  obtain ⟨i0,hi,hz,hs,hb⟩:=hT.info
  have key:∃ v' w',(Builtin.append_ #[T,T] o.type #[v,v2]).run P w=.ok v' w'∧Ow w' base E sz v' (m+m2) (xs++ys)∧w.grownBy w' v.ownBlock∧(∀ k,v'.ownBlock=some k→v.ownBlock=some k∨w.heap.size≤k):=by
    obtain ⟨A,c,rfl,h2,h3,h4,h5⟩:=hr
    rcases A with _|ad
    · have hm:m2=0:=by
        rcases Nat.eq_zero_or_pos m2 with h0|h0
        · exact h0
        · obtain ⟨ad,h,_⟩:=h5 h0
          cases h
      subst hm
      have hn:ys=[]:=List.eq_nil_of_length_eq_zero (by simpa using h4)
      subst hn
      exact ⟨v,w,sL base T o.type E i0 sz hT.under hi v m xs hown c,by simpa using hown,World.grownBy.refl w _,fun k hk=>.inl hk⟩
    · have hcells:∀ j u,ys[j]?=some u→w.cell? (ad.add j)=some u:=by
        intro j u hu
        rcases Nat.eq_zero_or_pos m2 with h0|h0
        · subst h0
          have hn:ys=[]:=List.eq_nil_of_length_eq_zero (by simpa using h4)
          subst hn
          simp at hu
        · obtain ⟨ad',h,hc⟩:=h5 h0
          injection h with h
          subst h
          exact hc j u hu
      obtain ⟨v',w',hrun,h6,h7,_,h9⟩:=run_append_own_at (P:=P) w base T o.type E i0 z sz bytes hT.under hi hz hs hb hT.zs hT.pos v m xs hown ad m2 c ys h4 hcells h1 h63 hsz hbase
      refine ⟨v',w',hrun,h6,h7,fun k hk=>?_⟩
      rcases h9 with h9|h9
      · rw [h9] at hk;exact .inl hk
      · rw [h9] at hk
        injection hk with hk
        exact .inr (by omega)
  obtain ⟨v',w',hrun,h6,h7,h9⟩:=key
  refine oQ hw hd hdn (w':=w') (v:=v') ?_ (hk v' w' (Ch.of_grown h7 |>.mono fun k _ hk=>hk) h6 h9)
  unfold execOp
  simp [ho,hx,hy,resolve,invoke,builtin,hrun]
theorem uh (hw:pH n ops o e) {d base:Nat} {x y:Operand} {v2:Value} {m2:Nat} {ys:List Value} {a0:Option Addr} (hd:o.dst=some d) (hdn:Nat.blt d n=true)
    (ho:o.op=.call {callee:=.builtin .append,args:=#[x,y],argTypes:=#[T,T]}) (hT:SlTy P T E sz bytes z) (hx:ev e x=.slice a0 0 0) (hy:ev e y=v2)
    (hown:Ow w base E sz (.slice a0 0 0) 0 []) (hr:Rd w sz v2 m2 ys) (h1:∀ u ∈ ys,u.oneCell'=true) (hsz:m2*bytes≤140737488355328) (h63:m2≤maxLen) (hbase:base≤w.heap.size)
    (hk:∀ v' w',Keep w w'→Ow w' base E sz v' m2 ys→(∀ a c,v'=.slice a m2 c→c=0∨∀ x,a=some x→w.heap.size≤x.block)→WL P ops Q rest n (upd e d v') w') :
    WL P ops Q (o :: rest) n e w:=by
  obtain ⟨i0,hi,hz,hs,hb⟩:=hT.info
  have key:∃ v' w',(Builtin.append_ #[T,T] o.type #[.slice a0 0 0,v2]).run P w=.ok v' w'∧Keep w w'∧Ow w' base E sz v' m2 ys∧(∀ a c,v'=.slice a m2 c→c=0∨∀ x,a=some x→w.heap.size≤x.block):=by
    obtain ⟨A,c,rfl,h2,h3,h4,h5⟩:=hr
    rcases Nat.eq_zero_or_pos m2 with h0|h0
    · subst h0
      have hn:ys=[]:=List.eq_nil_of_length_eq_zero (by simpa using h4)
      subst hn
      have hrun:(Builtin.append_ #[T,T] o.type #[.slice a0 0 0,.slice A 0 c]).run P w=.ok (.slice a0 0 0) w:=by
        rcases a0 with _|a0 <;> rcases A with _|ad <;> simp [Builtin.append_,run_underlying hT.under,sizeOf,typeInfo,hi,Builtin.lenOf,Builtin.firstCells,loadCells,loadCellsFrom,storeCells]
      refine ⟨_,w,hrun,Ch.refl _ _,hown,fun a c' h=>?_⟩
      injection h with _ _ h
      exact .inl h.symm
    · obtain ⟨ad,rfl,hc⟩:=h5 h0
      have fin:∀ v' w',w'.ownsRow w.heap.size E sz v' (0+m2) ([]++ys)→w.grownBy w' none→Keep w w'∧Ow w' base E sz v' m2 ys∧(∀ a c,v'=.slice a m2 c→c=0∨∀ x,a=some x→w.heap.size≤x.block):=by
        intro v' w' r1 r2
        simp only [Nat.zero_add,List.nil_append] at r1
        exact ⟨(Ch.of_grown r2).mono (fun _ _ h=>by cases h),mO r1 hbase,fun a c' h=>.inr fun x hx=>(nb r1 x.block (by rw [h,hx];rfl)).1⟩
      rcases a0 with _|a0
      · obtain ⟨v',w',hrun,r1,r2,_⟩:=run_append_own_at (P:=P) w w.heap.size T o.type E i0 z sz bytes hT.under hi hz hs hb hT.zs hT.pos (.slice none 0 0) 0 [] ⟨by simp,.inl ⟨rfl,rfl⟩⟩ ad m2 c ys h4 hc h1 (by omega) (by simpa using hsz) (Nat.le_refl _)
        obtain ⟨f1,f2,f3⟩:=fin v' w' r1 r2
        exact ⟨v',w',hrun,f1,f2,f3⟩
      · obtain ⟨v',w',hrun,r1,r2⟩:=run_append_arg_grows (P:=P) w T o.type E i0 z sz bytes hT.under hi hz hs hb hT.zs hT.pos a0 0 0 [] (by simp) (fun j u hu=>by simp at hu) ad m2 c ys h4 hc (by omega) (by omega) (by simpa using hsz)
        obtain ⟨f1,f2,f3⟩:=fin v' w' r1 r2
        exact ⟨v',w',hrun,f1,f2,f3⟩
  obtain ⟨v',w',hrun,f1,f2,f3⟩:=key
  refine oQ hw hd hdn (w':=w') (v:=v') ?_ (hk v' w' f1 f2 f3)
  unfold execOp
  simp [ho,hx,hy,resolve,invoke,builtin,hrun]
theorem nF (hw:pH n ops o e) {d:Nat} (hd:o.dst=some d) (hdn:Nat.blt d n=true) (hT:SlTy P T E sz bytes z)
    (hr:∀ w,(execOp (ev e) o).run P w=.ok (.value (.slice (some ⟨w.heap.size,0,none⟩) 0 0)) (w.alloc (.cells #[] E)))
    (hk:∀ a w',Keep w w'→Ow w' w.heap.size E sz (.slice (some a) 0 0) 0 []→WL P ops Q rest n (upd e d (.slice (some a) 0 0)) w'):WL P ops Q (o :: rest) n e w:=by
  refine oQ hw hd hdn (hr w) (hk _ _ (Ch.alloc _ _) ⟨by simp,.inr ⟨_,0,_,rfl,Nat.le_refl _,heap_alloc_new _ _,Nat.le_refl _,by simp [maxLen],by simp,by simp⟩⟩)
theorem sh (cs:List Value) (hw:pH n ops o e) {d:Nat} (hd:o.dst=some d) (hdn:Nat.blt d n=true) (hT:SlTy P T E sz bytes z) (hm:cs.length=m*sz) (hmx:m≤maxLen)
    (hr:∀ w,(execOp (ev e) o).run P w=.ok (.value (.slice (some ⟨w.heap.size,0,none⟩) m m)) (w.alloc (.cells cs.toArray E)))
    (hk:∀ v w',Keep w w'→Ow w' w.heap.size E sz v m cs→WL P ops Q rest n (upd e d v) w'):WL P ops Q (o :: rest) n e w:=by
  refine oQ hw hd hdn (hr w) (hk _ _ (Ch.alloc _ _) ⟨hm,.inr ⟨_,m,_,rfl,Nat.le_refl _,heap_alloc_new _ _,Nat.le_refl _,hmx,?_,?_⟩⟩)
  · simpa using hm
  · simp [← hm]
theorem AU (hw:pH n ops o e) {d:Nat} {x:Operand} (hd:o.dst=some d) (hdn:Nat.blt d n=true) (ho:o.op=.makeSlice T x x) (hT:SlTy P T E sz bytes z) (i:Int) (hx:ev e x=.int .i64 i) (h0:0≤i)
    (hsz:i*bytes≤281474976710656) (h63:i≤9223372036854775807)
    (hk:∀ v w',Keep w w'→Ow w' w.heap.size E sz v i.toNat (madeCells z.cells (i.toNat*sz)).toList→WL P ops Q rest n (upd e d v) w'):WL P ops Q (o :: rest) n e w:=by
  obtain ⟨i0,hi,hz,hs,hb⟩:=hT.info
  have hrun:=run_make (P:=P) w T E i0 z hT.under hi hz .i64 .i64 i i h0 (Int.le_refl _) (by rw [hb,Int.mul_comm];exact hsz) h63
  rw [hs] at hrun
  have hmc:(madeCells z.cells (i.toNat*sz)).size=i.toNat*sz:=by simp [madeCells]
  refine oQ hw hd hdn (w':=w.alloc (.cells (madeCells z.cells (i.toNat*sz)) E)) (v:=.slice (some ⟨w.heap.size,0,none⟩) i.toNat i.toNat) ?_
    (hk _ _ (Ch.alloc _ _) ⟨by simpa using hmc,.inr ⟨_,i.toNat,_,rfl,Nat.le_refl _,heap_alloc_new _ _,Nat.le_refl _,by simp only [maxLen];omega,hmc,?_⟩⟩)
  · unfold execOp
    simp [ho,hx,hrun]
  · rw [List.take_of_length_le (by simp [hmc])]
end sl
section draw
variable {P : Program} {Q : Exit → Act → World → Prop} {n : Nat} {e : Env} {w : World}
abbrev GV:=List (Nat×List Nat×List Nat×(Env→Value→World→Prop))
def BG (w:World) (K:Env→Prop):GV→Env→Prop
  | [],e=>K e
  | (d,_,_,G) :: r,e=>∀ v,G e v w→BG w K r (upd e d v)
def AQ (w:World) (K:Env→Prop) (deps:List Nat):Nat→GV→Env→Prop
  | _,[],e=>K e
  | i,(d,_,_,G) :: r,e=>match deps.elem i with
    | true=>∀ v,G e v w→AQ w K deps (i+1) r (upd e d v)
    | false=>∀ v,AQ w K deps (i+1) r (upd e d v)
def pp (o:Oper):List Nat:=(o.after.toList.filter (Region.binds .any)).map (·.on)
def wz:GV→Prop
  | []=>True
  | (_,ds,_,G) :: r=>(∀ e v w w',G e v w→Keep w w'→G e v w')∧(∀ e1 e2 v w,(∀ x ∈ ds,e1 x=e2 x)→G e1 v w→G e2 v w)∧wz r
def QF (Q:Exit→Act→World→Prop) (n d:Nat) (G:Env→Value→World→Prop) (w:World) (e:Env):Exit→Act→World→Prop :=
  Exit.then (fun a w'=>∃ v,Fits n (upd e d v) a∧G e v w'∧Keep w w') Q
def xk (P:Program) (ops:Array Oper) (Q:Exit→Act→World→Prop) (n:Nat) (w0:World) (e:Env) (Gs:GV):List Oper→GV→Prop
  | o :: r,(d,_,cl,G) :: gs=>(∀ w,Keep w0 w→AQ w (fun e'=>WL P ops (QF Q n d G w e') [o] n e' w) cl 0 Gs e)∧xk P ops Q n w0 e Gs r gs
  | _,_=>True
def sP (n:Nat) (Gs:GV):List Nat→List Oper→GV→Bool
  | _,_,[]=>true
  | seen,o :: r,(d,ds,cl,_) :: gs=>(o.dst == some d) && Nat.blt d n && !seen.elem d && (ds.all fun x=>cl.any fun j=>(Gs[j]?).any fun p=>Nat.beq p.1 x) &&
    (cl.all fun x=>(pp o).elem x || (pp o).any fun j=>(Gs[j]?).any fun p=>p.2.2.1.elem x) && sP n Gs (d :: seen) r gs
  | _,[],_ :: _=>false
def sQ (k:Nat):Nat→List Oper→Bool
  | _,[]=>true
  | i,o :: r=>(pp o).all (fun j=>Nat.blt j i) && (Nat.blt i k || (List.range i).all fun j=>(pp o).elem j) && sQ k (i+1) r
theorem rB {ops:Array Oper} {d:Nat} {G:Env→Value→World→Prop} {v:Value} {w':World} (hk:Keep w w') (h:G e v w'):WL P ops (QF Q n d G w e) [] n (upd e d v) w' :=
  fun a ha=>⟨v,ha,h,hk⟩
theorem xt {o:Oper} {a:Act} {K:Act→World→Prop} {Q Q':Exit→Act→World→Prop} (hp:∀ ch a w,Q (.panic ch) a w→Q' (.panic ch) a w) (ho:∀ a w,Q .outgrown a w→Q' .outgrown a w)
    (h:o.wp P a w K Q):o.wp P a w K Q':=by
  unfold Oper.wp at *
  generalize (execOp a.eval o).run P w=r at *
  cases r with
  | ok nx w' =>
    cases nx <;> simp only [Oper.upon] at h ⊢ <;> first|exact h|skip
    refine Calls.mono h fun en w'' he=>?_
    cases en
    · exact he
    · exact hp _ _ _ he
    · obtain ⟨a0,w0,h0⟩:=he
      exact ⟨a0,w0,ho _ _ h0⟩
  | halt x w'=>cases x <;> simp only [Oper.upon] at h ⊢ <;> first|exact h|exact hp _ _ _ h
theorem ud {ops:Array Oper} {i:Nat} {o:Oper} {a:Act} {K:Act→World→Prop} {M:Act→World→Prop} (ho:ops[i]?=some o) (hf:Fits n e a) (h:WL P ops (Exit.then M Q) [o] n e w) (hK:∀ a w,M a w→K a w):wpOp P ops Q i K a w:=by
  have:=h a hf
  unfold wpOp
  simp only [ho]
  unfold wpList at this
  split
  · rename_i hw
    rw [if_pos hw] at this
    rcases this with this|⟨h1,a0,w0,h2⟩
    · left
      exact xt (fun _ _ _ x=>x) (fun _ _ x=>x) (Oper.wp_mono (fun a w hh=>hK a w hh) this)
    · exact .inr ⟨h1,a0,w0,h2⟩
  · rename_i hw
    rw [if_neg hw] at this
    exact hK _ _ this
theorem sD {K:Env→Prop} {deps:List Nat} {e':Env}:∀ (gs:GV) (i:Nat) (e:Env),AQ w K deps i gs e →
    (∀ j d ds cl G,gs[j]?=some (d,ds,cl,G)→deps.elem (i+j)=true→G ((gs.take j).foldl (fun e p=>upd e p.1 (e' p.1)) e) (e' d) w) →
    K (gs.foldl (fun e p=>upd e p.1 (e' p.1)) e)
  | [],_,_,h,_=>h
  | (d,ds,cl,G) :: r,i,e,h,hd=>by
    have hr:∀ j d' ds' cl' G',r[j]?=some (d',ds',cl',G')→deps.elem (i+1+j)=true→G' ((r.take j).foldl (fun e p=>upd e p.1 (e' p.1)) (upd e d (e' d))) (e' d') w :=
      fun j d' ds' cl' G' hj he=>hd (j+1) d' ds' cl' G' (by simpa using hj) (by rwa [show i+(j+1)=i+1+j by omega])
    unfold AQ at h
    split at h
    · rename_i hel
      exact sD r (i+1) _ (h (e' d) (hd 0 d ds cl G rfl (by simpa using hel))) hr
    · exact sD r (i+1) _ (h (e' d)) hr
theorem tS {K:Env→Prop} {e':Env}:∀ (gs:GV) (e:Env),BG w K gs e→(∀ (j d:Nat) (ds cl:List Nat) (G:Env→Value→World→Prop),gs[j]?=some (d,ds,cl,G)→G ((gs.take j).foldl (fun e p=>upd e p.1 (e' p.1)) e) (e' d) w) →
    K (gs.foldl (fun e p=>upd e p.1 (e' p.1)) e)
  | [],_,h,_=>h
  | (d,ds,cl,G) :: r,e,h,hd=>tS r _ (h (e' d) (hd 0 d ds cl G rfl)) fun j d' ds' cl' G' hj=>hd (j+1) d' ds' cl' G' (by simpa using hj)
theorem uK {e':Env}:∀ (gs:GV) (e:Env) (t:Nat),(∀ p ∈ gs,p.1 ≠ t)→(gs.foldl (fun e p=>upd e p.1 (e' p.1)) e) t=e t
  | [],_,_,_=>rfl
  | (d,ds,cl,G) :: r,e,t,h=>by
    have:=uK (e':=e') r (upd e d (e' d)) t (fun p hp=>h p (List.mem_cons_of_mem _ hp))
    simp only [List.foldl_cons]
    rw [this,qU,if_neg (fun ht=>h (d,ds,cl,G) List.mem_cons_self ht.symm)]
theorem ws {e':Env}:∀ (gs:GV) (e:Env) (t:Nat),(∃ p ∈ gs,p.1=t)→(gs.foldl (fun e p=>upd e p.1 (e' p.1)) e) t=e' t
  | [],_,_,h=>by obtain ⟨p,hp,_⟩:=h;cases hp
  | (d,ds,cl,G) :: r,e,t,h=>by
    simp only [List.foldl_cons]
    by_cases hr:∃ p ∈ r,p.1=t
    · exact ws r _ t hr
    · rw [uK r _ t (fun p hp ht=>hr ⟨p,hp,ht⟩),qU]
      obtain ⟨p,hp,ht⟩:=h
      rcases List.mem_cons.1 hp with rfl|hp
      · have ht':d=t:=ht
        rw [if_pos ht'.symm,ht']
      · exact absurd ⟨p,hp,ht⟩ hr
theorem uL {e':Env} (gs:GV) (e:Env) (h:∀ t,(∀ p ∈ gs,p.1 ≠ t)→e' t=e t):gs.foldl (fun e p=>upd e p.1 (e' p.1)) e=e':=by
  funext t
  by_cases hr:∃ p ∈ gs,p.1=t
  · exact ws gs e t hr
  · rw [uK gs e t (fun p hp ht=>hr ⟨p,hp,ht⟩)]
    exact (h t (fun p hp ht=>hr ⟨p,hp,ht⟩)).symm
theorem tc {Gs:GV}:∀ (gs:GV) (seen:List Nat) (l:List Oper),sP n Gs seen l gs=true →
    (∀ (j d:Nat) (ds cl:List Nat) (G:Env→Value→World→Prop),gs[j]?=some (d,ds,cl,G)→(∃ o:Oper,l[j]?=some o∧o.dst=some d∧(∀ x ∈ ds,∃ i ∈ cl,∃ p,Gs[i]?=some p∧p.1=x) ∧
      (∀ x ∈ cl,x ∈ pp o∨∃ i ∈ pp o,∃ p,Gs[i]?=some p∧x ∈ p.2.2.1))∧d < n∧d ∉ seen) ∧
    (∀ (i j d:Nat) (ds ds' cl cl':List Nat) (G G':Env→Value→World→Prop),gs[i]?=some (d,ds,cl,G)→gs[j]?=some (d,ds',cl',G')→i=j)
  | [],_,_,_=>⟨fun j d ds cl G h=>by simp at h,fun i j d ds ds' cl cl' G G' h=>by simp at h⟩
  | (d0,ds0,cl0,G0) :: r,seen,[],h=>by simp [sP] at h
  | (d0,ds0,cl0,G0) :: r,seen,o :: l,h=>by
    simp only [sP,Bool.and_eq_true,beq_iff_eq,Bool.not_eq_true'] at h
    obtain ⟨⟨⟨⟨⟨h1,h2⟩,h3⟩,h5⟩,h6⟩,h4⟩:=h
    obtain ⟨ih1,ih2⟩:=tc r (d0 :: seen) l h4
    refine ⟨fun j d ds cl G hj=>?_,fun i j d ds ds' cl cl' G G' hi hj=>?_⟩
    · cases j with
      | zero =>
        simp at hj
        obtain ⟨rfl,rfl,rfl,rfl⟩:=hj
        refine ⟨⟨o,rfl,h1,fun x hx=>?_,fun x hx=>?_⟩,by simpa using h2,by simpa using h3⟩
        · obtain ⟨i,hi,hq⟩:=List.any_eq_true.1 (List.all_eq_true.1 h5 x hx)
          cases hp:Gs[i]? with
          | none=>simp [hp] at hq
          | some p=>exact ⟨i,hi,p,hp,by simpa [hp] using hq⟩
        · have hq:=List.all_eq_true.1 h6 x hx
          rcases Bool.or_eq_true_iff.1 hq with hq|hq
          · exact .inl (List.mem_of_elem_eq_true hq)
          · obtain ⟨i,hi,hq⟩:=List.any_eq_true.1 hq
            cases hp:Gs[i]? with
            | none=>simp [hp] at hq
            | some p=>exact .inr ⟨i,hi,p,hp,by simpa [hp] using hq⟩
      | succ j =>
        obtain ⟨a,b,c⟩:=ih1 j d ds cl G (by simpa using hj)
        exact ⟨by simpa using a,b,fun hm=>c (List.mem_cons_of_mem _ hm)⟩
    · cases i with
      | zero =>
        cases j with
        | zero=>rfl
        | succ j =>
          simp at hi
          obtain ⟨rfl,rfl,rfl,rfl⟩:=hi
          exact absurd List.mem_cons_self (ih1 j d0 ds' cl' G' (by simpa using hj)).2.2
      | succ i =>
        cases j with
        | zero =>
          simp at hj
          obtain ⟨rfl,rfl,rfl,rfl⟩:=hj
          exact absurd List.mem_cons_self (ih1 i d0 ds cl G (by simpa using hi)).2.2
        | succ j=>rw [ih2 i j d ds ds' cl cl' G G' (by simpa using hi) (by simpa using hj)]
theorem ps {k:Nat}:∀ (l:List Oper) (i0:Nat),sQ k i0 l=true→∀ (j:Nat) (o:Oper),l[j]?=some o→(∀ x ∈ pp o,x < i0+j)∧(k≤i0+j→∀ x,x < i0+j→x ∈ pp o)
  | [],_,_,j,o,h=>by simp at h
  | o0 :: r,i0,h,j,o,hj=>by
    simp only [sQ,Bool.and_eq_true,Bool.or_eq_true] at h
    obtain ⟨⟨h1,h2⟩,h3⟩:=h
    cases j with
    | zero =>
      simp at hj
      subst hj
      refine ⟨fun x hx=>by simpa using List.all_eq_true.1 h1 x hx,fun hk x hx=>?_⟩
      rcases h2 with h2|h2
      · have:i0 < k:=by simpa using h2
        omega
      · exact List.mem_of_elem_eq_true (List.all_eq_true.1 h2 x (List.mem_range.2 (by simpa using hx)))
    | succ j =>
      have:=ps r (i0+1) h3 j o (by simpa using hj)
      rwa [show i0+1+j=i0+(j+1) by omega] at this
theorem pL:∀ (gs:GV),wz gs→∀ (j d:Nat) (ds cl:List Nat) (G:Env→Value→World→Prop),gs[j]?=some (d,ds,cl,G) →
    (∀ e v w w',G e v w→Keep w w'→G e v w')∧(∀ e1 e2 v w,(∀ x ∈ ds,e1 x=e2 x)→G e1 v w→G e2 v w)
  | [],_,j,d,ds,cl,G,h=>by simp at h
  | (d0,ds0,cl0,G0) :: r,hs,j,d,ds,cl,G,hj=>by
    cases j with
    | zero=>simp at hj;obtain ⟨rfl,rfl,rfl,rfl⟩:=hj;exact ⟨hs.1,hs.2.1⟩
    | succ j=>exact pL r hs.2.2 j d ds cl G (by simpa using hj)
theorem tA {ops:Array Oper} {w0:World} {Gs:GV}:∀ (l:List Oper) (gs:GV),xk P ops Q n w0 e Gs l gs→∀ (j:Nat) (o:Oper) (d:Nat) (ds cl:List Nat) (G:Env→Value→World→Prop),l[j]?=some o→gs[j]?=some (d,ds,cl,G) →
    ∀ w,Keep w0 w→AQ w (fun e'=>WL P ops (QF Q n d G w e') [o] n e' w) cl 0 Gs e
  | o0 :: r,(d0,ds0,cl0,G0) :: gs,hs,j,o,d,ds,cl,G,ho,hg=>by
    cases j with
    | zero=>simp at ho hg;obtain ⟨rfl,rfl,rfl,rfl⟩:=hg;subst ho;exact hs.1
    | succ j=>exact tA r gs hs.2 j o d ds cl G (by simpa using ho) (by simpa using hg)
  | [],_,_,j,o,d,ds,cl,G,ho,_=>by simp at ho
  | _ :: _,[],_,j,o,d,ds,cl,G,_,hg=>by simp at hg
theorem vK {e':Env} (gs:GV) (e:Env) (j i:Nat) (p:Nat×List Nat×List Nat×(Env→Value→World→Prop)) (hp:gs[i]?=some p) (hij:i < j):((gs.take j).foldl (fun e p=>upd e p.1 (e' p.1)) e) p.1=e' p.1 :=
  ws (gs.take j) e p.1 ⟨p,List.mem_of_getElem? (by rw [List.getElem?_take_of_lt hij];exact hp),rfl⟩
theorem py {l:List Oper} {listed:Array Bool} {i:Nat}:i ∈ Region.ready .any l.toArray listed↔listed.getD i true=false∧∃ o,l[i]?=some o∧∀ j ∈ pp o,listed.getD j false=true:=by
  rw [mem_ready]
  have:∀ o:Oper,(∀ e ∈ o.after,Region.binds .any e=true→listed.getD e.on false=true)↔(∀ j ∈ pp o,listed.getD j false=true):=by
    intro o
    simp [pp]
    constructor
    · rintro h j x hx hb rfl;exact h x hx hb
    · intro h x hx hb;exact h _ x hx hb rfl
  simp only [List.getElem?_toArray,this]
theorem pa {listed:Array Bool} {i:Nat} (hi:i < listed.size) (a b:Bool):listed.getD i a=listed.getD i b:=by simp [Array.getD,hi]
theorem yE {l:List Oper} {k:Nat} (he:sQ k 0 l=true):∀ (fuel m:Nat) (listed:Array Bool) (a:Act) (w:World),k≤m→m≤l.length→l.length≤m+fuel→listed.size=l.length →
    (∀ i,i < l.length→listed.getD i false=decide (i < m))→wpList P l.toArray Q (l.drop m) a w→wpAny P .any l.toArray Q fuel listed a w:=by
  intro fuel
  induction fuel with
  | zero =>
    intro m listed a w hk hm hf hs hl h
    have:m=l.length:=by omega
    subst this
    refine ⟨List.eq_nil_iff_forall_not_mem.2 fun i hi=>?_,by simpa [wpList] using h⟩
    obtain ⟨h1,o,ho,-⟩:=py.1 hi
    have hi':i < l.length:=(List.getElem?_eq_some_iff.1 ho).1
    rw [pa (by omega) true false,hl i hi'] at h1
    simp [hi'] at h1
  | succ fuel ih =>
    intro m listed a w hk hm hf hs hl h
    have only:∀ i,i ∈ Region.ready .any l.toArray listed→i=m:=by
      intro i hi
      obtain ⟨h1,o,ho,hd⟩:=py.1 hi
      have hi':i < l.length:=(List.getElem?_eq_some_iff.1 ho).1
      rw [pa (by omega) true false,hl i hi'] at h1
      have hmi:m≤i:=by simpa using h1
      rcases Nat.lt_or_eq_of_le hmi with hlt|heq
      · have:=hd m ((ps l 0 he i o ho).2 (by omega) m (by omega))
        rw [hl m (by omega)] at this
        simp at this
      · exact heq.symm
    rcases Nat.lt_or_eq_of_le hm with hlt|heq
    · have hmem:m ∈ Region.ready .any l.toArray listed:=by
        refine py.2 ⟨by rw [pa (by omega) true false,hl m hlt];simp,l[m],List.getElem?_eq_getElem hlt,fun j hj=>?_⟩
        have:=(ps l 0 he m _ (List.getElem?_eq_getElem hlt)).1 j hj
        rw [hl j (by omega)]
        simpa using this
      refine ⟨(fun hn=>by rw [hn] at hmem;cases hmem),fun i hi=>?_⟩
      obtain rfl:=only i hi
      rw [List.drop_eq_getElem_cons hlt] at h
      unfold wpList at h
      have hnext:∀ a w,wpList P l.toArray Q (l.drop (i+1)) a w→wpAny P .any l.toArray Q fuel (listed.setIfInBounds i true) a w:=fun a w hh =>
        ih (i+1) _ a w (by omega) (by omega) (by omega) (by simpa using hs) (fun j hj=>by
          by_cases hji:j=i
          · subst hji;simp [Array.getD,hs,hj]
          · rw [getD_set_ne false (fun hh=>hji hh.symm),hl j hj]
            simp only [decide_eq_decide];omega) hh
      unfold wpOp
      simp only [List.getElem?_toArray,List.getElem?_eq_getElem hlt]
      split
      · rename_i hw;rw [if_pos hw] at h
        exact h.imp (Oper.wp_mono hnext) id
      · rename_i hw;rw [if_neg hw] at h
        exact hnext _ _ h
    · refine ⟨fun _=>by rw [heq] at h;simpa [wpList] using h,fun i hi=>?_⟩
      obtain rfl:=only i hi
      obtain ⟨h1,o,ho,-⟩:=py.1 hi
      have:=(List.getElem?_eq_some_iff.1 ho).1
      omega
theorem xB {l:List Oper} {Gs:GV} {w0:World} (he:sQ Gs.length 0 l=true) (hf:sP n Gs [] l Gs=true) (hst:wz Gs) (hsv:xk P l.toArray Q n w0 e Gs l Gs) (hlen:Gs.length≤l.length)
    (hk:∀ w,Keep w0 w→BG w (fun e'=>WL P l.toArray Q (l.drop Gs.length) n e' w) Gs e) :
    ∀ (fuel:Nat) (listed:Array Bool) (a:Act) (e':Env) (w:World),Fits n e' a→Keep w0 w→listed.size=l.length →
      (∀ i,Gs.length≤i→listed.getD i false=false)→(∀ t,(∀ p ∈ Gs,p.1 ≠ t)→e' t=e t)→(∀ j d ds cl G,Gs[j]?=some (d,ds,cl,G)→listed.getD j false=true→G e' (e' d) w) →
      (∀ j o,l[j]?=some o→j < Gs.length→listed.getD j false=true→∀ x ∈ pp o,listed.getD x false=true) →
      ((List.range l.length).filter fun i=>!listed.getD i true).length≤fuel→wpAny P .any l.toArray Q fuel listed a w:=by
  obtain ⟨hf1,hf2⟩:=tc (Gs:=Gs) Gs [] l hf
  intro fuel
  have cllt:∀ (j d:Nat) (ds cl:List Nat) (G:Env→Value→World→Prop),Gs[j]?=some (d,ds,cl,G)→∀ x ∈ cl,x < j:=by
    intro j
    induction j using Nat.strongRecOn with
    | _ j ih =>
      intro d ds cl G hj x hx
      obtain ⟨⟨o,ho,-,-,hcl⟩,-⟩:=hf1 j d ds cl G hj
      rcases hcl x hx with h|⟨i,hi,p,hp,hxp⟩
      · have:=(ps l 0 he j o ho).1 x h;omega
      · have h1:=(ps l 0 he j o ho).1 i hi
        have:=ih i (by omega) p.1 p.2.1 p.2.2.1 p.2.2.2 hp x hxp
        omega
  have clin:∀ (listed:Array Bool),(∀ j o,l[j]?=some o→j < Gs.length→listed.getD j false=true→∀ x ∈ pp o,listed.getD x false=true) →
      ∀ (j d:Nat) (ds cl:List Nat) (G:Env→Value→World→Prop),Gs[j]?=some (d,ds,cl,G)→(∀ o,l[j]?=some o→∀ x ∈ pp o,listed.getD x false=true)→∀ x ∈ cl,listed.getD x false=true:=by
    intro listed hcl0 j
    induction j using Nat.strongRecOn with
    | _ j ih =>
      intro d ds cl G hj hd x hx
      obtain ⟨⟨o,ho,-,-,hcl⟩,-⟩:=hf1 j d ds cl G hj
      rcases hcl x hx with h|⟨i,hi,p,hp,hxp⟩
      · exact hd o ho x h
      · have h1:=(ps l 0 he j o ho).1 i hi
        exact ih i (by omega) p.1 p.2.1 p.2.2.1 p.2.2.2 hp (fun o' ho'=>hcl0 i o' ho' (List.getElem?_eq_some_iff.1 hp).1 (hd o ho i hi)) x hxp
  -- a fact may be said of the Cw of updates in place of the environment
  have loc:∀ (j d:Nat) (ds cl:List Nat) (G:Env→Value→World→Prop),Gs[j]?=some (d,ds,cl,G)→∀ (e':Env) (w:World),G e' (e' d) w→G ((Gs.take j).foldl (fun e p=>upd e p.1 (e' p.1)) e) (e' d) w:=by
    intro j d ds cl G hj e' w hG
    refine (pL Gs hst j d ds cl G hj).2 e' _ _ _ (fun x hx=>?_) hG
    obtain ⟨⟨o,ho,-,hds,-⟩,-⟩:=hf1 j d ds cl G hj
    obtain ⟨i,hi,p,hp,rfl⟩:=hds x hx
    exact (vK Gs e j i p hp (cllt j d ds cl G hj i hi)).symm
  -- all of the front is done
  have done:∀ (fuel:Nat) (listed:Array Bool) (a:Act) (e':Env) (w:World),Fits n e' a→Keep w0 w→listed.size=l.length→(∀ i,Gs.length≤i→listed.getD i false=false) →
      (∀ t,(∀ p ∈ Gs,p.1 ≠ t)→e' t=e t)→(∀ j d ds cl G,Gs[j]?=some (d,ds,cl,G)→listed.getD j false=true→G e' (e' d) w)→(∀ i,i < Gs.length→listed.getD i false=true) →
      ((List.range l.length).filter fun i=>!listed.getD i true).length≤fuel→wpAny P .any l.toArray Q fuel listed a w:=by
    intro fuel listed a e' w ha hw hs hb ho hG hall hc
    have hK:=tS (e':=e') Gs e (hk w hw) fun j d ds cl G hj=>loc j d ds cl G hj e' w (hG j d ds cl G hj (hall j (List.getElem?_eq_some_iff.1 hj).1))
    rw [uL Gs e ho] at hK
    have hl:∀ i,i < l.length→listed.getD i false=decide (i < Gs.length):=fun i hi=>by
      by_cases h:i < Gs.length
      · simp [h,hall i h]
      · simp [h,hb i (by omega)]
    refine yE he fuel Gs.length listed a w (Nat.le_refl _) hlen ?_ hs hl (hK a ha)
    have hcount:∀ (N:Nat),N≤l.length→N - Gs.length≤((List.range N).filter fun i=>!listed.getD i true).length:=by
      intro N
      induction N with
      | zero=>intro _;omega
      | succ N ih =>
        intro hN
        rw [List.range_succ,List.filter_append,List.length_append]
        have:=ih (by omega)
        by_cases hNk:Gs.length≤N
        · have hf:listed.getD N true=false:=by rw [pa (by omega) true false];exact hb N hNk
          simp only [List.filter_cons,List.filter_nil,hf,Bool.not_false,if_true,List.length_cons,List.length_nil]
          omega
        · omega
    have:=hcount l.length (Nat.le_refl _)
    omega
  induction fuel with
  | zero =>
    intro listed a e' w ha hw hs hb ho hG hcl hc
    refine done 0 listed a e' w ha hw hs hb ho hG (fun i hi=>?_) hc
    have hnil:((List.range l.length).filter fun i=>!listed.getD i true)=[]:=List.eq_nil_of_length_eq_zero (by omega)
    have hni:i ∉ ((List.range l.length).filter fun i=>!listed.getD i true):=by rw [hnil];simp
    rw [List.mem_filter,List.mem_range] at hni
    have hil:i < l.length:=by omega
    rw [pa (by omega) false true]
    cases h:listed.getD i true
    · exact absurd ⟨hil,by simp [h]⟩ hni
    · rfl
  | succ fuel ih =>
    intro listed a e' w ha hw hs hb ho hG hcl hc
    by_cases hall:∀ i,i < Gs.length→listed.getD i false=true
    · exact done (fuel+1) listed a e' w ha hw hs hb ho hG hall hc
    · -- the least one that is not listed is ready
      have hex:∃ i,i < Gs.length∧listed.getD i false=false∧∀ j,j < i→listed.getD j false=true:=by
        have:∃ i,i < Gs.length∧listed.getD i false=false:=by
          refine Classical.byContradiction fun hn=>hall fun i hi=>?_
          cases h:listed.getD i false
          · exact absurd ⟨i,hi,h⟩ hn
          · rfl
        obtain ⟨i,hi⟩:=this
        induction i using Nat.strongRecOn with
        | _ i ihh =>
          by_cases hj:∃ j,j < i∧listed.getD j false=false
          · obtain ⟨j,hj1,hj2⟩:=hj
            exact ihh j hj1 ⟨by omega,hj2⟩
          · refine ⟨i,hi.1,hi.2,fun j hji=>?_⟩
            cases h:listed.getD j false
            · exact absurd ⟨j,hji,h⟩ hj
            · rfl
      obtain ⟨i0,hi0,hi1,hi2⟩:=hex
      have hmem:i0 ∈ Region.ready .any l.toArray listed:=by
        refine py.2 ⟨by rw [pa (by omega) true false];exact hi1,l[i0],List.getElem?_eq_getElem (by omega),fun j hj=>hi2 j ?_⟩
        have:=(ps l 0 he i0 _ (List.getElem?_eq_getElem (by omega))).1 j hj
        omega
      refine ⟨(fun hn=>by rw [hn] at hmem;cases hmem),fun i hi=>?_⟩
      obtain ⟨h1,o,hol,hd⟩:=py.1 hi
      have hil:i < l.length:=(List.getElem?_eq_some_iff.1 hol).1
      rw [pa (by omega) true false] at h1
      have hik:i < Gs.length:=by
        refine Classical.byContradiction fun hn=>?_
        have:=hd i0 ((ps l 0 he i o hol).2 (by omega) i0 (by omega))
        rw [hi1] at this
        cases this
      have hg:Gs[i]?=some (Gs[i].1,Gs[i].2.1,Gs[i].2.2.1,Gs[i].2.2.2):=List.getElem?_eq_getElem hik
      have hstep:=tA l Gs hsv i o _ _ _ _ hol hg w hw
      have hWL:=sD (e':=e') Gs 0 e hstep fun j d ds cl G hj hel=>loc j d ds cl G hj e' w (hG j d ds cl G hj (clin listed hcl i _ _ _ _ hg (fun o' ho'=>by rw [hol] at ho';injection ho' with ho';subst ho';exact hd) j (List.mem_of_elem_eq_true (by simpa using hel))))
      rw [uL Gs e ho] at hWL
      refine ud (by simpa using hol) ha hWL fun a' w' hM=>?_
      obtain ⟨v,hfit,hgv,hkp⟩:=hM
      refine ih (listed.setIfInBounds i true) a' _ w' hfit (hw.trans hkp) (by simpa using hs) (fun j hj=>?_) (fun t ht=>?_) (fun j d ds cl G hj hlj=>?_) (fun j o' ho' hjk hlj x hx=>?_) ?_
      · rw [getD_set_ne false (by omega)];exact hb j hj
      · rw [qU,if_neg (fun h=>ht Gs[i] (List.getElem_mem hik) h.symm)];exact ho t ht
      · by_cases hji:j=i
        · subst hji
          rw [hg] at hj
          injection hj with hj
          injection hj with hj1 hj2
          injection hj2 with hj2 hj3
          injection hj3 with hj3 hj4
          subst hj1;subst hj2;subst hj3;subst hj4
          rw [qU,if_pos rfl]
          refine (pL Gs hst j _ _ _ _ hg).2 e' _ _ _ (fun x hx=>?_) hgv
          obtain ⟨⟨o2,ho2,-,hds,-⟩,-⟩:=hf1 j _ _ _ _ hg
          obtain ⟨i2,hi2',p,hp,rfl⟩:=hds x hx
          have hlt:=cllt j _ _ _ _ hg i2 hi2'
          have hne:p.1 ≠ Gs[j].1:=fun h=>by
            have:=hf2 i2 j p.1 p.2.1 Gs[j].2.1 p.2.2.1 Gs[j].2.2.1 p.2.2.2 Gs[j].2.2.2 hp (by rw [h];exact hg)
            omega
          rw [qU,if_neg hne]
        · rw [getD_set_ne false (fun h=>hji h.symm)] at hlj
          have hne:d ≠ Gs[i].1:=fun h=>hji (hf2 j i d ds Gs[i].2.1 cl Gs[i].2.2.1 G Gs[i].2.2.2 hj (by rw [h];exact hg))
          rw [qU,if_neg hne]
          refine (pL Gs hst j d ds cl G hj).2 e' _ _ _ (fun x hx=>?_) ((pL Gs hst j d ds cl G hj).1 _ _ _ _ (hG j d ds cl G hj hlj) hkp)
          obtain ⟨⟨o2,ho2,-,hds,-⟩,-⟩:=hf1 j d ds cl G hj
          obtain ⟨i2,hi2',p,hp,rfl⟩:=hds x hx
          have hli:=clin listed hcl j d ds cl G hj (fun o' ho'=>hcl j o' ho' (List.getElem?_eq_some_iff.1 hj).1 hlj) i2 hi2'
          have hne2:p.1 ≠ Gs[i].1:=fun h=>by
            have:=hf2 i2 i p.1 p.2.1 Gs[i].2.1 p.2.2.1 Gs[i].2.2.1 p.2.2.2 Gs[i].2.2.2 hp (by rw [h];exact hg)
            subst this
            rw [h1] at hli
            cases hli
          rw [qU,if_neg hne2]
      · by_cases hji:j=i
        · subst hji
          rw [hol] at ho'
          injection ho' with ho'
          subst ho'
          exact getD_set_true (hd x hx)
        · rw [getD_set_ne false (fun h=>hji h.symm)] at hlj
          exact getD_set_true (hcl j o' ho' hjk hlj x hx)
      · have hlt:((List.range l.length).filter fun j=>!(listed.setIfInBounds i true).getD j true).length < ((List.range l.length).filter fun j=>!listed.getD j true).length:=by
          have hsub:∀ (N:Nat),N≤l.length→((List.range N).filter fun j=>!(listed.setIfInBounds i true).getD j true).length+(if i < N then 1 else 0)=((List.range N).filter fun j=>!listed.getD j true).length:=by
            intro N
            induction N with
            | zero=>intro _;simp
            | succ N ihN =>
              intro hN
              have:=ihN (by omega)
              rw [List.range_succ,List.filter_append,List.filter_append,List.length_append,List.length_append]
              by_cases hiN:N=i
              · subst hiN
                have hx:(listed.setIfInBounds N true).getD N true=true:=by simp [Array.getD,hs,hil]
                have hy:listed.getD N true=false:=by rw [pa (by omega) true false];exact h1
                simp only [List.filter_cons,List.filter_nil,hx,hy,Bool.not_true,Bool.not_false,if_true,Bool.false_eq_true,if_false,List.length_cons,List.length_nil]
                split at this <;> split <;> omega
              · have hx:(listed.setIfInBounds i true).getD N true=listed.getD N true:=getD_set_ne true (fun h=>hiN h.symm)
                simp only [List.filter_cons,List.filter_nil,hx]
                cases listed.getD N true <;> simp only [Bool.not_true,Bool.not_false,if_true,Bool.false_eq_true,if_false,List.length_cons,List.length_nil] <;> split at this <;> split <;> omega
          have:=hsub l.length (Nat.le_refl _)
          rw [if_pos hil] at this
          omega
        omega
theorem qB {id:Nat} {l:List Oper} (Gs:GV) (hm:P.follows .mixedOrders=true) (hlen:Nat.ble Gs.length l.length=true) (he:sQ Gs.length 0 l=true) (hf:sP n Gs [] l Gs=true) (hst:wz Gs)
    (hsv:xk P l.toArray Q n w e Gs l Gs) (hk:∀ w',Keep w w'→BG w' (fun e'=>WL P l.toArray Q (l.drop Gs.length) n e' w') Gs e):WC P (.region id l.toArray true) Q n e w:=by
  intro a ha
  refine wp_region_any hm ?_
  refine xB he hf hst hsv (by simpa using hlen) hk _ _ a e _ ha (Ch.drew w) (by simp) (fun i hi=>?_) (fun _ _=>rfl) (fun j d ds cl G hj hl=>?_) (fun j o ho hj hl=>?_) ?_
  · simp [Array.getD]
  · simp [Array.getD] at hl
  · simp [Array.getD] at hl
  · refine Nat.le_trans (List.length_filter_le _ _) ?_
    simp
end draw
section ends
variable {P : Program} {Q : Exit → Act → World → Prop} {n : Nat} {e : Env} {w : World} {K : Act → World → Prop}
theorem np {M:Act→World→Prop} (h:WQ (Q .ret) n e w):WQ (Exit.then M Q .ret) n e w:=h
theorem mU {M:Act→World→Prop} {id:Nat} (h:WQ (Q (.exit id)) n e w):WQ (Exit.then M Q (.exit id)) n e w:=h
theorem nR {id:Nat} (h:WQ (Q .ret) n e w):WQ (Exit.inBlock id Q .ret) n e w:=h
theorem mQ {id:Nat} (h:WQ (Q .normal) n e w):WQ (Exit.inBlock id Q .normal) n e w:=h
theorem nq {id:Nat} (h:WQ (Q .normal) n e w):WQ (Exit.inBlock id Q (.exit id)) n e w:=fun a ha=>by
  show if id=id then _ else _
  rw [if_pos rfl]
  exact h a ha
def RV (P:Program) (e:Env) (w:World):ResultVar→Value→Prop
  | .tmp t,v=>e t=v
  | .cell p T,v=>∃ ad,e p=.pointer (some ad)∧(loadVar T ad).run P w=.ok v w
theorem AZ {p T g:Nat} {E:TypeId} (cs:List Value) (hp:e p=.pointer (some ⟨g,0,none⟩)) (hb:Blk w g E cs) (hT:∀ w,(isAgg T).run P w=.ok true w) (hS:∀ w,(sizeOf T).run P w=.ok cs.length w) :
    RV P e w (.cell p T) (.agg cs.toArray):=by
  refine ⟨_,hp,?_⟩
  have hl:(loadCells ⟨g,0,none⟩ cs.length).run P w=.ok cs.toArray w:=by
    refine run_loadCells_list (P:=P) w ⟨g,0,none⟩ cs fun j v hj=>?_
    rw [Am,hb.cell];exact hj
  simp [loadVar,hT,hS,hl]
def Rv1 (P:Program) (e:Env) (w:World) (v:Value) (r:ResultVar):Prop:=∀ tmps:Array Value,(∀ t,tmps.getD t undef=e t)→(match r with|.tmp t=>(pure (tmps.getD t undef):Sem Value)|.cell a t=>do loadVar t (← asAddr (tmps.getD a undef))).run P w=.ok v w
theorem RV.run {r:ResultVar} {v:Value} (h:RV P e w r v):Rv1 P e w v r:=by
  intro tmps ht
  cases r with
  | tmp t=>simp only [Sem.run_pure,ht t];rw [show e t=v from h]
  | cell p T =>
    obtain ⟨ad,hp,hr⟩:=h
    simp only [ht p,hp,asAddr,Sem.run_bind,Sem.run_pure,Result.andThen_ok,hr]
variable {fn : Func} {R : Value → World → Prop}
theorem wi {ex:Exit} (hx:ex=.ret∨ex=.normal) {v:Value} (h:∀ tmps:Array Value,(∀ t,tmps.getD t undef=e t)→(results fn tmps).run P w=.ok v w) (hR:R v w):WQ (bodyPost P fn (Ret R) ex) n e w:=by
  rcases hx with rfl|rfl <;> exact fun a ha=>⟨ha.defers,v,h _ ha.get,hR⟩
theorem BT {ex:Exit} (hx:ex=.ret∨ex=.normal) {r1:ResultVar} (v1:Value) (hr:fn.results=#[r1]) (h1:RV P e w r1 v1) (hR:R v1 w):WQ (bodyPost P fn (Ret R) ex) n e w:=by
  refine wi hx (fun tmps ht=>?_) hR
  have e1:=h1.run tmps ht
  unfold results
  rw [hr]
  simp only [List.mapM_toArray,List.mapM_cons,List.mapM_nil,Sem.run_bind,Sem.run_map] at e1 ⊢
  cases r1 <;> simp_all
theorem rE {ex:Exit} (hx:ex=.ret∨ex=.normal) {r1 r2:ResultVar} (v1 v2:Value) (hr:fn.results=#[r1,r2]) (h1:RV P e w r1 v1) (h2:RV P e w r2 v2) (hR:R (.tuple #[v1,v2]) w):WQ (bodyPost P fn (Ret R) ex) n e w:=by
  refine wi hx (fun tmps ht=>?_) hR
  have e1:=h1.run tmps ht
  have e2:=h2.run tmps ht
  unfold results
  rw [hr]
  simp only [List.mapM_toArray,List.mapM_cons,List.mapM_nil,Sem.run_bind,Sem.run_map] at e1 e2 ⊢
  cases r1 <;> cases r2 <;> simp_all
theorem vw {ex:Exit} (hx:ex=.ret∨ex=.normal) {r1 r2 r3:ResultVar} (v1 v2 v3:Value) (hr:fn.results=#[r1,r2,r3]) (h1:RV P e w r1 v1) (h2:RV P e w r2 v2) (h3:RV P e w r3 v3)
    (hR:R (.tuple #[v1,v2,v3]) w):WQ (bodyPost P fn (Ret R) ex) n e w:=by
  refine wi hx (fun tmps ht=>?_) hR
  have e1:=h1.run tmps ht
  have e2:=h2.run tmps ht
  have e3:=h3.run tmps ht
  unfold results
  rw [hr]
  simp only [List.mapM_toArray,List.mapM_cons,List.mapM_nil,Sem.run_bind,Sem.run_map] at e1 e2 e3 ⊢
  cases r1 <;> cases r2 <;> cases r3 <;> simp_all
end ends
section more
variable {P : Program} {S : Nat → Prop} {w w' w1 w2 : World} {B : Nat}
theorem Ch.base (w:World):Ch (fun k=>w.heap.size≤k) w w:=Ch.refl _ w
theorem Ch.ext (h:Ch (fun k=>B≤k) w w1) (h':Ch S w1 w2) (hs:∀ k,S k→B≤k):Ch (fun k=>B≤k) w w2:=h.comp h' fun k _ x=>hs k x
theorem Ch.extk (h:Ch (fun k=>B≤k) w w1) (h':Keep w1 w2):Ch (fun k=>B≤k) w w2:=h.comp h' fun k _ x=>x.elim
theorem Ch.keep0 (h:Ch (fun k=>w.heap.size≤k) w w'):Keep w w':=h.mono fun k hk x=>by omega
theorem Keep.base (h:Keep w w'):Ch (fun k=>w.heap.size≤k) w w':=h.to _
theorem Rd.from0 {sz n:Nat} {v:Value} {xs:List Value} (h:Rd w sz v n xs) (hc:Ch (fun k=>w.heap.size≤k) w w'):Rd w' sz v n xs:=h.ch hc fun _ _ h1 h2=>by omega
theorem nM (w:World) (lo:Nat) (E:TypeId) (sz:Nat):w.ownsRow lo E sz (.slice none 0 0) 0 []:=⟨by simp,.inl ⟨rfl,rfl⟩⟩
theorem pe {lo:Nat} {E:TypeId} {sz:Nat} {v:Value} {n:Nat} {xs:List Value} (h:w.ownsRow lo E sz v n xs):∃ a c,v=.slice a n c:=by
  rcases h.2 with ⟨rfl,rfl⟩|⟨g,cap,cur,rfl,_⟩
  · exact ⟨_,_,rfl⟩
  · exact ⟨_,_,rfl⟩
def qZ (v:Value) (i:Nat):Value:=match v with
  | .tuple vs=>vs.getD i undef
  | v=>v
def pr (v:Value) (i:Nat):Value:=v.cells.getD i undef
def Ap (p q:Option Addr×Nat):Prop:=p.2=0∨q.2=0∨∀ x y,p.1=some x→q.1=some y→x.block ≠ y.block
def zq (a:Option Addr×Nat):List (Option Addr×Nat)→Prop
  | []=>True
  | b :: l=>Ap a b∧zq a l
def Aps:List (Option Addr×Nat)→Prop
  | []=>True
  | a :: l=>zq a l∧Aps l
def sp:Value→Option Addr×Nat
  | .slice a _ c=>(a,c)
  | _=>(none,0)
theorem Ap.symm {a b:Option Addr×Nat} (h:Ap a b):Ap b a:=by
  rcases h with h|h|h
  · exact .inr (.inl h)
  · exact .inl h
  · exact .inr (.inr fun x y hx hy he=>h y x hy hx he.symm)
theorem Ap.nl (b:Option Addr×Nat):Ap (none,0) b:=.inl rfl
theorem Ap.nr (a:Option Addr×Nat):Ap a (none,0):=.inr (.inl rfl)
theorem Ap.lt {lo1 lo2:Nat} {E1 E2:TypeId} {s1 s2 n1 n2 c1 c2 m1 m2:Nat} {a b:Option Addr} {xs1 xs2:List Value} (h1:w1.ownsRow lo1 E1 s1 (.slice a n1 c1) m1 xs1) (h2:w2.ownsRow lo2 E2 s2 (.slice b n2 c2) m2 xs2)
    (hle:w1.heap.size≤lo2):Ap (a,c1) (b,c2):=by
  refine .inr (.inr ?_)
  rintro x y rfl rfl
  have:=(nb h1 x.block rfl).2
  have:=(nb h2 y.block rfl).1
  omega
def New (w:World) (a:Option Addr) (c:Nat):Prop:=c=0∨∀ x,a=some x→w.heap.size≤x.block
theorem Ap.new {lo1:Nat} {E1:TypeId} {s1 n1 c1 c2 m1:Nat} {a b:Option Addr} {xs1:List Value} (h1:w1.ownsRow lo1 E1 s1 (.slice a n1 c1) m1 xs1) (h2:New w2 b c2)
    (hle:w1.heap.size≤w2.heap.size):Ap (a,c1) (b,c2):=by
  rcases h2 with h2|h2
  · exact .inr (.inl h2)
  · refine .inr (.inr ?_)
    rintro x y rfl rfl
    have:=(nb h1 x.block rfl).2
    have:=h2 y rfl
    omega
theorem Dn {xs:List UInt8} {j k:Nat} (hj:j=k) (h:k < xs.length):(xs.map bV)[j]?=some (bV (xs.getD k 0)):=by
  subst hj
  simp [List.getElem?_eq_getElem h]
theorem xx {xs:List Int} {j k:Nat} (hj:j=k) (h:k < xs.length):(xs.map iV)[j]?=some (iV (xs.getD k 0)):=by
  subst hj
  simp [List.getElem?_eq_getElem h]
theorem zg (xs:List UInt8):∀ u ∈ xs.map bV,u.oneCell'=true:=by
  intro u hu
  obtain ⟨b,_,rfl⟩:=List.mem_map.1 hu
  rfl
theorem vX (xs:List Int):∀ u ∈ xs.map iV,u.oneCell'=true:=by
  intro u hu
  obtain ⟨b,_,rfl⟩:=List.mem_map.1 hu
  rfl
theorem wm:∀ u ∈ ([]:List Value),u.oneCell'=true:=fun u h=>by cases h
theorem uE {v:Value} {l:List Value} (hv:v.oneCell'=true) (h:∀ u ∈ l,u.oneCell'=true):∀ u ∈ v :: l,u.oneCell'=true:=fun u hu=>by
  rcases List.mem_cons.1 hu with rfl|hu
  · exact hv
  · exact h u hu
theorem vE {m:Int} (h1:-9223372036854775808≤m) (h2:m≤9223372036854775807):IntKind.i64.wrap m=m:=by rw [IntKind.wrap_i64];omega
variable {ops : Array Oper} {Q : Exit → Act → World → Prop} {n : Nat} {e : Env} {o : Oper} {rest : List Oper}
theorem zD (m:Int) (hw:pH n ops o e) {d:Nat} (hd:o.dst=some d) (hdn:Nat.blt d n=true) (hr:(execOp (ev e) o).run P w=.ok (.value (.int .i64 (IntKind.i64.wrap m))) w)
    (h1:-9223372036854775808≤m) (h2:m≤9223372036854775807) (hk:WL P ops Q rest n (upd e d (.int .i64 m)) w):WL P ops Q (o :: rest) n e w :=
  oQ hw hd hdn hr (by rw [vE h1 h2];exact hk)
end more
def by8 (k:Int):UInt8:=UInt8.ofNat (k % 256).toNat
theorem xf (k:Int):IntKind.u8.wrap k=((by8 k).toNat:Int):=by
  have h1:IntKind.u8.wrap k=k % 256:=by simp [IntKind.wrap,IntKind.signed,IntKind.bits]
  rw [h1,by8,UInt8.toNat_ofNat']
  omega
def MS:List (Option Addr×Nat)→Nat→Prop
  | [],_=>False
  | (a,n) :: l,b=>(0 < n∧∃ x,a=some x∧x.block=b)∨MS l b
def Wp (w:World) (E:TypeId) (a:Option Addr) (n c:Nat) (xs:List Value) (sz:Nat:=1):Prop:=n=0∨∃ lo,w.ownsRow lo E sz (.slice a n c) n xs
section marked
variable {S : Nat → Prop} {w w' : World} {E : TypeId} {a : Option Addr} {n c sz : Nat} {xs : List Value}
theorem Wp.of {lo:Nat} (h:w.ownsRow lo E sz (.slice a n c) n xs):Wp w E a n c xs sz:=.inr ⟨_,h⟩
theorem Wp.lt (h:Wp w E a n c xs sz) (hn:0 < n):∀ x,a=some x→x.block < w.heap.size:=by
  rcases h with h|⟨lo,h⟩
  · omega
  · intro x hx;exact (nb h x.block (by rw [hx];rfl)).2
theorem Wp.ch (h:Wp w E a n c xs sz) (hc:Ch S w w') (hs:0 < n→∀ x,a=some x→x.block < w.heap.size→¬ S x.block):Wp w' E a n c xs sz:=by
  rcases h with h|⟨lo,h⟩
  · exact .inl h
  · rcases Nat.eq_zero_or_pos n with h0|h0
    · exact .inl h0
    · obtain ⟨hl,hr⟩:=h
      refine .inr ⟨lo,hl,?_⟩
      rcases hr with ⟨hv,rfl⟩|⟨g,cap,cur,hv,hb,hg,r⟩
      · omega
      · injection hv with hv1 hv2 hv3
        have hlt:g < w.heap.size:=Blk.lt (t:=E) (cs:=cur.toList) (by simpa [Blk] using hg)
        exact .inr ⟨g,cap,cur,by rw [hv1,hv3],hb,(hc.block g hlt (hs h0 _ hv1 hlt)).trans hg,r⟩
theorem Wp.kp (h:Wp w E a n c xs sz) (hc:Keep w w'):Wp w' E a n c xs sz:=h.ch hc fun _ _ _ _=>id
theorem yv {b:Option Addr} {m:Nat} {x:Addr}:∀ {l:List (Option Addr×Nat×Nat)},(∀ p ∈ l,p.2.1≤p.2.2∧Ap (p.1,p.2.2) (b,m))→m ≠ 0→b=some x→¬ MS (l.map fun p=>(p.1,p.2.1)) x.block
  | [],_,_,_=>fun h=>h
  | p :: l,h,hm,hb=>by
    intro hh
    rcases hh with ⟨hn,y,hy,hyb⟩|hh
    · have h0:=h p List.mem_cons_self
      rcases h0.2 with h1|h1|h1
      · have:=h0.1;simp at h1;omega
      · exact hm h1
      · exact h1 y x hy hb hyb
    · exact yv (fun q hq=>h q (List.mem_cons_of_mem _ hq)) hm hb hh
theorem AA {sz:Nat} (h:Rd w sz (.slice a n c) n xs):n≤c:=by
  obtain ⟨A,c',hv,h1,-⟩:=h
  injection hv with _ _ hv
  omega
theorem Rd.ms {l:List (Option Addr×Nat×Nat)} {L:List (Option Addr×Nat)} (h:Rd w sz (.slice a n c) n xs) (hL:L=l.map fun p=>(p.1,p.2.1)) (hc:Ch (MS L) w w') (hp:∀ p ∈ l,p.2.1≤p.2.2∧Ap (p.1,p.2.2) (a,c)):Rd w' sz (.slice a n c) n xs:=by
  subst hL
  have hnc:=AA h
  obtain ⟨A,c',hv,h1,h2,h3,h4⟩:=h
  injection hv with hv1 _ hv3
  subst hv1;subst hv3
  refine ⟨a,c,rfl,h1,h2,h3,fun hn=>?_⟩
  obtain ⟨ad,rfl,hx⟩:=h4 hn
  refine ⟨ad,rfl,fun j u hu=>?_⟩
  have hcell:=hx j u hu
  refine hc.cell hcell ?_
  rw [qz]
  exact yv hp (by omega) rfl
theorem Wp.ms {l:List (Option Addr×Nat×Nat)} {L:List (Option Addr×Nat)} (h:Wp w E a n c xs sz) (hnc:n≤c) (hL:L=l.map fun p=>(p.1,p.2.1)) (hc:Ch (MS L) w w') (hp:∀ p ∈ l,p.2.1≤p.2.2∧Ap (p.1,p.2.2) (a,c)):Wp w' E a n c xs sz:=by
  subst hL
  exact h.ch hc fun hn x hx _=>yv hp (by omega) hx
end marked
section stores
variable {P : Program} {ops : Array Oper} {Q : Exit → Act → World → Prop} {n : Nat} {e : Env} {w : World} {o : Oper} {rest : List Oper} {T E : TypeId} {bytes : Nat} {z : Value}
theorem qj (k:Int) (hw:pH n ops o e) {d:Nat} (hd:o.dst=some d) (hdn:Nat.blt d n=true) (hr:(execOp (ev e) o).run P w=.ok (.value (.int .u8 (IntKind.u8.wrap k))) w)
    (hk:WL P ops Q rest n (upd e d (.int .u8 ((by8 k).toNat:Int))) w):WL P ops Q (o :: rest) n e w:=oQ hw hd hdn hr (by rw [xf];exact hk)
theorem CP (m:Nat):(madeCells (Value.int .i64 0).cells (m*1)).toList=(List.replicate m (0:Int)).map iV:=by
  apply List.ext_getElem <;> simp [madeCells,Value.cells,iV]
  intro i _
  simp [Nat.mod_one]
theorem wC (m:Nat) (hw:pH n ops o e) {d:Nat} {x:Operand} (hd:o.dst=some d) (hdn:Nat.blt d n=true) (ho:o.op=.makeSlice T x x) (hT:SlTy P T E 1 bytes (.int .i64 0)) (i:Int) (hx:ev e x=.int .i64 i) (hi:i=(m:Int))
    (hsz:m*bytes≤281474976710656) (h63:m≤9223372036854775807)
    (hk:∀ a c w',Keep w w'→Ow w' w.heap.size E 1 (.slice a (List.replicate m (0:Int)).length c) (List.replicate m (0:Int)).length ((List.replicate m (0:Int)).map iV) →
      WL P ops Q rest n (upd e d (.slice a (List.replicate m (0:Int)).length c)) w'):WL P ops Q (o :: rest) n e w:=by
  subst hi
  refine AU hw hd hdn ho hT (m:Int) hx (by omega) (by have h:=Int.ofNat_le.2 hsz;rw [Int.natCast_mul] at h;omega) (by omega) fun v w' hk1 hown=>?_
  have hown':w'.ownsRow w.heap.size E 1 v (List.replicate m (0:Int)).length ((List.replicate m (0:Int)).map iV):=by
    rw [List.length_replicate,← CP];exact hown
  obtain ⟨a,c,rfl⟩:=pe hown'
  exact hk a c w' hk1 hown'
theorem ym {α:Type} (f:α→Value) (p:List α) (k:Nat) (b:α) (hk:k < p.length):(p.map f).take k++[f b]++(p.map f).drop (k+1)=(p.set k b).map f:=by
  rw [List.map_set,List.set_eq_take_append_cons_drop,if_pos (by simpa using hk)]
  simp
theorem xV (p:List UInt8) (k:Nat) (b:UInt8) (hw:pH n ops o e) {base L j m:Nat} {x y:Operand} {v:Value} (hd:o.dst=none) (ho:o.op=.store L x y) (hx:ev e x=.pointer (some (elA v j))) (hj:j=k) (hy:ev e y=.int .u8 (b.toNat:Int))
    (hS:∀ w,(sizeOf L).run P w=.ok 1 w) (hr:Ow w base E 1 v m (p.map bV)) (hk:k < p.length)
    (hn:∀ w',Ch (fun k=>v.ownBlock=some k) w w'→Ow w' base E 1 v m ((p.set k b).map bV)→WL P ops Q rest n e w'):WL P ops Q (o :: rest) n e w:=by
  subst hj
  refine vm (bV b) [bV b] hw hd ho hx hy rfl (uE rfl wm) hS hr (by simp;omega) (by simp) fun w' h1 h2 _=>hn w' h1 ?_
  have h2':=h2
  rw [show [bV b].length=1 from rfl,ym bV p j b hk] at h2'
  exact h2'
theorem pR (p:List Int) (k:Nat) (b:Int) (hw:pH n ops o e) {base L j m:Nat} {x y:Operand} {v:Value} (hd:o.dst=none) (ho:o.op=.store L x y) (hx:ev e x=.pointer (some (elA v j))) (hj:j=k) (hy:ev e y=.int .i64 b)
    (hS:∀ w,(sizeOf L).run P w=.ok 1 w) (hr:Ow w base E 1 v m (p.map iV)) (hk:k < p.length)
    (hn:∀ w',Ch (fun k=>v.ownBlock=some k) w w'→Ow w' base E 1 v m ((p.set k b).map iV)→WL P ops Q rest n e w'):WL P ops Q (o :: rest) n e w:=by
  subst hj
  refine vm (iV b) [iV b] hw hd ho hx hy rfl (uE rfl wm) hS hr (by simp;omega) (by simp) fun w' h1 h2 _=>hn w' h1 ?_
  have h2':=h2
  rw [show [iV b].length=1 from rfl,ym iV p j b hk] at h2'
  exact h2'
end stores
section came
variable {P : Program} {w : World} {H : Type} {enc : TypeId × Value → H} {base fuel : Nat} {spare : Nat → Bool} {held : Bool} {T E : TypeId} {cs : List Value} {y : DataW H × List MemPlace}
theorem Cx (ht:P.underlying T=some (.slice E)) (he:P.underlying E=some (.int .u8)) (hc:P.cellsOf E=1) (h:DataW.trod enc P w base spare held fuel T cs=some y) :
    ∃ (x:List UInt8) (a:Option Addr) (c:Nat),cs=[.slice a x.length c]∧Rd w 1 (.slice a x.length c) x.length (x.map bV):=by
  rcases open_ints ht he hc h with ⟨rfl,-⟩|⟨a,len,cap,zs,rfl,-,hl,hm,hz,-,hcell,hwf⟩
  · exact ⟨[],none,0,rfl,Rd.nil w 1⟩
  · have hzl:len≤zs.length:=by rw [hz];split <;> omega
    have hx:((zs.take len).map fun n=>UInt8.ofNat n.toNat).length=len:=by simp;omega
    refine ⟨(zs.take len).map fun n=>UInt8.ofNat n.toNat,some a,cap,by rw [hx],some a,cap,rfl,by rw [hx];exact hl,hm,by simp,fun _=>⟨a,rfl,fun j u hu=>?_⟩⟩
    have hj:j < len:=by
      have:=(List.getElem?_eq_some_iff.1 hu).1
      simp at this;omega
    rw [hcell j (by omega)]
    simp only [List.map_map,List.getElem?_map,List.getElem?_take,hj,if_true] at hu
    have hjz:j < zs.length:=by omega
    rw [List.getElem?_eq_getElem hjz] at hu
    simp only [Option.map_some,Option.some.injEq,Function.comp] at hu
    rw [← hu]
    have hw:=hwf zs[j] (List.getElem_mem hjz)
    have h0:0≤zs[j]∧zs[j]≤255:=by simpa [Lit.wf,IntKind.has,IntKind.min,IntKind.max,IntKind.signed,IntKind.bits] using hw
    simp only [bV,List.getD_eq_getElem?_getD,List.getElem?_eq_getElem hjz,Option.getD_some]
    congr 1
    obtain ⟨q,hq⟩:∃ q,q=zs[j]:=⟨_,rfl⟩
    rw [← hq] at h0 ⊢
    have hb:(UInt8.ofNat q.toNat).toNat=q.toNat:=by
      rw [UInt8.toNat_ofNat']
      omega
    rw [hb]
    rw [Int.toNat_of_nonneg h0.1]
theorem Ca {f:FuncId} {args:Array Value} (h:Fn P f args w fun v w'=>Keep w w'∧v=.bool true):Calls P f args w fun e w'=>e=.returned (.bool true)∧Below w.heap.size w w' :=
  Calls.mono h fun e w' hr=>by cases e <;> first|exact ⟨by rw [hr.2],hr.1.below⟩|exact hr.elim
end came
end Go.Proofs.YtacoceibbheccaaGreat.K
