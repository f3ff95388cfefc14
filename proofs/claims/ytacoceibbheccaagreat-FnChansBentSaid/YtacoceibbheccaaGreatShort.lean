import Derived.Test.YtacoceibbheccaaGreatFlat
namespace Go.Proofs.YtacoceibbheccaaGreat.K
open Go.RowKit Go.ChangeShapes Go.WideShapes
set_option linter.unusedVariables false
abbrev U:Value:=undef
def lenOf:Value→Nat
  | .slice _ n _=>n
  | _=>0
abbrev vi (n:Int):Value:=.int .i64 n
abbrev v8 (n:Int):Value:=.int .u8 n
abbrev vb (b:Bool):Value:=.bool b
abbrev vs (a:Option Addr) (n c:Nat):Value:=.slice a n c
abbrev vp (g i:Nat):Value:=.pointer (some ⟨g,i,none⟩)
abbrev ve (v:Value) (j:Nat):Value:=.pointer (some (elA v j))
abbrev va (l:List Value):Value:=.agg l.toArray
theorem bt (b:Bool):b=true∨b=false:=Bool.eq_false_or_eq_true b
theorem bf (b:Bool):b=false∨b=true:=(Bool.eq_false_or_eq_true b).symm
theorem cB {e:Env} {x:Operand} {u b:Bool} (h:ev e x=.bool u) (hu:u=b):ev e x=.bool b:=by rw [h,hu]
theorem uF {l:List Value} (h:l.all (fun u=>u.oneCell')=true):∀ u ∈ l,u.oneCell'=true:=List.all_eq_true.1 h
theorem t3 {a0 a1 a2 a3:Nat} (h0:a0≤a1) (h1:a1≤a2) (h2:a2≤a3):a0≤a3:=(Nat.le_trans h0 (Nat.le_trans h1 h2))
theorem t4 {a0 a1 a2 a3 a4:Nat} (h0:a0≤a1) (h1:a1≤a2) (h2:a2≤a3) (h3:a3≤a4):a0≤a4:=(Nat.le_trans h0 (Nat.le_trans h1 (Nat.le_trans h2 h3)))
theorem t5 {a0 a1 a2 a3 a4 a5:Nat} (h0:a0≤a1) (h1:a1≤a2) (h2:a2≤a3) (h3:a3≤a4) (h4:a4≤a5):a0≤a5:=(Nat.le_trans h0 (Nat.le_trans h1 (Nat.le_trans h2 (Nat.le_trans h3 h4))))
theorem t6 {a0 a1 a2 a3 a4 a5 a6:Nat} (h0:a0≤a1) (h1:a1≤a2) (h2:a2≤a3) (h3:a3≤a4) (h4:a4≤a5) (h5:a5≤a6):a0≤a6:=(Nat.le_trans h0 (Nat.le_trans h1 (Nat.le_trans h2 (Nat.le_trans h3 (Nat.le_trans h4 h5)))))
theorem t7 {a0 a1 a2 a3 a4 a5 a6 a7:Nat} (h0:a0≤a1) (h1:a1≤a2) (h2:a2≤a3) (h3:a3≤a4) (h4:a4≤a5) (h5:a5≤a6) (h6:a6≤a7):a0≤a7:=(Nat.le_trans h0 (Nat.le_trans h1 (Nat.le_trans h2 (Nat.le_trans h3 (Nat.le_trans h4 (Nat.le_trans h5 h6))))))
theorem t8 {a0 a1 a2 a3 a4 a5 a6 a7 a8:Nat} (h0:a0≤a1) (h1:a1≤a2) (h2:a2≤a3) (h3:a3≤a4) (h4:a4≤a5) (h5:a5≤a6) (h6:a6≤a7) (h7:a7≤a8):a0≤a8:=(Nat.le_trans h0 (Nat.le_trans h1 (Nat.le_trans h2 (Nat.le_trans h3 (Nat.le_trans h4 (Nat.le_trans h5 (Nat.le_trans h6 h7)))))))
theorem t12 {a0 a1 a2 a3 a4 a5 a6 a7 a8 a9 a10 a11 a12:Nat} (h0:a0≤a1) (h1:a1≤a2) (h2:a2≤a3) (h3:a3≤a4) (h4:a4≤a5) (h5:a5≤a6) (h6:a6≤a7) (h7:a7≤a8) (h8:a8≤a9) (h9:a9≤a10) (h10:a10≤a11) (h11:a11≤a12):a0≤a12:=(Nat.le_trans h0 (Nat.le_trans h1 (Nat.le_trans h2 (Nat.le_trans h3 (Nat.le_trans h4 (Nat.le_trans h5 (Nat.le_trans h6 (Nat.le_trans h7 (Nat.le_trans h8 (Nat.le_trans h9 (Nat.le_trans h10 h11)))))))))))
def NeS (a b:Option Addr):Prop:=∀ x y,a=some x→b=some y→x.block ≠ y.block
theorem NeS.symm {a b:Option Addr} (h:NeS a b):NeS b a:=fun x y hx hy he=>h y x hy hx he.symm
theorem NeS.no {a b:Option Addr} {n c m d g:Nat} (h:NeS a b) (h1:(Value.slice a n c).ownBlock=some g) (h2:(Value.slice b m d).ownBlock=some g):False:=by
  rcases a with _|x
  · cases h1
  · rcases b with _|y
    · cases h2
    · have e1:x.block=g:=by simpa [Value.ownBlock] using h1
      have e2:y.block=g:=by simpa [Value.ownBlock] using h2
      exact h x y rfl rfl (e1.trans e2.symm)
theorem NeS.lt {w w':World} {l1 l2 s1 s2 n1 n2 c1 c2 m1 m2:Nat} {E1 E2:TypeId} {a b:Option Addr} {x1 x2:List Value} (h1:w.ownsRow l1 E1 s1 (.slice a n1 c1) m1 x1) (h2:w'.ownsRow l2 E2 s2 (.slice b n2 c2) m2 x2) (h:w.heap.size≤l2):NeS a b:=fun x y hx hy he=>by
  have e1:=(nb h1 x.block (by rw [hx];rfl)).2
  have e2:=(nb h2 y.block (by rw [hy];rfl)).1
  omega
theorem NeS.app {w:World} {l s n n' c c' m k1 k2:Nat} {E:TypeId} {a a' b:Option Addr} {xs:List Value} (h:NeS a b) (hg:∀ k,(Value.slice a' n' c').ownBlock=some k→(Value.slice a n c).ownBlock=some k∨w.heap.size≤k) (ho:w.ownsRow l E s (.slice b k1 k2) m xs):NeS a' b:=fun x y hx hy he=>by
  have e2:=(nb ho y.block (by rw [hy];rfl)).2
  rcases hg x.block (by rw [hx];rfl) with h1|h1
  · rcases a with _|z
    · cases h1
    · have e1:z.block=x.block:=by simpa [Value.ownBlock] using h1
      exact h z y rfl hy (e1.trans he)
  · omega
def pt (u:Env):List (Nat×Value)→Env
  | []=>u
  | p :: l=>upd (pt u l) p.1 p.2
def Has (e:Env):List (Nat×Value)→Prop
  | []=>True
  | p :: l=>e p.1=p.2∧Has e l
theorem zG {e:Env} {d:Nat} {v:Value} (h:e d=v):upd e d v=e:=funext fun t=>by
  rw [qU]
  split
  · rename_i ht;rw [ht,h]
  · rfl
theorem tE {e:Env}:∀ l:List (Nat×Value),Has e l→pt e l=e
  | [],_=>rfl
  | p :: l,h=>by
    show upd (pt e l) p.1 p.2=e
    rw [tE l h.2]
    exact zG h.1
section short
variable {P : Program} {ops : Array Oper} {Q : Exit → Act → World → Prop} {n : Nat} {e : Env} {w : World} {o : Oper} {rest : List Oper}
theorem wN (h:o.guard=none:=by exact rfl):pH n ops o e:=ye h
theorem wS {x b:Bool} (hx:x=b) {j t:Nat} (h:o.guard=some (j,b):=by exact rfl) (hj:((ops[j]?).bind (·.dst))=some t:=by exact rfl) (ht:Nat.blt t n=true:=by exact rfl) (hb:e t=.bool x:=by exact rfl):pH n ops o e :=
  yd h hj ht (by rw [hb,hx])
theorem sk {j t d:Nat} {x b b':Bool} (hx:x=b') (hk:WL P ops Q rest n (upd e d undef) w) (h:o.guard=some (j,b):=by exact rfl) (hj:((ops[j]?).bind (·.dst))=some t:=by exact rfl) (ht:Nat.blt t n=true:=by exact rfl) (hb:e t=.bool x:=by exact rfl)
    (hne:b'=!b:=by exact rfl) (hd:o.dst=some d:=by exact rfl) (hdn:Nat.blt d n=true:=by exact rfl):WL P ops Q (o :: rest) n e w:=AT h hj ht (by rw [hb,hx]) hne hd hdn hk
theorem su {j t d:Nat} {b:Bool} (hk:WL P ops Q rest n (upd e d undef) w) (h:o.guard=some (j,b):=by exact rfl) (hj:((ops[j]?).bind (·.dst))=some t:=by exact rfl) (hb:e t=undef:=by exact rfl)
    (hd:o.dst=some d:=by exact rfl) (hdn:Nat.blt d n=true:=by exact rfl):WL P ops Q (o :: rest) n e w:=zz h hj hb hd hdn hk
theorem mv (v:Value) (hw:pH n ops o e) {d:Nat} {x:Operand} (hk:WL P ops Q rest n (upd e d v) w) (hd:o.dst=some d:=by exact rfl) (hdn:Nat.blt d n=true:=by exact rfl) (ho:o.op=.move x:=by exact rfl) (hv:ev e x=v:=by exact rfl) :
    WL P ops Q (o :: rest) n e w:=BI v hw hd hdn (.inl ho) hv hk
theorem ag (v:Value) (hw:pH n ops o e) {d:Nat} {x:Operand} (hk:WL P ops Q rest n (upd e d v) w) (hd:o.dst=some d:=by exact rfl) (hdn:Nat.blt d n=true:=by exact rfl) (ho:o.op=.assign x:=by exact rfl) (hv:ev e x=v:=by exact rfl) :
    WL P ops Q (o :: rest) n e w:=BI v hw hd hdn (.inr ho) hv hk
theorem pu (v:Value) (hw:pH n ops o e) {d:Nat} (hk:WL P ops Q rest n (upd e d v) w) (hd:o.dst=some d:=by exact rfl) (hdn:Nat.blt d n=true:=by exact rfl) (hr:(execOp (ev e) o).run P w=.ok (.value v) w:=by kernel_rfl) :
    WL P ops Q (o :: rest) n e w:=oQ hw hd hdn hr hk
theorem pk (v:Value) (hw:pH n ops o e) {u:Bool} (hu:u=true) {d:Nat} {c x y:Operand} (hk:WL P ops Q rest n (upd e d v) w) (hd:o.dst=some d:=by exact rfl) (hdn:Nat.blt d n=true:=by exact rfl) (ho:o.op=.pick c x y:=by exact rfl)
    (hc:ev e c=.bool u:=by exact rfl) (hv:ev e x=v:=by exact rfl):WL P ops Q (o :: rest) n e w:=xX v hw hd hdn ho (cB hc hu) hv hk
theorem pf (v:Value) (hw:pH n ops o e) {u:Bool} (hu:u=false) {d:Nat} {c x y:Operand} (hk:WL P ops Q rest n (upd e d v) w) (hd:o.dst=some d:=by exact rfl) (hdn:Nat.blt d n=true:=by exact rfl) (ho:o.op=.pick c x y:=by exact rfl)
    (hc:ev e c=.bool u:=by exact rfl) (hv:ev e y=v:=by exact rfl):WL P ops Q (o :: rest) n e w:=xY v hw hd hdn ho (cB hc hu) hv hk
theorem bx (cs:List Value) (hw:pH n ops o e) {d:Nat} {E:TypeId} {x:Operand} (hk:∀ g w',w.heap.size≤g→g < w'.heap.size→Keep w w'→Blk w' g E cs→WL P ops Q rest n (upd e d (.pointer (some ⟨g,0,none⟩))) w')
    (hd:o.dst=some d:=by exact rfl) (hdn:Nat.blt d n=true:=by exact rfl) (ho:o.op=.box E x:=by exact rfl) (hx:(ev e x).cells=cs.toArray:=by exact rfl):WL P ops Q (o :: rest) n e w:=BL hw cs hd hdn ho hx hk
theorem al (cs:List Value) (hw:pH n ops o e) {d:Nat} {E:TypeId} {z:Value} (hz:∀ w,(zeroValue E).run P w=.ok z w) (hk:∀ g w',w.heap.size≤g→g < w'.heap.size→Keep w w'→Blk w' g E cs→WL P ops Q rest n (upd e d (.pointer (some ⟨g,0,none⟩))) w')
    (hd:o.dst=some d:=by exact rfl) (hdn:Nat.blt d n=true:=by exact rfl) (ho:o.op=.alloc E:=by exact rfl) (hx:z.cells=cs.toArray:=by exact rfl):WL P ops Q (o :: rest) n e w:=zE hw z cs hz hd hdn ho hx hk
theorem ld (v:Value) (hw:pH n ops o e) {d T g i:Nat} {E:TypeId} {cs:List Value} {x:Operand} (hT:∀ w,(isAgg T).run P w=.ok false w) (hb:Blk w g E cs) (hk:WL P ops Q rest n (upd e d v) w)
    (hd:o.dst=some d:=by exact rfl) (hdn:Nat.blt d n=true:=by exact rfl) (ho:o.op=.load T x:=by exact rfl) (hx:ev e x=.pointer (some ⟨g,i,none⟩):=by exact rfl) (hv:cs[i]?=some v:=by exact rfl):WL P ops Q (o :: rest) n e w :=
  zB v hw hd hdn ho hx hT hb hv hk
theorem lN (us:List Value) (hw:pH n ops o e) {d T g i:Nat} {E:TypeId} {cs:List Value} {x:Operand} (hT:∀ w,(isAgg T).run P w=.ok true w) (hS:∀ w,(sizeOf T).run P w=.ok us.length w) (hb:Blk w g E cs) (hk:WL P ops Q rest n (upd e d (.agg us.toArray)) w)
    (hd:o.dst=some d:=by exact rfl) (hdn:Nat.blt d n=true:=by exact rfl) (ho:o.op=.load T x:=by exact rfl) (hx:ev e x=.pointer (some ⟨g,i,none⟩):=by exact rfl) (hv:(cs.drop i).take us.length=us:=by exact rfl):WL P ops Q (o :: rest) n e w :=
  zA us hw hd hdn ho hx hT hS hb hv hk
theorem st (v:Value) (us cs':List Value) (hw:pH n ops o e) {T g i:Nat} {E:TypeId} {cs:List Value} {x y:Operand} (hS:∀ w,(sizeOf T).run P w=.ok us.length w) (hb:Blk w g E cs)
    (hk:∀ w',Ch (fun k=>k=g) w w'→Blk w' g E cs'→w'.heap.size=w.heap.size→WL P ops Q rest n e w')
    (h1:∀ u ∈ us,u.oneCell'=true:=by exact uF rfl) (hd:o.dst=none:=by exact rfl) (ho:o.op=.store T x y:=by exact rfl) (hx:ev e x=.pointer (some ⟨g,i,none⟩):=by exact rfl) (hy:ev e y=v:=by exact rfl)
    (hvs:v.cells=us.toArray:=by exact rfl) (hi:Nat.ble (i+us.length) cs.length=true:=by exact rfl) (hcs:cs.take i++us++cs.drop (i+us.length)=cs':=by exact rfl):WL P ops Q (o :: rest) n e w :=
  wB v us cs' hw hd ho hx hy hvs h1 hS hb hi hcs hk
theorem cl (hw:pH n ops o e) {d:Nat} {f:FuncId} {args:Array Value} {R:Value→World→Prop} (hc:Fn P f args w R) (hk:∀ v w',R v w'→WL P ops Q rest n (upd e d v) w')
    (hd:o.dst=some d:=by exact rfl) (hdn:Nat.blt d n=true:=by exact rfl) (hr:(execOp (ev e) o).run P w=.ok (.enter f args) w:=by kernel_rfl):WL P ops Q (o :: rest) n e w:=AV hw hd hdn hr hc hk
theorem ar (m:Int) (hw:pH n ops o e) {d:Nat} (hk:WL P ops Q rest n (upd e d (.int .i64 m)) w) (hd:o.dst=some d:=by exact rfl) (hdn:Nat.blt d n=true:=by exact rfl) (hr:(execOp (ev e) o).run P w=.ok (.value (.int .i64 (IntKind.i64.wrap m))) w:=by kernel_rfl)
    (h1:-9223372036854775808≤m:=by omega) (h2:m≤9223372036854775807:=by omega):WL P ops Q (o :: rest) n e w:=zD m hw hd hdn hr h1 h2 hk
variable {T E : TypeId} {sz bytes m : Nat} {z v : Value} {xs : List Value}
theorem ln (hw:pH n ops o e) {d:Nat} {x:Operand} (hT:SlTy P T E sz bytes z) (hr:Rd w sz v m xs) (hk:WL P ops Q rest n (upd e d (.int .i64 (m:Int))) w) (hd:o.dst=some d:=by exact rfl) (hdn:Nat.blt d n=true:=by exact rfl)
    (ho:o.op=.call {callee:=.builtin .len,args:=#[x],argTypes:=#[T]}:=by exact rfl) (hx:ev e x=v:=by exact rfl):WL P ops Q (o :: rest) n e w:=BJ hw hd hdn ho hT hx hr hk
theorem oa {c:Code} (l:List (Nat×Value)) (hc:Has e l) (I:Env→World→Prop) (μ:Env→World→Nat) (h0:∀ u:Env,I (pt u l) w)
    (hr:∀ e' w',I e' w'→WC P c (Exit.then (fun a w2=>∃ e2,Fits n e2 a∧I e2 w2∧μ e2 w2 < μ e' w') Q) n e' w'):WC P (.loop c) Q n e w:=AX I μ (by have h:=h0 e;rwa [tE l hc] at h) hr
theorem nX {I:Env→World→Prop} {μ:Env→World→Nat} {Q':Exit→Act→World→Prop} {e0:Env} {w0:World} (l:List (Nat×Value)) (hc:Has e l) (h:∀ u:Env,I (pt u l) w) (hm:μ (pt e l) w < μ e0 w0) :
    WQ (Exit.then (fun a w2=>∃ e2,Fits n e2 a∧I e2 w2∧μ e2 w2 < μ e0 w0) Q' .normal) n e w:=AR e (fun _=>rfl) (by have h1:=h e;rwa [tE l hc] at h1) (by rwa [tE l hc] at hm)
theorem oq {c:Code} (l:List (Nat×Value)) (hc:Has e l) (J:∀ u,WC P c Q n (pt u l) w):WC P c Q n e w:=by have h:=J e;rwa [tE l hc] at h
theorem wj {c:Code} {l:List (Nat×Value)} (J:∀ u,WC P c Q n (pt u l) w) (hc:Has e l:=by repeat' (first|exact trivial|refine ⟨rfl,?_⟩)):WC P c Q n e w:=oq l hc J
theorem jT1 {t:Operand} {x y:Code} (l:List (Nat×Value)) (A:Prop) (J:A→∀ w',Keep w w'→∀ u,WC P x Q n (pt u l) w')
    (h:(A→∀ w',Keep w w'→∀ u,WC P x Q n (pt u l) w')→WL P ops (Exit.then ((Code.cond t x y).wp P Q) Q) rest n e w):WL P ops (Exit.then ((Code.cond t x y).wp P Q) Q) rest n e w:=h J
theorem jF1 {t:Operand} {x y:Code} (l:List (Nat×Value)) (A:Prop) (J:A→∀ w',Keep w w'→∀ u,WC P y Q n (pt u l) w')
    (h:(A→∀ w',Keep w w'→∀ u,WC P y Q n (pt u l) w')→WL P ops (Exit.then ((Code.cond t x y).wp P Q) Q) rest n e w):WL P ops (Exit.then ((Code.cond t x y).wp P Q) Q) rest n e w:=h J
theorem jM1 {t:Operand} {x y z:Code} (I:Env→World→Prop) (J:∀ e' w',I e' w'→WC P z Q n e' w')
    (h:(∀ e' w',I e' w'→WC P z Q n e' w')→WL P ops (Exit.then ((Code.cond t x y).wp P (Exit.then (z.wp P Q) Q)) (Exit.then (z.wp P Q) Q)) rest n e w):WL P ops (Exit.then ((Code.cond t x y).wp P (Exit.then (z.wp P Q) Q)) (Exit.then (z.wp P Q) Q)) rest n e w:=h J
theorem jB {y:Code} (l:List (Nat×Value)) (A:Prop) (J:A→∀ w',Keep w w'→∀ u,WC P y Q n (pt u l) w')
    (h:(A→∀ w',Keep w w'→∀ u,WC P y Q n (pt u l) w')→WL P ops (Exit.then (y.wp P Q) Q) rest n e w):WL P ops (Exit.then (y.wp P Q) Q) rest n e w:=h J
theorem nu {f:FuncId} {fn:Func} {c:Code} {args:Array Value} {R:Value→World→Prop} (l:List Value) (hf:P.funcs[f]?=some fn) (hb:fn.body=some c) (hn:fn.ntmps=n) (h:WC P c (bodyPost P fn (Ret R)) n (lst l) w)
    (hl:args.toList=l:=by exact rfl) (hs:Nat.ble l.length n=true:=by exact rfl):Fn P f args w R:=by
  have hs':l.length≤n:=by simpa using hs
  have ha:args.size=l.length:=by rw [← hl,Array.length_toList]
  refine CT hf hb hn rfl (by simp;omega) (fun a hfit=>h a ⟨hfit.size,hfit.defers,fun t=>(hfit.get t).trans ?_⟩)
  show (args++Array.replicate (n - args.size) undef).toList.getD t undef=l.getD t undef
  rw [Array.toList_append,hl,Array.toList_replicate]
  by_cases ht:t < l.length
  · simp [List.getD_eq_getElem?_getD,List.getElem?_append_left ht]
  · rw [List.getD_eq_getElem?_getD,List.getD_eq_getElem?_getD,List.getElem?_append_right (by omega),List.getElem?_replicate,List.getElem?_eq_none (by omega:l.length≤t)]
    split <;> rfl
theorem ct {c:Operand} {x y:Code} {u:Bool} (hu:u=true) (h:WC P x Q n e w) (hc:ev e c=.bool u:=by exact rfl):WC P (.cond c x y) Q n e w:=AW (cB hc hu) h
theorem cf {c:Operand} {x y:Code} {u:Bool} (hu:u=false) (h:WC P y Q n e w) (hc:ev e c=.bool u:=by exact rfl):WC P (.cond c x y) Q n e w:=zF (cB hc hu) h
theorem nx {z:Code} {id:Nat} {l:List Oper} (h:WL P l.toArray (Exit.then (z.wp P Q) Q) l n e w):WL P ops (Exit.then ((Code.seq (.region id l.toArray false) z).wp P Q) Q) [] n e w:=mW (mP (nh (mV h)))
theorem sr {z:Code} {id:Nat} {l:List Oper} (h:WL P l.toArray (Exit.then (z.wp P Q) Q) l n e w):WC P (.seq (.region id l.toArray false) z) Q n e w:=nh (mV h)
end short
end Go.Proofs.YtacoceibbheccaaGreat.K
