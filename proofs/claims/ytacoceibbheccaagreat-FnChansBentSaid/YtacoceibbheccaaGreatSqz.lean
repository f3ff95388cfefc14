import Derived.Test.YtacoceibbheccaaGreatMark
namespace Go.Proofs.YtacoceibbheccaaGreat.K
open Go.RowKit Go.ChangeShapes Go.WideShapes
set_option linter.unusedVariables false
theorem z2 {S0 S1:Nat→Prop} {a0 a1 a2:World} (h0:Ch S0 a0 a1) (h1:Ch S1 a1 a2):a0.heap.size≤a2.heap.size:=Nat.le_trans h0.size h1.size
theorem z3 {S0 S1 S2:Nat→Prop} {a0 a1 a2 a3:World} (h0:Ch S0 a0 a1) (h1:Ch S1 a1 a2) (h2:Ch S2 a2 a3):a0.heap.size≤a3.heap.size:=Nat.le_trans h0.size (z2 h1 h2)
theorem z4 {S0 S1 S2 S3:Nat→Prop} {a0 a1 a2 a3 a4:World} (h0:Ch S0 a0 a1) (h1:Ch S1 a1 a2) (h2:Ch S2 a2 a3) (h3:Ch S3 a3 a4):a0.heap.size≤a4.heap.size:=Nat.le_trans h0.size (z3 h1 h2 h3)
theorem z5 {S0 S1 S2 S3 S4:Nat→Prop} {a0 a1 a2 a3 a4 a5:World} (h0:Ch S0 a0 a1) (h1:Ch S1 a1 a2) (h2:Ch S2 a2 a3) (h3:Ch S3 a3 a4) (h4:Ch S4 a4 a5):a0.heap.size≤a5.heap.size:=Nat.le_trans h0.size (z4 h1 h2 h3 h4)
theorem z6 {S0 S1 S2 S3 S4 S5:Nat→Prop} {a0 a1 a2 a3 a4 a5 a6:World} (h0:Ch S0 a0 a1) (h1:Ch S1 a1 a2) (h2:Ch S2 a2 a3) (h3:Ch S3 a3 a4) (h4:Ch S4 a4 a5) (h5:Ch S5 a5 a6):a0.heap.size≤a6.heap.size:=Nat.le_trans h0.size (z5 h1 h2 h3 h4 h5)
theorem z7 {S0 S1 S2 S3 S4 S5 S6:Nat→Prop} {a0 a1 a2 a3 a4 a5 a6 a7:World} (h0:Ch S0 a0 a1) (h1:Ch S1 a1 a2) (h2:Ch S2 a2 a3) (h3:Ch S3 a3 a4) (h4:Ch S4 a4 a5) (h5:Ch S5 a5 a6) (h6:Ch S6 a6 a7):a0.heap.size≤a7.heap.size:=Nat.le_trans h0.size (z6 h1 h2 h3 h4 h5 h6)
theorem z8 {S0 S1 S2 S3 S4 S5 S6 S7:Nat→Prop} {a0 a1 a2 a3 a4 a5 a6 a7 a8:World} (h0:Ch S0 a0 a1) (h1:Ch S1 a1 a2) (h2:Ch S2 a2 a3) (h3:Ch S3 a3 a4) (h4:Ch S4 a4 a5) (h5:Ch S5 a5 a6) (h6:Ch S6 a6 a7) (h7:Ch S7 a7 a8):a0.heap.size≤a8.heap.size:=Nat.le_trans h0.size (z7 h1 h2 h3 h4 h5 h6 h7)
theorem z9 {S0 S1 S2 S3 S4 S5 S6 S7 S8:Nat→Prop} {a0 a1 a2 a3 a4 a5 a6 a7 a8 a9:World} (h0:Ch S0 a0 a1) (h1:Ch S1 a1 a2) (h2:Ch S2 a2 a3) (h3:Ch S3 a3 a4) (h4:Ch S4 a4 a5) (h5:Ch S5 a5 a6) (h6:Ch S6 a6 a7) (h7:Ch S7 a7 a8) (h8:Ch S8 a8 a9):a0.heap.size≤a9.heap.size:=Nat.le_trans h0.size (z8 h1 h2 h3 h4 h5 h6 h7 h8)
theorem z10 {S0 S1 S2 S3 S4 S5 S6 S7 S8 S9:Nat→Prop} {a0 a1 a2 a3 a4 a5 a6 a7 a8 a9 a10:World} (h0:Ch S0 a0 a1) (h1:Ch S1 a1 a2) (h2:Ch S2 a2 a3) (h3:Ch S3 a3 a4) (h4:Ch S4 a4 a5) (h5:Ch S5 a5 a6) (h6:Ch S6 a6 a7) (h7:Ch S7 a7 a8) (h8:Ch S8 a8 a9) (h9:Ch S9 a9 a10):a0.heap.size≤a10.heap.size:=Nat.le_trans h0.size (z9 h1 h2 h3 h4 h5 h6 h7 h8 h9)
theorem z11 {S0 S1 S2 S3 S4 S5 S6 S7 S8 S9 S10:Nat→Prop} {a0 a1 a2 a3 a4 a5 a6 a7 a8 a9 a10 a11:World} (h0:Ch S0 a0 a1) (h1:Ch S1 a1 a2) (h2:Ch S2 a2 a3) (h3:Ch S3 a3 a4) (h4:Ch S4 a4 a5) (h5:Ch S5 a5 a6) (h6:Ch S6 a6 a7) (h7:Ch S7 a7 a8) (h8:Ch S8 a8 a9) (h9:Ch S9 a9 a10) (h10:Ch S10 a10 a11):a0.heap.size≤a11.heap.size:=Nat.le_trans h0.size (z10 h1 h2 h3 h4 h5 h6 h7 h8 h9 h10)
theorem z12 {S0 S1 S2 S3 S4 S5 S6 S7 S8 S9 S10 S11:Nat→Prop} {a0 a1 a2 a3 a4 a5 a6 a7 a8 a9 a10 a11 a12:World} (h0:Ch S0 a0 a1) (h1:Ch S1 a1 a2) (h2:Ch S2 a2 a3) (h3:Ch S3 a3 a4) (h4:Ch S4 a4 a5) (h5:Ch S5 a5 a6) (h6:Ch S6 a6 a7) (h7:Ch S7 a7 a8) (h8:Ch S8 a8 a9) (h9:Ch S9 a9 a10) (h10:Ch S10 a10 a11) (h11:Ch S11 a11 a12):a0.heap.size≤a12.heap.size:=Nat.le_trans h0.size (z11 h1 h2 h3 h4 h5 h6 h7 h8 h9 h10 h11)
theorem dF {p:Prop} [d:Decidable p] (h:decide p=false):¬ p:=of_decide_eq_false h
theorem dT {p:Prop} [d:Decidable p] (h:decide p=true):p:=of_decide_eq_true h
theorem nL {a b c:Nat} (h:a < b) (h2:b≤c):a < c:=Nat.lt_of_lt_of_le h h2
theorem nT {a b c:Nat} (h:a≤b) (h2:b≤c):a≤c:=Nat.le_trans h h2
theorem nN {a b:Nat} (h:a < b):a ≠ b:=Nat.ne_of_lt h
theorem cA {α β:Type} {a b:α} (f:α→β) (h:a=b):f a=f b:=congrArg f h
theorem hV {P:Env→Value→Prop} {T:World→World→Prop}:∀ e v w w',P e v→T w w'→P e v:=fun _ _ _ _ h _=>h
theorem hE {P:Value→World→Prop} {H:Env→Env→Prop}:∀ e1 e2 v w,H e1 e2→P v w→P v w:=fun _ _ _ _ _ h=>h
section sqz
variable {P : Program} {ops : Array Oper} {Q : Exit → Act → World → Prop} {n : Nat} {e : Env} {w : World} {o : Oper} {rest : List Oper}
theorem n1 {M:Act→World→Prop} (h:WQ (Q .ret) n e w):WL P ops (Exit.then (Code.ret.wp P (Exit.then M Q)) (Exit.then M Q)) [] n e w:=mW<|mP<|oY<|np h
theorem n2 {y:Code} (h:WC P y Q n e w):WL P ops (Exit.then (y.wp P Q) Q) [] n e w:=mW<|mP h
theorem n3 (h:WQ (Q .ret) n e w):WL P ops (Exit.then (Code.ret.wp P Q) Q) [] n e w:=mW<|mP<|oY h
theorem n4 {z y:Code} {id:Nat} {l:List Oper} (h:WL P l.toArray (Exit.then (z.wp P (Exit.then (y.wp P Q) Q)) (Exit.then (y.wp P Q) Q)) l n e w):WL P ops (Exit.then ((Code.seq (.seq (.region id l.toArray false) z) y).wp P Q) Q) [] n e w:=mW<|mP<|nh<|sr h
theorem y1 {z:Code} {id:Nat} {l:List Oper} (h:WL P l.toArray (Exit.then (z.wp P Q) Q) l n e w):WC P .skip (Exit.then ((Code.seq (.region id l.toArray false) z).wp P Q) Q) n e w:=nm<|mP<|sr h
theorem y2 {z y:Code} {id:Nat} {l:List Oper} (h:WL P l.toArray (Exit.then (z.wp P (Exit.then (y.wp P Q) Q)) (Exit.then (y.wp P Q) Q)) l n e w):WC P .skip (Exit.then ((Code.seq (.seq (.region id l.toArray false) z) y).wp P Q) Q) n e w:=nm<|mP<|nh<|sr h
theorem f1 {d:Nat} {G:Env→Value→World→Prop} {T:World→World→Prop} {v:Value} {w':World} (hk:T w w':=by exact Ch.refl _ _) (h:G e v w':=by exact rfl):WL P ops (QT Q n d G T w e) [] n (upd e d v) w':=nK hk h
theorem f2 {d:Nat} {G:Env→Value→World→Prop} {v:Value} {w':World} (hk:Keep w w':=by exact Ch.refl _ _) (h:G e v w':=by exact rfl):WL P ops (QF Q n d G w e) [] n (upd e d v) w':=rB hk h
theorem mw (v:Value) {d:Nat} {x:Operand} (hk:WL P ops Q rest n (upd e d v) w) (hw:pH n ops o e:=by exact wN) (hd:o.dst=some d:=by exact rfl) (hdn:Nat.blt d n=true:=by exact rfl) (ho:o.op=.move x:=by exact rfl) (hv:ev e x=v:=by exact rfl) :
    WL P ops Q (o :: rest) n e w:=mv v hw hk hd hdn ho hv
theorem aw (v:Value) {d:Nat} {x:Operand} (hk:WL P ops Q rest n (upd e d v) w) (hw:pH n ops o e:=by exact wN) (hd:o.dst=some d:=by exact rfl) (hdn:Nat.blt d n=true:=by exact rfl) (ho:o.op=.assign x:=by exact rfl) (hv:ev e x=v:=by exact rfl) :
    WL P ops Q (o :: rest) n e w:=ag v hw hk hd hdn ho hv
theorem T1:true=true:=rfl
theorem F1:false=false:=rfl
theorem sv (X:List Value) (hw:pH n ops o e) {T g i:Nat} {E:TypeId} {cs:List Value} {x y:Operand} (hS:∀ w,(sizeOf T).run P w=.ok X.length w) (hb:Blk w g E cs)
    (hk:∀ w',Ch (fun k=>k=g) w w'→Blk w' g E X→w'.heap.size=w.heap.size→WL P ops Q rest n e w')
    (h1:∀ u ∈ X,u.oneCell'=true:=by exact uF rfl) (hd:o.dst=none:=by exact rfl) (ho:o.op=.store T x y:=by exact rfl) (hx:ev e x=.pointer (some ⟨g,i,none⟩):=by exact rfl) (hy:ev e y=va X:=by exact rfl)
    (hvs:(va X).cells=X.toArray:=by exact rfl) (hi:Nat.ble (i+X.length) cs.length=true:=by exact rfl) (hcs:cs.take i++X++cs.drop (i+X.length)=X:=by exact rfl):WL P ops Q (o :: rest) n e w:=st (va X) X X hw hS hb hk h1 hd ho hx hy hvs hi hcs
theorem rt {fn:Func} {R:Value→World→Prop} {ex:Exit} {r1:ResultVar} (v1:Value) (hR:R v1 w) (hx:ex=.ret∨ex=.normal:=by exact .inl rfl) (hr:fn.results=#[r1]:=by exact rfl) (h1:RV P e w r1 v1:=by exact rfl):WQ (bodyPost P fn (Ret R) ex) n e w:=BT hx v1 hr h1 hR
theorem sf (v:Value) (hw:pH n ops o e) {T g i:Nat} {E:TypeId} {cs:List Value} {x y:Operand} (hS:∀ w,(sizeOf T).run P w=.ok 1 w) (hb:Blk w g E cs)
    (hk:∀ w',Ch (fun k=>k=g) w w'→Blk w' g E (cs.set i v)→w'.heap.size=w.heap.size→WL P ops Q rest n e w')
    (h1:v.oneCell'=true:=by exact rfl) (hd:o.dst=none:=by exact rfl) (ho:o.op=.store T x y:=by exact rfl) (hx:ev e x=.pointer (some ⟨g,i,none⟩):=by exact rfl) (hy:ev e y=v:=by exact rfl)
    (hvs:v.cells=#[v]:=by exact rfl) (hi:Nat.ble (i+1) cs.length=true:=by exact rfl):WL P ops Q (o :: rest) n e w :=
  st v [v] (cs.set i v) hw hS hb hk (uE h1 wm) hd ho hx hy hvs hi (by
    have hl:i < cs.length:=Nat.le_of_ble_eq_true hi
    rw [List.set_eq_take_append_cons_drop,if_pos hl,List.append_assoc]
    rfl)
theorem rc {fn:Func} {R:Value→World→Prop} {ex:Exit} {p T g:Nat} {E:TypeId} (cs:List Value) (hb:Blk w g E cs) (hT:∀ w,(isAgg T).run P w=.ok true w) (hS:∀ w,(sizeOf T).run P w=.ok cs.length w) (hR:R (va cs) w)
    (hx:ex=.ret∨ex=.normal:=by exact .inl rfl) (hr:fn.results=#[.cell p T]:=by exact rfl) (hp:e p=.pointer (some ⟨g,0,none⟩):=by exact rfl):WQ (bodyPost P fn (Ret R) ex) n e w:=BT hx _ hr (AZ cs hp hb hT hS) hR
theorem rc2 {fn:Func} {R:Value→World→Prop} {ex:Exit} {p T g:Nat} {E:TypeId} {r2:ResultVar} (cs:List Value) (v2:Value) (hb:Blk w g E cs) (hT:∀ w,(isAgg T).run P w=.ok true w) (hS:∀ w,(sizeOf T).run P w=.ok cs.length w) (hR:R (.tuple #[va cs,v2]) w)
    (hx:ex=.ret∨ex=.normal:=by exact .inl rfl) (hr:fn.results=#[.cell p T,r2]:=by exact rfl) (hp:e p=.pointer (some ⟨g,0,none⟩):=by exact rfl) (h2:RV P e w r2 v2:=by exact rfl):WQ (bodyPost P fn (Ret R) ex) n e w:=rE hx _ v2 hr (AZ cs hp hb hT hS) h2 hR
theorem rc3 {fn:Func} {R:Value→World→Prop} {ex:Exit} {p T g:Nat} {E:TypeId} {r2 r3:ResultVar} (cs:List Value) (v2 v3:Value) (hb:Blk w g E cs) (hT:∀ w,(isAgg T).run P w=.ok true w) (hS:∀ w,(sizeOf T).run P w=.ok cs.length w) (hR:R (.tuple #[va cs,v2,v3]) w)
    (hx:ex=.ret∨ex=.normal:=by exact .inl rfl) (hr:fn.results=#[.cell p T,r2,r3]:=by exact rfl) (hp:e p=.pointer (some ⟨g,0,none⟩):=by exact rfl) (h2:RV P e w r2 v2:=by exact rfl) (h3:RV P e w r3 v3:=by exact rfl):WQ (bodyPost P fn (Ret R) ex) n e w:=vw hx _ v2 v3 hr (AZ cs hp hb hT hS) h2 h3 hR
end sqz
section app
variable {P : Program} {ops : Array Oper} {Q : Exit → Act → World → Prop} {n : Nat} {e : Env} {w : World} {o : Oper} {rest : List Oper} {T E : TypeId} {sz bytes m : Nat} {z v v2 : Value} {xs : List Value}
theorem ix (hw:pH n ops o e) (i:Int) (hT:SlTy P T E sz bytes z) (hr:Rd w sz v m xs) {d:Nat} {x y:Operand} {k:IntKind} (hk:WL P ops Q rest n (upd e d (.pointer (some (elA v (i.toNat*sz))))) w)
    (hd:o.dst=some d:=by exact rfl) (hdn:Nat.blt d n=true:=by exact rfl) (ho:o.op=.indexAddr T x y:=by exact rfl) (hx:ev e x=v:=by exact rfl) (hy:ev e y=.int k i:=by exact rfl)
    (h0:0≤i:=by first|omega|(simp only [List.length_cons,List.length_nil,List.length_replicate,List.length_append,List.length_take,List.length_set,List.length_map];omega)) (h1:i < m:=by first|omega|(simp only [List.length_cons,List.length_nil,List.length_replicate,List.length_append,List.length_take,List.length_set,List.length_map];omega)):WL P ops Q (o :: rest) n e w:=zC hw i hd hdn ho hT hx hy hr h0 h1 hk
theorem eb {x:List UInt8} (k:Nat) (hw:pH n ops o e) {d L j:Nat} {y:Operand} (hL:∀ w,(isAgg L).run P w=.ok false w) (hr:Rd w 1 v m (x.map bV)) (hk:WL P ops Q rest n (upd e d (bV (x.getD k 0))) w)
    (hd:o.dst=some d:=by exact rfl) (hdn:Nat.blt d n=true:=by exact rfl) (ho:o.op=.load L y:=by exact rfl) (hx:ev e y=.pointer (some (elA v j)):=by exact rfl) (hj:j=k:=by simp) (hlt:k < x.length:=by first|omega|(simp only [List.length_cons,List.length_nil,List.length_replicate,List.length_append,List.length_take,List.length_set,List.length_map];omega)):WL P ops Q (o :: rest) n e w :=
  pE (bV (x.getD k 0)) hw hd hdn ho hx hL hr (Dn hj hlt) hk
theorem ei {x:List Int} (k:Nat) (hw:pH n ops o e) {d L j:Nat} {y:Operand} (hL:∀ w,(isAgg L).run P w=.ok false w) (hr:Rd w 1 v m (x.map iV)) (hk:WL P ops Q rest n (upd e d (iV (x.getD k 0))) w)
    (hd:o.dst=some d:=by exact rfl) (hdn:Nat.blt d n=true:=by exact rfl) (ho:o.op=.load L y:=by exact rfl) (hx:ev e y=.pointer (some (elA v j)):=by exact rfl) (hj:j=k:=by simp) (hlt:k < x.length:=by first|omega|(simp only [List.length_cons,List.length_nil,List.length_replicate,List.length_append,List.length_take,List.length_set,List.length_map];omega)):WL P ops Q (o :: rest) n e w :=
  pE (iV (x.getD k 0)) hw hd hdn ho hx hL hr (xx hj hlt) hk
theorem apB (x y:List UInt8) (hw:pH n ops o e) (hT:SlTy P T E 1 1 z) {base:Nat} (hown:Ow w base E 1 v x.length (x.map bV)) (hr:Rd w 1 v2 y.length (y.map bV)) (hbase:base≤w.heap.size) {d:Nat} {a1 a2:Operand}
    (hk:∀ a c w',Ch (fun k=>v.ownBlock=some k) w w'→Ow w' base E 1 (.slice a (x++y).length c) (x++y).length ((x++y).map bV)→(∀ k,(Value.slice a (x++y).length c).ownBlock=some k→v.ownBlock=some k∨w.heap.size≤k)→(x++y).length≤1073741824 →
      WL P ops Q rest n (upd e d (.slice a (x++y).length c)) w')
    (hd:o.dst=some d:=by exact rfl) (hdn:Nat.blt d n=true:=by exact rfl) (ho:o.op=.call {callee:=.builtin .append,args:=#[a1,a2],argTypes:=#[T,T]}:=by exact rfl) (hx:ev e a1=v:=by exact rfl) (hy:ev e a2=v2:=by exact rfl)
    (hs:x.length+y.length≤1073741824:=by first|(simp only [List.length_append,List.length_cons,List.length_nil,List.length_replicate,List.length_take,List.length_drop];omega)|omega|assumption|(simp only [List.length_append,List.length_cons,List.length_nil] at *;omega)):WL P ops Q (o :: rest) n e w:=by
  have hq:(x++y).length=x.length+y.length:=List.length_append
  refine rl hw hd hdn ho hT hx hy hown hr (zg _) (by omega) (by simp only [maxLen];omega) hbase fun v' w' hc ho' hg=>?_
  have h2:Ow w' base E 1 v' (x++y).length ((x++y).map bV):=by rw [hq,List.map_append];exact ho'
  obtain ⟨a,c,rfl⟩:=pe h2
  exact hk a c w' hc h2 hg (by omega)
theorem apI (x y:List Int) (hw:pH n ops o e) (hT:SlTy P T E 1 8 z) {base:Nat} (hown:Ow w base E 1 v x.length (x.map iV)) (hr:Rd w 1 v2 y.length (y.map iV)) (hbase:base≤w.heap.size) {d:Nat} {a1 a2:Operand}
    (hk:∀ a c w',Ch (fun k=>v.ownBlock=some k) w w'→Ow w' base E 1 (.slice a (x++y).length c) (x++y).length ((x++y).map iV)→(∀ k,(Value.slice a (x++y).length c).ownBlock=some k→v.ownBlock=some k∨w.heap.size≤k)→(x++y).length≤1073741824 →
      WL P ops Q rest n (upd e d (.slice a (x++y).length c)) w')
    (hd:o.dst=some d:=by exact rfl) (hdn:Nat.blt d n=true:=by exact rfl) (ho:o.op=.call {callee:=.builtin .append,args:=#[a1,a2],argTypes:=#[T,T]}:=by exact rfl) (hx:ev e a1=v:=by exact rfl) (hy:ev e a2=v2:=by exact rfl)
    (hs:x.length+y.length≤1073741824:=by first|(simp only [List.length_append,List.length_cons,List.length_nil,List.length_replicate,List.length_take,List.length_drop];omega)|omega|assumption|(simp only [List.length_append,List.length_cons,List.length_nil] at *;omega)):WL P ops Q (o :: rest) n e w:=by
  have hq:(x++y).length=x.length+y.length:=List.length_append
  refine rl hw hd hdn ho hT hx hy hown hr (vX _) (by omega) (by simp only [maxLen];omega) hbase fun v' w' hc ho' hg=>?_
  have h2:Ow w' base E 1 v' (x++y).length ((x++y).map iV):=by rw [hq,List.map_append];exact ho'
  obtain ⟨a,c,rfl⟩:=pe h2
  exact hk a c w' hc h2 hg (by omega)
theorem ap0 (y:List UInt8) (hw:pH n ops o e) (hT:SlTy P T E 1 1 z) {base:Nat} {a0:Option Addr} (hown:Ow w base E 1 (.slice a0 0 0) 0 []) (hr:Rd w 1 v2 y.length (y.map bV)) (hbase:base≤w.heap.size) {d:Nat} {a1 a2:Operand}
    (hk:∀ a c w',Keep w w'→Ow w' base E 1 (.slice a y.length c) y.length (y.map bV)→New w a c→WL P ops Q rest n (upd e d (.slice a y.length c)) w')
    (hd:o.dst=some d:=by exact rfl) (hdn:Nat.blt d n=true:=by exact rfl) (ho:o.op=.call {callee:=.builtin .append,args:=#[a1,a2],argTypes:=#[T,T]}:=by exact rfl) (hx:ev e a1=.slice a0 0 0:=by exact rfl) (hy:ev e a2=v2:=by exact rfl)
    (hs:y.length≤1073741824:=by first|(simp only [List.length_append,List.length_cons,List.length_nil,List.length_replicate,List.length_take,List.length_drop];omega)|omega|assumption|(simp only [List.length_append,List.length_cons,List.length_nil] at *;omega)):WL P ops Q (o :: rest) n e w:=by
  refine uh hw hd hdn ho hT hx hy hown hr (zg _) (by omega) (by simp only [maxLen];omega) hbase fun v' w' hc ho' hg=>?_
  obtain ⟨a,c,rfl⟩:=pe ho'
  exact hk a c w' hc ho' (hg a c rfl)
theorem Bz (y:List Int) (hw:pH n ops o e) (hT:SlTy P T E 1 8 z) {base:Nat} {a0:Option Addr} (hown:Ow w base E 1 (.slice a0 0 0) 0 []) (hr:Rd w 1 v2 y.length (y.map iV)) (hbase:base≤w.heap.size) {d:Nat} {a1 a2:Operand}
    (hk:∀ a c w',Keep w w'→Ow w' base E 1 (.slice a y.length c) y.length (y.map iV)→New w a c→WL P ops Q rest n (upd e d (.slice a y.length c)) w')
    (hd:o.dst=some d:=by exact rfl) (hdn:Nat.blt d n=true:=by exact rfl) (ho:o.op=.call {callee:=.builtin .append,args:=#[a1,a2],argTypes:=#[T,T]}:=by exact rfl) (hx:ev e a1=.slice a0 0 0:=by exact rfl) (hy:ev e a2=v2:=by exact rfl)
    (hs:y.length≤1073741824:=by first|(simp only [List.length_append,List.length_cons,List.length_nil,List.length_replicate,List.length_take,List.length_drop];omega)|omega|assumption|(simp only [List.length_append,List.length_cons,List.length_nil] at *;omega)):WL P ops Q (o :: rest) n e w:=by
  refine uh hw hd hdn ho hT hx hy hown hr (vX _) (by omega) (by simp only [maxLen];omega) hbase fun v' w' hc ho' hg=>?_
  obtain ⟨a,c,rfl⟩:=pe ho'
  exact hk a c w' hc ho' (hg a c rfl)
theorem sw (h:WL P ops Q rest n e w):WL P ops Q rest n e w:=h
theorem ltB (l:List UInt8) (hw:pH n ops o e) (hT:SlTy P T E 1 bytes z) {d:Nat} (hk:∀ a c w',Keep w w'→Ow w' w.heap.size E 1 (.slice a l.length c) l.length (l.map bV)→WL P ops Q rest n (upd e d (.slice a l.length c)) w')
    (hd:o.dst=some d:=by exact rfl) (hdn:Nat.blt d n=true:=by exact rfl) (hmx:Nat.ble l.length 4096=true:=by exact rfl)
    (hr:∀ w,(execOp (ev e) o).run P w=.ok (.value (.slice (some ⟨w.heap.size,0,none⟩) l.length l.length)) (w.alloc (.cells (l.map bV).toArray E)):=by (intro w;kernel_rfl)):WL P ops Q (o :: rest) n e w:=by
  refine sh (l.map bV) hw hd hdn hT (by rw [List.length_map,Nat.mul_one]) (Nat.le_trans (Nat.le_of_ble_eq_true hmx) (by simp only [maxLen];decide)) hr fun v w' hc h=>?_
  obtain ⟨a,c,rfl⟩:=pe h
  exact hk a c w' hc h
theorem ltI (l:List Int) (hw:pH n ops o e) (hT:SlTy P T E 1 bytes z) {d:Nat} (hk:∀ a c w',Keep w w'→Ow w' w.heap.size E 1 (.slice a l.length c) l.length (l.map iV)→WL P ops Q rest n (upd e d (.slice a l.length c)) w')
    (hd:o.dst=some d:=by exact rfl) (hdn:Nat.blt d n=true:=by exact rfl) (hmx:Nat.ble l.length 4096=true:=by exact rfl)
    (hr:∀ w,(execOp (ev e) o).run P w=.ok (.value (.slice (some ⟨w.heap.size,0,none⟩) l.length l.length)) (w.alloc (.cells (l.map iV).toArray E)):=by (intro w;kernel_rfl)):WL P ops Q (o :: rest) n e w:=by
  refine sh (l.map iV) hw hd hdn hT (by rw [List.length_map,Nat.mul_one]) (Nat.le_trans (Nat.le_of_ble_eq_true hmx) (by simp only [maxLen];decide)) hr fun v w' hc h=>?_
  obtain ⟨a,c,rfl⟩:=pe h
  exact hk a c w' hc h
end app
section ne
variable {w : World} {lo g0 : Nat} {E : TypeId} {sz n : Nat} {v : Value} {xs : List Value} {m : Nat}
theorem ne1 (o:w.ownsRow lo E sz v n xs) (h:g0 < lo):∀ g,v.ownBlock=some g→g < m→¬ g=g0:=fun g hg _ hk=>by
  have h1:=(nb o g hg).1
  omega
theorem ne2 (o:w.ownsRow lo E sz v n xs) (h:w.heap.size≤g0):∀ g,v.ownBlock=some g→g < m→¬ g=g0:=fun g hg _ hk=>by
  have h1:=(nb o g hg).2
  omega
end ne
end Go.Proofs.YtacoceibbheccaaGreat.K
