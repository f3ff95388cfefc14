/- The rules of the core once more, with short names; what is decided by computing is left to a tactic in the argument's place. It names no program. -/
import Derived.Test.YtodlalolknldmaaFlat
namespace Go.Proofs.Ytodlalolknldmaa.K
open Go.RowKit Go.ChangeShapes Go.WideShapes
set_option linter.unusedVariables false
abbrev U : Value := undef
abbrev vi (n : Int) : Value := .int .i64 n
abbrev v8 (n : Int) : Value := .int .u8 n
abbrev vb (b : Bool) : Value := .bool b
abbrev vs (a : Option Addr) (n c : Nat) : Value := .slice a n c
abbrev vp (g i : Nat) : Value := .pointer (some ⟨g, i, none⟩)
abbrev ve (v : Value) (j : Nat) : Value := .pointer (some (elA v j))
abbrev va (l : List Value) : Value := .agg l.toArray
theorem bt (b : Bool) : b = true ∨ b = false := Bool.eq_false_or_eq_true b
theorem bf (b : Bool) : b = false ∨ b = true := (Bool.eq_false_or_eq_true b).symm
theorem cB {e : Env} {x : Operand} {u b : Bool} (h : ev e x = .bool u) (hu : u = b) : ev e x = .bool b := by rw [h, hu]
theorem one_all {l : List Value} (h : l.all (fun u => u.oneCell') = true) : ∀ u ∈ l, u.oneCell' = true := List.all_eq_true.1 h
section short
variable {P : Program} {ops : Array Oper} {Q : Exit → Act → World → Prop} {n : Nat} {e : Env} {w : World} {o : Oper} {rest : List Oper}
theorem wN (h : o.guard = none := by exact rfl) : Want n ops o e := want_none h
theorem wS {x b : Bool} (hx : x = b) {j t : Nat} (h : o.guard = some (j, b) := by exact rfl) (hj : ((ops[j]?).bind (·.dst)) = some t := by exact rfl) (ht : Nat.blt t n = true := by exact rfl) (hb : e t = .bool x := by exact rfl) : Want n ops o e :=
  want_some h hj ht (by rw [hb, hx])
theorem sk {j t d : Nat} {x b b' : Bool} (hx : x = b') (hk : WL P ops Q rest n (upd e d undef) w) (h : o.guard = some (j, b) := by exact rfl) (hj : ((ops[j]?).bind (·.dst)) = some t := by exact rfl) (ht : Nat.blt t n = true := by exact rfl) (hb : e t = .bool x := by exact rfl)
    (hne : b' = !b := by exact rfl) (hd : o.dst = some d := by exact rfl) (hdn : Nat.blt d n = true := by exact rfl) : WL P ops Q (o :: rest) n e w := wl_skip h hj ht (by rw [hb, hx]) hne hd hdn hk
theorem su {j t d : Nat} {b : Bool} (hk : WL P ops Q rest n (upd e d undef) w) (h : o.guard = some (j, b) := by exact rfl) (hj : ((ops[j]?).bind (·.dst)) = some t := by exact rfl) (hb : e t = undef := by exact rfl)
    (hd : o.dst = some d := by exact rfl) (hdn : Nat.blt d n = true := by exact rfl) : WL P ops Q (o :: rest) n e w := wl_skipu h hj hb hd hdn hk
theorem mv (v : Value) (hw : Want n ops o e) {d : Nat} {x : Operand} (hk : WL P ops Q rest n (upd e d v) w) (hd : o.dst = some d := by exact rfl) (hdn : Nat.blt d n = true := by exact rfl) (ho : o.op = .move x := by exact rfl) (hv : ev e x = v := by exact rfl) :
    WL P ops Q (o :: rest) n e w := wl_mv v hw hd hdn (.inl ho) hv hk
theorem ag (v : Value) (hw : Want n ops o e) {d : Nat} {x : Operand} (hk : WL P ops Q rest n (upd e d v) w) (hd : o.dst = some d := by exact rfl) (hdn : Nat.blt d n = true := by exact rfl) (ho : o.op = .assign x := by exact rfl) (hv : ev e x = v := by exact rfl) :
    WL P ops Q (o :: rest) n e w := wl_mv v hw hd hdn (.inr ho) hv hk
theorem pu (v : Value) (hw : Want n ops o e) {d : Nat} (hk : WL P ops Q rest n (upd e d v) w) (hd : o.dst = some d := by exact rfl) (hdn : Nat.blt d n = true := by exact rfl) (hr : (execOp (ev e) o).run P w = .ok (.value v) w := by kernel_rfl) :
    WL P ops Q (o :: rest) n e w := wl_val hw hd hdn hr hk
theorem pk (v : Value) (hw : Want n ops o e) {u : Bool} (hu : u = true) {d : Nat} {c x y : Operand} (hk : WL P ops Q rest n (upd e d v) w) (hd : o.dst = some d := by exact rfl) (hdn : Nat.blt d n = true := by exact rfl) (ho : o.op = .pick c x y := by exact rfl)
    (hc : ev e c = .bool u := by exact rfl) (hv : ev e x = v := by exact rfl) : WL P ops Q (o :: rest) n e w := wl_pick_t v hw hd hdn ho (cB hc hu) hv hk
theorem pf (v : Value) (hw : Want n ops o e) {u : Bool} (hu : u = false) {d : Nat} {c x y : Operand} (hk : WL P ops Q rest n (upd e d v) w) (hd : o.dst = some d := by exact rfl) (hdn : Nat.blt d n = true := by exact rfl) (ho : o.op = .pick c x y := by exact rfl)
    (hc : ev e c = .bool u := by exact rfl) (hv : ev e y = v := by exact rfl) : WL P ops Q (o :: rest) n e w := wl_pick_f v hw hd hdn ho (cB hc hu) hv hk
theorem bx (cs : List Value) (hw : Want n ops o e) {d : Nat} {E : TypeId} {x : Operand} (hk : ∀ g w', w.heap.size ≤ g → g < w'.heap.size → Keep w w' → Blk w' g E cs → WL P ops Q rest n (upd e d (.pointer (some ⟨g, 0, none⟩))) w')
    (hd : o.dst = some d := by exact rfl) (hdn : Nat.blt d n = true := by exact rfl) (ho : o.op = .box E x := by exact rfl) (hx : (ev e x).cells = cs.toArray := by exact rfl) : WL P ops Q (o :: rest) n e w := wl_box hw cs hd hdn ho hx hk
theorem al (cs : List Value) (hw : Want n ops o e) {d : Nat} {E : TypeId} {z : Value} (hz : ∀ w, (zeroValue E).run P w = .ok z w) (hk : ∀ g w', w.heap.size ≤ g → g < w'.heap.size → Keep w w' → Blk w' g E cs → WL P ops Q rest n (upd e d (.pointer (some ⟨g, 0, none⟩))) w')
    (hd : o.dst = some d := by exact rfl) (hdn : Nat.blt d n = true := by exact rfl) (ho : o.op = .alloc E := by exact rfl) (hx : z.cells = cs.toArray := by exact rfl) : WL P ops Q (o :: rest) n e w := wl_alloc hw z cs hz hd hdn ho hx hk
theorem ld (v : Value) (hw : Want n ops o e) {d T g i : Nat} {E : TypeId} {cs : List Value} {x : Operand} (hT : ∀ w, (isAgg T).run P w = .ok false w) (hb : Blk w g E cs) (hk : WL P ops Q rest n (upd e d v) w)
    (hd : o.dst = some d := by exact rfl) (hdn : Nat.blt d n = true := by exact rfl) (ho : o.op = .load T x := by exact rfl) (hx : ev e x = .pointer (some ⟨g, i, none⟩) := by exact rfl) (hv : cs[i]? = some v := by exact rfl) : WL P ops Q (o :: rest) n e w :=
  wl_load1 v hw hd hdn ho hx hT hb hv hk
theorem lN (us : List Value) (hw : Want n ops o e) {d T g i : Nat} {E : TypeId} {cs : List Value} {x : Operand} (hT : ∀ w, (isAgg T).run P w = .ok true w) (hS : ∀ w, (sizeOf T).run P w = .ok us.length w) (hb : Blk w g E cs) (hk : WL P ops Q rest n (upd e d (.agg us.toArray)) w)
    (hd : o.dst = some d := by exact rfl) (hdn : Nat.blt d n = true := by exact rfl) (ho : o.op = .load T x := by exact rfl) (hx : ev e x = .pointer (some ⟨g, i, none⟩) := by exact rfl) (hv : (cs.drop i).take us.length = us := by exact rfl) : WL P ops Q (o :: rest) n e w :=
  wl_loadN us hw hd hdn ho hx hT hS hb hv hk
theorem st (v : Value) (us cs' : List Value) (hw : Want n ops o e) {T g i : Nat} {E : TypeId} {cs : List Value} {x y : Operand} (hS : ∀ w, (sizeOf T).run P w = .ok us.length w) (hb : Blk w g E cs)
    (hk : ∀ w', Ch (fun k => k = g) w w' → Blk w' g E cs' → w'.heap.size = w.heap.size → WL P ops Q rest n e w')
    (h1 : ∀ u ∈ us, u.oneCell' = true := by exact one_all rfl) (hd : o.dst = none := by exact rfl) (ho : o.op = .store T x y := by exact rfl) (hx : ev e x = .pointer (some ⟨g, i, none⟩) := by exact rfl) (hy : ev e y = v := by exact rfl)
    (hvs : v.cells = us.toArray := by exact rfl) (hi : Nat.ble (i + us.length) cs.length = true := by exact rfl) (hcs : cs.take i ++ us ++ cs.drop (i + us.length) = cs' := by exact rfl) : WL P ops Q (o :: rest) n e w :=
  wl_store v us cs' hw hd ho hx hy hvs h1 hS hb hi hcs hk
theorem cl (hw : Want n ops o e) {d : Nat} {f : FuncId} {args : Array Value} {R : Value → World → Prop} (hc : Fn P f args w R) (hk : ∀ v w', R v w' → WL P ops Q rest n (upd e d v) w')
    (hd : o.dst = some d := by exact rfl) (hdn : Nat.blt d n = true := by exact rfl) (hr : (execOp (ev e) o).run P w = .ok (.enter f args) w := by kernel_rfl) : WL P ops Q (o :: rest) n e w := wl_call hw hd hdn hr hc hk
theorem ar (m : Int) (hw : Want n ops o e) {d : Nat} (hk : WL P ops Q rest n (upd e d (.int .i64 m)) w) (hd : o.dst = some d := by exact rfl) (hdn : Nat.blt d n = true := by exact rfl) (hr : (execOp (ev e) o).run P w = .ok (.value (.int .i64 (IntKind.i64.wrap m))) w := by kernel_rfl)
    (h1 : -9223372036854775808 ≤ m := by omega) (h2 : m ≤ 9223372036854775807 := by omega) : WL P ops Q (o :: rest) n e w := wl_arith m hw hd hdn hr h1 h2 hk
variable {T E : TypeId} {sz bytes m : Nat} {z v : Value} {xs : List Value}
theorem ln (hw : Want n ops o e) {d : Nat} {x : Operand} (hT : SlTy P T E sz bytes z) (hr : Rd w sz v m xs) (hk : WL P ops Q rest n (upd e d (.int .i64 (m : Int))) w) (hd : o.dst = some d := by exact rfl) (hdn : Nat.blt d n = true := by exact rfl)
    (ho : o.op = .call { callee := .builtin .len, args := #[x], argTypes := #[T] } := by exact rfl) (hx : ev e x = v := by exact rfl) : WL P ops Q (o :: rest) n e w := wl_len hw hd hdn ho hT hx hr hk
theorem ct {c : Operand} {x y : Code} {u : Bool} (hu : u = true) (h : WC P x Q n e w) (hc : ev e c = .bool u := by exact rfl) : WC P (.cond c x y) Q n e w := wc_true (cB hc hu) h
theorem cf {c : Operand} {x y : Code} {u : Bool} (hu : u = false) (h : WC P y Q n e w) (hc : ev e c = .bool u := by exact rfl) : WC P (.cond c x y) Q n e w := wc_false (cB hc hu) h
theorem nx {z : Code} {id : Nat} {l : List Oper} (h : WL P l.toArray (Exit.then (z.wp P Q) Q) l n e w) : WL P ops (Exit.then ((Code.seq (.region id l.toArray false) z).wp P Q) Q) [] n e w := wl_nil (wq_then (wc_seq (wc_region h)))
theorem sr {z : Code} {id : Nat} {l : List Oper} (h : WL P l.toArray (Exit.then (z.wp P Q) Q) l n e w) : WC P (.seq (.region id l.toArray false) z) Q n e w := wc_seq (wc_region h)
end short
end Go.Proofs.Ytodlalolknldmaa.K
