import Derived.Test.YtacoceibbheccaaGreatMark
import Derived.Test.YtacoceibbheccaaGreatSha
namespace Go.Proofs.YtacoceibbheccaaGreat.K
open Go.RowKit Go.ChangeShapes Go.WideShapes
set_option linter.unusedVariables false
section cur
variable {S : Nat → Prop} {w w' : World} {g : Nat} {T : TypeId} {a : Option Addr} {n c sz : Nat} {b : List UInt8} {xs : List Value}
def ph (w:World) (g:Nat) (T:TypeId) (a:Option Addr) (c:Nat) (b:List UInt8):Prop :=
  ∃ i h:Int,Blk w g T [vs a b.length c,vi i,vi h]∧Rd w 1 (vs a b.length c) b.length (b.map bV)∧b.length≤1073741824∧0≤i∧(0 < b.length→∀ z,a=some z→z.block ≠ g)
theorem Rd.chP (h:Rd w sz (vs a n c) n xs) (hc:Ch S w w') (hs:0 < n→∀ z,a=some z→¬ S z.block):Rd w' sz (vs a n c) n xs:=by
  rcases Nat.eq_zero_or_pos n with h0|h0
  · subst h0
    obtain ⟨A,c',hv,h1,h2,h3,h4⟩:=h
    exact ⟨A,c',hv,h1,h2,h3,fun hn=>absurd hn (by omega)⟩
  · exact h.ch hc fun g hg _=>by
      rcases a with _|z
      · cases hg
      · have:z.block=g:=by simpa [Value.ownBlock] using hg
        subst this
        exact hs h0 z rfl
theorem rF (h:Rd w 1 (vs a b.length c) b.length (b.map bV)) (hn:0 < b.length):∀ z,a=some z→z.block < w.heap.size:=by
  intro z hz
  obtain ⟨A,c',hv,h1,h2,h3,h4⟩:=h
  obtain ⟨ad,hA,hx⟩:=h4 hn
  injection hv with hv
  rw [← hv,hz] at hA
  injection hA with hA
  subst hA
  have hj:(b.map bV)[0]?=some (bV b[0]):=by simp [List.getElem?_eq_getElem hn]
  have:=vc (hx 0 _ hj)
  rwa [qz] at this
theorem Bb {l:List Int} (h:Rd w 1 (vs a l.length c) l.length (l.map iV)) (hn:0 < l.length):∀ z,a=some z→z.block < w.heap.size:=by
  intro z hz
  obtain ⟨A,c',hv,h1,h2,h3,h4⟩:=h
  obtain ⟨ad,hA,hx⟩:=h4 hn
  injection hv with hv
  rw [← hv,hz] at hA
  injection hA with hA
  subst hA
  have hj:(l.map iV)[0]?=some (iV l[0]):=by simp [List.getElem?_eq_getElem hn]
  have:=vc (hx 0 _ hj)
  rwa [qz] at this
theorem Rd.chW (h:Rd w 1 (vs a b.length c) b.length (b.map bV)) (hc:Ch (fun k=>k=g∨w.heap.size≤k) w w') (ne:0 < b.length→∀ z,a=some z→z.block ≠ g):Rd w' 1 (vs a b.length c) b.length (b.map bV) :=
  h.chP hc fun hn z hz hk=>hk.elim (ne hn z hz) fun hk=>by have:=rF h hn z hz;omega
theorem Rd.chV {l:List Int} (h:Rd w 1 (vs a l.length c) l.length (l.map iV)) (hc:Ch (fun k=>k=g∨w.heap.size≤k) w w') (ne:0 < l.length→∀ z,a=some z→z.block ≠ g):Rd w' 1 (vs a l.length c) l.length (l.map iV) :=
  h.chP hc fun hn z hz hk=>hk.elim (ne hn z hz) fun hk=>by have:=Bb h hn z hz;omega
theorem cx {i h:Int} (hb:Blk w' g T [vs a b.length c,vi i,vi h]) (hr:Rd w 1 (vs a b.length c) b.length (b.map bV)) (hc:Ch (fun k=>k=g) w w') (hl:b.length≤1073741824) (hn:0 < b.length→∀ z,a=some z→z.block ≠ g) (hi:0≤i:=by omega):ph w' g T a c b :=
  ⟨i,h,hb,Rd.chP hr hc hn,hl,hi,hn⟩
theorem iL {p q:Nat→Prop}:∀ k,p k→p k∨q k:=fun _ h=>.inl h
abbrev vF:Value:=vb false
abbrev vT:Value:=vb true
theorem ph.ch (h:ph w g T a c b) (hc:Ch S w w') (hg:¬ S g) (hs:0 < b.length→∀ z,a=some z→¬ S z.block):ph w' g T a c b:=by
  obtain ⟨i,k,h1,h2,h3,h4,h5⟩:=h
  exact ⟨i,k,h1.ch hc hg,h2.chP hc hs,h3,h4,h5⟩
theorem ph.kp (h:ph w g T a c b) (hc:Keep w w'):ph w' g T a c b:=h.ch hc id fun _ _ _=>id
theorem ph.lt (h:ph w g T a c b):g < w.heap.size:=by obtain ⟨_,_,h,_⟩:=h;exact h.lt
end cur
theorem yC {l:List Int} {k:Nat} (h:k < l.length):l.getD k 0 ∈ l:=by
  simp only [List.getD_eq_getElem?_getD,List.getElem?_eq_getElem h,Option.getD_some]
  exact List.getElem_mem h
section ops
variable {P : Program} {ops : Array Oper} {Q : Exit → Act → World → Prop} {n : Nat} {e : Env} {w : World} {o : Oper} {rest : List Oper}
theorem ta (m:Int) (hw:pH n ops o e) {d:Nat} (hd:o.dst=some d) (hdn:Nat.blt d n=true) (hr:(execOp (ev e) o).run P w=.ok (.value (.int .i64 m)) w)
    (hk:∀ x:Int,WL P ops Q rest n (upd e d (.int .i64 x)) w):WL P ops Q (o :: rest) n e w:=oQ hw hd hdn hr (hk m)
theorem xW (a m:Int) (hw:pH n ops o e) {d T T':Nat} {x y:Operand} (hd:o.dst=some d) (hdn:Nat.blt d n=true) (ho:o.op=.binOp .rem T x y T') (hx:ev e x=.int .i64 a) (hy:ev e y=.int .i64 m) (h0:0≤a) (h1:0 < m)
    (hk:WL P ops Q rest n (upd e d (.int .i64 (a % m))) w):WL P ops Q (o :: rest) n e w:=by
  refine oQ hw hd hdn ?_ hk
  unfold execOp
  have hG:(eqGuard .rem T x y (.int .i64 a) (.int .i64 m)).run P w=.ok () w:=rfl
  have hB:binOp .rem T (.int .i64 a) (.int .i64 m)=Op.intDiv .rem .i64 a m:=rfl
  have hm:¬ m=0:=by omega
  simp [ho,hx,hy,hG,hB,Op.intDiv,hm,Int.tmod_eq_emod_of_nonneg h0]
def zr (a b:Int):Int:=bits .xor .i64 a b
theorem AS (a b:Int) (hw:pH n ops o e) {d:Nat} (hd:o.dst=some d) (hdn:Nat.blt d n=true) (hr:(execOp (ev e) o).run P w=.ok (.value (.int .i64 (bits .xor .i64 a b))) w)
    (hk:WL P ops Q rest n (upd e d (.int .i64 (zr a b))) w):WL P ops Q (o :: rest) n e w:=oQ hw hd hdn hr hk
theorem BU {a m:Int} (h:0 < m):0≤a % m∧a % m < m:=⟨Int.emod_nonneg _ (by omega),Int.emod_lt_of_pos _ h⟩
end ops
section chg
variable {S : Nat → Prop} {w w1 w2 : World} {g B : Nat}
theorem ChG.ext (h:Ch (fun k=>k=g) w w1) (h':Ch S w1 w2) (hs:∀ k,S k→k=g∨w.heap.size≤k):Ch (fun k=>k=g) w w2:=h.comp h' fun k hk x=>(hs k x).elim id fun h=>absurd hk (by omega)
theorem ChG.extk (h:Ch (fun k=>k=g) w w1) (h':Keep w1 w2):Ch (fun k=>k=g) w w2:=h.comp h' fun k hk x=>x.elim
theorem ChO.ext (h:Ch (fun k=>k=g∨B≤k) w w1) (h':Ch S w1 w2) (hs:∀ k,S k→k=g∨B≤k):Ch (fun k=>k=g∨B≤k) w w2:=h.comp h' fun k hk x=>hs k x
theorem ChO.extk (h:Ch (fun k=>k=g∨B≤k) w w1) (h':Keep w1 w2):Ch (fun k=>k=g∨B≤k) w w2:=h.comp h' fun k hk x=>x.elim
end chg
end Go.Proofs.YtacoceibbheccaaGreat.K
