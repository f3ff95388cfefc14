import Derived.Test.YtacoceibbheccaaGreatMark
import Derived.Test.YtacoceibbheccaaGreatSha
namespace Go.Proofs.YtacoceibbheccaaGreat.K
open Go.RowKit Go.ChangeShapes Go.WideShapes
set_option linter.unusedVariables false
section cur
variable {S : Nat → Prop} {w w' : World} {g : Nat} {T : TypeId} {a : Option Addr} {n c sz : Nat} {b : List UInt8} {xs : List Value}
def Qo (w:World) (g:Nat) (T:TypeId) (a:Option Addr) (c:Nat) (b:List UInt8):Prop :=
  ∃ i h:Int,Blk w g T [vs a b.length c,vi i,vi h]∧Rd w 1 (vs a b.length c) b.length (b.map bV)∧b.length≤1073741824∧0≤i∧(0 < b.length→∀ z,a=some z→z.block ≠ g)
theorem Rd.chP (h:Rd w sz (vs a n c) n xs) (hc:Ch S w w') (hs:0 < n→∀ z,a=some z→¬ S z.block):Rd w' sz (vs a n c) n xs:=by
  rcases Nat.eq_zero_or_pos n with h0|h0
  · subst h0
    obtain ⟨A,c',hv,h1,h2,h3,h4⟩:=h
    exact ⟨A,c',hv,h1,h2,h3,fun hn=>absurd hn (by omega)⟩
  · exact h.ch hc fun g hg _=>by
      rcases a with _|z
      · cases hg
      · have:z.block=g:=by simpa [Value.ownBlock] using hg
        subst this
        exact hs h0 z rfl
theorem Qo.ch (h:Qo w g T a c b) (hc:Ch S w w') (hg:¬ S g) (hs:0 < b.length→∀ z,a=some z→¬ S z.block):Qo w' g T a c b:=by
  obtain ⟨i,k,h1,h2,h3,h4,h5⟩:=h
  exact ⟨i,k,h1.ch hc hg,h2.chP hc hs,h3,h4,h5⟩
theorem Qo.kp (h:Qo w g T a c b) (hc:Keep w w'):Qo w' g T a c b:=h.ch hc id fun _ _ _=>id
theorem Qo.lt (h:Qo w g T a c b):g < w.heap.size:=by obtain ⟨_,_,h,_⟩:=h;exact h.lt
end cur
section ops
variable {P : Program} {ops : Array Oper} {Q : Exit → Act → World → Prop} {n : Nat} {e : Env} {w : World} {o : Oper} {rest : List Oper}
end ops
section chg
variable {S : Nat → Prop} {w w1 w2 : World} {g B : Nat}
theorem ChG.ext (h:Ch (fun k=>k=g) w w1) (h':Ch S w1 w2) (hs:∀ k,S k→k=g∨w.heap.size≤k):Ch (fun k=>k=g) w w2:=h.comp h' fun k hk x=>(hs k x).elim id fun h=>absurd hk (by omega)
theorem ChG.extk (h:Ch (fun k=>k=g) w w1) (h':Keep w1 w2):Ch (fun k=>k=g) w w2:=h.comp h' fun k hk x=>x.elim
theorem ChO.ext (h:Ch (fun k=>k=g∨B≤k) w w1) (h':Ch S w1 w2) (hs:∀ k,S k→k=g∨B≤k):Ch (fun k=>k=g∨B≤k) w w2:=h.comp h' fun k hk x=>hs k x
theorem ChO.extk (h:Ch (fun k=>k=g∨B≤k) w w1) (h':Keep w1 w2):Ch (fun k=>k=g∨B≤k) w w2:=h.comp h' fun k hk x=>x.elim
end chg
end Go.Proofs.YtacoceibbheccaaGreat.K
