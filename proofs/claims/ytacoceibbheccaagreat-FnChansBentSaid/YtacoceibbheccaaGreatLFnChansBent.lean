/- The law FnChansBent of the given program returns true for every input, and changes none of its arguments. No condition. -/
import Derived.Test.YtacoceibbheccaaGreatRows
import Derived.Test.YtacoceibbheccaaGreatLawB
import Derived.Test.YtacoceibbheccaaGreatCame
import Derived.WalkKit
import Derived.ProofKit
import Derived.OpenShut
import Derived.ShutString
import Derived.ChangeOld
import Derived.Below
namespace Go.Proofs.YtacoceibbheccaaGreat.fnChansBent
open Go.ChangeShapes Go.WideShapes Go.ChangeAt Go.RowKit
open Go.ChangeMaps (open_string shut_string)
open Go.Proofs.YtacoceibbheccaaGreat.K
set_option linter.unusedVariables false
set_option maxRecDepth 100000
theorem own:ownKnob Tryz.prog.godebug=none:=by kernel_rfl
theorem laidOut:laidOutB Tryz.prog=true:=by kernel_rfl
theorem BY {w:World} {H:Type} {enc:TypeId×Value→H} {base fuel:Nat} {spare:Nat→Bool} {held:Bool} {cs:List Value} {y:DataW H×List MemPlace} (h:DataW.trod enc Tryz.prog w base spare held fuel 22 cs=some y) :
    ∃ (x:List UInt8) (a1:Option Addr) (c1:Nat),cs=[.slice a1 x.length c1]∧Rd w 1 (.slice a1 x.length c1) x.length (x.map bV):=Cx Tryz.underlying22 Tryz.underlying5 (by kernel_rfl) h
theorem lifted (os:Os) (started:os.Started) (H:Type) (enc:TypeId×Value→H) :
    ReturnsInHanded {} Tryz.checked os 5 .any (Rows.fnChansBentSpec.pre6 enc Tryz.prog Tryz.f5 Rows.fnChansBentRow.domain false) (Rows.fnChansBentSpec.post enc Tryz.prog Tryz.f5 false true false false):=by
  refine returnsInHanded_of_change (C:=Tryz.checked) own started (by kernel_rfl) Tryz.func5
    (ChangeSpec.witness6 (enc:=enc) (C:=Tryz.checked) false ⟨#[],#[(vs none 0 0)],[]⟩ 8 (by kernel_rfl) (by kernel_rfl) (by kernel_rfl) (by kernel_rfl)) ?_
  intro W base args ds gs before hval0 hW hcnd _
  have hval:∀ (j:Nat) t v,Tryz.f5.params[j]?=some t→args[j]?=some v→Value.okWide Tryz.prog W .any base t v:=hval0
  have hW':=hW
  obtain ⟨p,q,hA0,hV,rfl,hfz,hnd⟩:=hW
  have hA:DataW.TrodAll enc Tryz.prog W 0 (fun _=>true) true Tryz.f5.params.toList args.toList ds p:=hA0
  rw [Tryz.params5] at hA hval
  obtain ⟨v0,vs0,d0,ds0,p0,q0,hargs,rfl,rfl,h0,r0⟩:=trodAll_cons hA
  obtain ⟨rfl,rfl,rfl⟩:=trodAll_nil r0
  obtain rfl:args=#[v0]:=by cases args;simp_all
  obtain ⟨rfl,rfl⟩:=trodVars_none hV
  have k0:=h0
  have lt0:∀ x ∈ p0,x.block < W.heap.size:=by obtain ⟨m,hm⟩:=k0;exact DataW.trod_lt m _ _ _ hm
  obtain ⟨sa0,sl0,sc0,rfl⟩:=okWide_slice Tryz.underlying22 (hval 0 22 v0 rfl rfl)
  obtain ⟨fu0,hf0⟩:=h0
  obtain ⟨x0,a0q0,c0q0,hc0,g0q0⟩:=BY hf0
  have he0:Value.slice sa0 sl0 sc0=.slice a0q0 x0.length c0q0:=by simpa [Value.cells] using hc0
  injection he0 with he0a he0b he0c
  subst he0a he0b he0c
  have hC:=Ca ((Go.Proofs.YtacoceibbheccaaGreat.K.uT W (.slice sa0 x0.length sc0) x0 ⟨_,_,rfl,g0q0,(by obtain ⟨_,_,_,q1,q2,_⟩:=g0q0;simp only [maxLen] at q2;omega)⟩).mono fun v w' hr=>by obtain ⟨d0,hk,q0,he⟩:=hr;exact ⟨hk,he.trans (congrArg Value.bool (tG x0 d0 q0))⟩)
  refine Calls.mono hC fun e W' hb=>?_
  obtain ⟨he,bel⟩:=hb
  subst he
  exact ⟨_,rfl,_,_,_,[],_,[],hW',trodAll_mk1 (shut_bool Tryz.underlying4 _),(trodAll_cons_mk (Below.trod laidOut (by kernel_rfl) (of_decide_eq_true (by kernel_rfl)) k0 bel lt0) trodAll_mk0),rfl,bel.frame _,fun h=>by cases h⟩
theorem over:Rows.fnChansBentRow.holds Tryz.pinned (OpenSpec.ofChange Rows.fnChansBentSpec) :=
  OpenClaim.holds_of_wide 5 Tryz.f5 rfl rfl rfl rfl rfl rfl rfl ⟨rfl,rfl,rfl,rfl,rfl⟩ rfl rfl rfl rfl rfl (by kernel_rfl) Tryz.func5 (by kernel_rfl)
    (of_decide_eq_true (by kernel_rfl)) (by unfold Func.isWrapper;first|(rw [if_pos (by decide +kernel)];kernel_rfl)|(rw [if_neg (by decide +kernel)];exact ⟨rfl,rfl⟩))
    (fun os started H enc _=>lifted os started H enc)
theorem proved:Rows.FnChansBentSaid:=over
end Go.Proofs.YtacoceibbheccaaGreat.fnChansBent
