/- The law FnExactChanOpen of the given program returns true for every input, and changes none of its arguments. No condition. -/
import Derived.Test.YtacoceibbheccaaGreatRows
import Derived.Test.YtacoceibbheccaaGreatLawQd
import Derived.Test.YtacoceibbheccaaGreatCame
import Derived.WalkKit
import Derived.ProofKit
import Derived.OpenShut
import Derived.ShutString
import Derived.ChangeOld
import Derived.Below
namespace Go.Proofs.YtacoceibbheccaaGreat.fnExactChanOpen
open Go.ChangeShapes Go.WideShapes Go.ChangeAt Go.RowKit
open Go.ChangeMaps (open_string shut_string)
open Go.Proofs.YtacoceibbheccaaGreat.K
set_option linter.unusedVariables false
set_option maxRecDepth 100000
theorem own:ownKnob Tryz.prog.godebug=none:=by kernel_rfl
theorem laidOut:laidOutB Tryz.prog=true:=by kernel_rfl
theorem IX {w:World} {H:Type} {enc:TypeId×Value→H} {base fuel:Nat} {spare:Nat→Bool} {held:Bool} {cs:List Value} {y:DataW H×List MemPlace} (h:DataW.trod enc Tryz.prog w base spare held fuel 3 cs=some y) :
    ∃ (x:Int) ,cs=[.int .i64 x]:=Pz Tryz.underlying3 h
theorem Hq {w:World} {H:Type} {enc:TypeId×Value→H} {base fuel:Nat} {spare:Nat→Bool} {held:Bool} {cs:List Value} {y:DataW H×List MemPlace} (h:DataW.trod enc Tryz.prog w base spare held fuel 22 cs=some y) :
    ∃ (x:List UInt8) (a1:Option Addr) (c1:Nat),cs=[.slice a1 x.length c1]∧Rd w 1 (.slice a1 x.length c1) x.length (x.map bV):=RM Tryz.underlying22 Tryz.underlying5 (by kernel_rfl) h
theorem Rs {w:World} {H:Type} {enc:TypeId×Value→H} {base fuel:Nat} {spare:Nat→Bool} {held:Bool} {cs:List Value} {y:DataW H×List MemPlace} (h:DataW.trod enc Tryz.prog w base spare held fuel 23 cs=some y) :
    ∃ (x:List Int) (a1:Option Addr) (c1:Nat),cs=[.slice a1 x.length c1]∧Rd w 1 (.slice a1 x.length c1) x.length (x.map iV):=RL Tryz.underlying23 Tryz.underlying3 (by kernel_rfl) h
theorem Rr {w:World} {H:Type} {enc:TypeId×Value→H} {base fuel:Nat} {spare:Nat→Bool} {held:Bool} {cs:List Value} {y:DataW H×List MemPlace} (h:DataW.trod enc Tryz.prog w base spare held fuel 25 cs=some y) :
    ∃ (x:PWin) (a1:Option Addr) (c1:Nat),cs=[.int .i64 x.Top,.slice a1 x.Bits.length c1]∧Rd w 1 (.slice a1 x.Bits.length c1) x.Bits.length (x.Bits.map iV):=by
  obtain ⟨xs,n,_,_,hl,hx,hf⟩:=DataW.trod_struct Tryz.underlying25 h
  have hl1:cs.length=2:=hl.trans (by kernel_rfl)
  have hx1:xs.length=2:=hx
  match cs,hl1 with
  | [c0,c1],_ =>
    have f0:=hf 0 _ rfl
    rw [List.getElem?_eq_getElem (show 0 < xs.length by omega)] at f0
    have g0:DataW.trod enc Tryz.prog w base spare held n 3 [c0]=some xs[0]:=f0
    obtain ⟨z0,e0⟩:=IX g0
    obtain rfl:c0=Value.int .i64 z0:=by simpa using e0
    have f1:=hf 1 _ rfl
    rw [List.getElem?_eq_getElem (show 1 < xs.length by omega)] at f1
    have g1:DataW.trod enc Tryz.prog w base spare held n 23 [c1]=some xs[1]:=f1
    obtain ⟨z1,a1q0,c1q0,e1,r1q0⟩:=Rs g1
    obtain rfl:c1=Value.slice a1q0 z1.length c1q0:=by simpa using e1
    exact ⟨{Top:=z0,Bits:=z1},a1q0,c1q0,rfl,r1q0⟩
theorem PP {w:World} {H:Type} {enc:TypeId×Value→H} {base fuel:Nat} {spare:Nat→Bool} {held:Bool} {cs:List Value} {y:DataW H×List MemPlace} (h:DataW.trod enc Tryz.prog w base spare held fuel 27 cs=some y) :
    ∃ (x:PEp) (a1:Option Addr) (c1:Nat) (a2:Option Addr) (c2:Nat),cs=[.int .i64 x.N,.slice a1 x.Key.length c1,.int .i64 x.Seq,.int .i64 x.Win.Top,.slice a2 x.Win.Bits.length c2]∧Rd w 1 (.slice a1 x.Key.length c1) x.Key.length (x.Key.map bV)∧Rd w 1 (.slice a2 x.Win.Bits.length c2) x.Win.Bits.length (x.Win.Bits.map iV):=by
  obtain ⟨xs,n,_,_,hl,hx,hf⟩:=DataW.trod_struct Tryz.underlying27 h
  have hl1:cs.length=5:=hl.trans (by kernel_rfl)
  have hx1:xs.length=4:=hx
  match cs,hl1 with
  | [c0,c1,c2,c3,c4],_ =>
    have f0:=hf 0 _ rfl
    rw [List.getElem?_eq_getElem (show 0 < xs.length by omega)] at f0
    have g0:DataW.trod enc Tryz.prog w base spare held n 3 [c0]=some xs[0]:=f0
    obtain ⟨z0,e0⟩:=IX g0
    obtain rfl:c0=Value.int .i64 z0:=by simpa using e0
    have f1:=hf 1 _ rfl
    rw [List.getElem?_eq_getElem (show 1 < xs.length by omega)] at f1
    have g1:DataW.trod enc Tryz.prog w base spare held n 22 [c1]=some xs[1]:=f1
    obtain ⟨z1,a1q0,c1q0,e1,r1q0⟩:=Hq g1
    obtain rfl:c1=Value.slice a1q0 z1.length c1q0:=by simpa using e1
    have f2:=hf 2 _ rfl
    rw [List.getElem?_eq_getElem (show 2 < xs.length by omega)] at f2
    have g2:DataW.trod enc Tryz.prog w base spare held n 3 [c2]=some xs[2]:=f2
    obtain ⟨z2,e2⟩:=IX g2
    obtain rfl:c2=Value.int .i64 z2:=by simpa using e2
    have f3:=hf 3 _ rfl
    rw [List.getElem?_eq_getElem (show 3 < xs.length by omega)] at f3
    have g3:DataW.trod enc Tryz.prog w base spare held n 25 [c3,c4]=some xs[3]:=f3
    obtain ⟨z3,a3q0,c3q0,e3,r3q0⟩:=Rr g3
    obtain ⟨rfl,rfl⟩:c3=Value.int .i64 z3.Top∧c4=Value.slice a3q0 z3.Bits.length c3q0:=by simpa using e3
    exact ⟨{N:=z0,Key:=z1,Seq:=z2,Win:=z3},a1q0,c1q0,a3q0,c3q0,rfl,r1q0,r3q0⟩
theorem Sc {w:World} {H:Type} {enc:TypeId×Value→H} {base fuel:Nat} {spare:Nat→Bool} {held:Bool} {cs:List Value} {y:DataW H×List MemPlace} (h:DataW.trod enc Tryz.prog w base spare held fuel 4 cs=some y) :
    ∃ (x:Bool) ,cs=[.bool x]:=Om Tryz.underlying4 h
theorem Rq {w:World} {H:Type} {enc:TypeId×Value→H} {base fuel:Nat} {spare:Nat→Bool} {held:Bool} {cs:List Value} {y:DataW H×List MemPlace} (h:DataW.trod enc Tryz.prog w base spare held fuel 29 cs=some y) :
    ∃ (x:PChan) (a1:Option Addr) (c1:Nat) (a2:Option Addr) (c2:Nat) (a3:Option Addr) (c3:Nat) (a4:Option Addr) (c4:Nat) (a5:Option Addr) (c5:Nat) (a6:Option Addr) (c6:Nat),cs=[.int .i64 x.Role,.slice a1 x.Sn.length c1,.int .i64 x.Cur.N,.slice a2 x.Cur.Key.length c2,.int .i64 x.Cur.Seq,.int .i64 x.Cur.Win.Top,.slice a3 x.Cur.Win.Bits.length c3,.int .i64 x.Old.N,.slice a4 x.Old.Key.length c4,.int .i64 x.Old.Seq,.int .i64 x.Old.Win.Top,.slice a5 x.Old.Win.Bits.length c5,.bool x.HasOld,.int .i64 x.Until,.slice a6 x.Next.length c6]∧Rd w 1 (.slice a1 x.Sn.length c1) x.Sn.length (x.Sn.map bV)∧Rd w 1 (.slice a2 x.Cur.Key.length c2) x.Cur.Key.length (x.Cur.Key.map bV)∧Rd w 1 (.slice a3 x.Cur.Win.Bits.length c3) x.Cur.Win.Bits.length (x.Cur.Win.Bits.map iV)∧Rd w 1 (.slice a4 x.Old.Key.length c4) x.Old.Key.length (x.Old.Key.map bV)∧Rd w 1 (.slice a5 x.Old.Win.Bits.length c5) x.Old.Win.Bits.length (x.Old.Win.Bits.map iV)∧Rd w 1 (.slice a6 x.Next.length c6) x.Next.length (x.Next.map bV):=by
  obtain ⟨xs,n,_,_,hl,hx,hf⟩:=DataW.trod_struct Tryz.underlying29 h
  have hl1:cs.length=15:=hl.trans (by kernel_rfl)
  have hx1:xs.length=7:=hx
  match cs,hl1 with
  | [c0,c1,c2,c3,c4,c5,c6,c7,c8,c9,c10,c11,c12,c13,c14],_ =>
    have f0:=hf 0 _ rfl
    rw [List.getElem?_eq_getElem (show 0 < xs.length by omega)] at f0
    have g0:DataW.trod enc Tryz.prog w base spare held n 3 [c0]=some xs[0]:=f0
    obtain ⟨z0,e0⟩:=IX g0
    obtain rfl:c0=Value.int .i64 z0:=by simpa using e0
    have f1:=hf 1 _ rfl
    rw [List.getElem?_eq_getElem (show 1 < xs.length by omega)] at f1
    have g1:DataW.trod enc Tryz.prog w base spare held n 22 [c1]=some xs[1]:=f1
    obtain ⟨z1,a1q0,c1q0,e1,r1q0⟩:=Hq g1
    obtain rfl:c1=Value.slice a1q0 z1.length c1q0:=by simpa using e1
    have f2:=hf 2 _ rfl
    rw [List.getElem?_eq_getElem (show 2 < xs.length by omega)] at f2
    have g2:DataW.trod enc Tryz.prog w base spare held n 27 [c2,c3,c4,c5,c6]=some xs[2]:=f2
    obtain ⟨z2,a2q0,c2q0,a2q1,c2q1,e2,r2q0,r2q1⟩:=PP g2
    obtain ⟨rfl,rfl,rfl,rfl,rfl⟩:c2=Value.int .i64 z2.N∧c3=Value.slice a2q0 z2.Key.length c2q0∧c4=Value.int .i64 z2.Seq∧c5=Value.int .i64 z2.Win.Top∧c6=Value.slice a2q1 z2.Win.Bits.length c2q1:=by simpa using e2
    have f3:=hf 3 _ rfl
    rw [List.getElem?_eq_getElem (show 3 < xs.length by omega)] at f3
    have g3:DataW.trod enc Tryz.prog w base spare held n 27 [c7,c8,c9,c10,c11]=some xs[3]:=f3
    obtain ⟨z3,a3q0,c3q0,a3q1,c3q1,e3,r3q0,r3q1⟩:=PP g3
    obtain ⟨rfl,rfl,rfl,rfl,rfl⟩:c7=Value.int .i64 z3.N∧c8=Value.slice a3q0 z3.Key.length c3q0∧c9=Value.int .i64 z3.Seq∧c10=Value.int .i64 z3.Win.Top∧c11=Value.slice a3q1 z3.Win.Bits.length c3q1:=by simpa using e3
    have f4:=hf 4 _ rfl
    rw [List.getElem?_eq_getElem (show 4 < xs.length by omega)] at f4
    have g4:DataW.trod enc Tryz.prog w base spare held n 4 [c12]=some xs[4]:=f4
    obtain ⟨z4,e4⟩:=Sc g4
    obtain rfl:c12=Value.bool z4:=by simpa using e4
    have f5:=hf 5 _ rfl
    rw [List.getElem?_eq_getElem (show 5 < xs.length by omega)] at f5
    have g5:DataW.trod enc Tryz.prog w base spare held n 3 [c13]=some xs[5]:=f5
    obtain ⟨z5,e5⟩:=IX g5
    obtain rfl:c13=Value.int .i64 z5:=by simpa using e5
    have f6:=hf 6 _ rfl
    rw [List.getElem?_eq_getElem (show 6 < xs.length by omega)] at f6
    have g6:DataW.trod enc Tryz.prog w base spare held n 22 [c14]=some xs[6]:=f6
    obtain ⟨z6,a6q0,c6q0,e6,r6q0⟩:=Hq g6
    obtain rfl:c14=Value.slice a6q0 z6.length c6q0:=by simpa using e6
    exact ⟨{Role:=z0,Sn:=z1,Cur:=z2,Old:=z3,HasOld:=z4,Until:=z5,Next:=z6},a1q0,c1q0,a2q0,c2q0,a2q1,c2q1,a3q0,c3q0,a3q1,c3q1,a6q0,c6q0,rfl,r1q0,r2q0,r2q1,r3q0,r3q1,r6q0⟩
theorem Rp {w:World} {H:Type} {enc:TypeId×Value→H} {base fuel:Nat} {spare:Nat→Bool} {held:Bool} {cs:List Value} {y:DataW H×List MemPlace} (h:DataW.trod enc Tryz.prog w base spare held fuel 31 cs=some y) :
    ∃ (x:PFrame) (a1:Option Addr) (c1:Nat) (a2:Option Addr) (c2:Nat) (a3:Option Addr) (c3:Nat) (a4:Option Addr) (c4:Nat) (a5:Option Addr) (c5:Nat) (a6:Option Addr) (c6:Nat),cs=[.int .i64 x.Kind,.int .i64 x.Id,.slice a1 x.Cn.length c1,.slice a2 x.Sn.length c2,.int .i64 x.Tick,.slice a3 x.Cookie.length c3,.slice a4 x.Proof.length c4,.int .i64 x.Epoch,.int .i64 x.Seq,.slice a5 x.Body.length c5,.slice a6 x.Tag.length c6]∧Rd w 1 (.slice a1 x.Cn.length c1) x.Cn.length (x.Cn.map bV)∧Rd w 1 (.slice a2 x.Sn.length c2) x.Sn.length (x.Sn.map bV)∧Rd w 1 (.slice a3 x.Cookie.length c3) x.Cookie.length (x.Cookie.map bV)∧Rd w 1 (.slice a4 x.Proof.length c4) x.Proof.length (x.Proof.map bV)∧Rd w 1 (.slice a5 x.Body.length c5) x.Body.length (x.Body.map bV)∧Rd w 1 (.slice a6 x.Tag.length c6) x.Tag.length (x.Tag.map bV):=by
  obtain ⟨xs,n,_,_,hl,hx,hf⟩:=DataW.trod_struct Tryz.underlying31 h
  have hl1:cs.length=11:=hl.trans (by kernel_rfl)
  have hx1:xs.length=11:=hx
  match cs,hl1 with
  | [c0,c1,c2,c3,c4,c5,c6,c7,c8,c9,c10],_ =>
    have f0:=hf 0 _ rfl
    rw [List.getElem?_eq_getElem (show 0 < xs.length by omega)] at f0
    have g0:DataW.trod enc Tryz.prog w base spare held n 3 [c0]=some xs[0]:=f0
    obtain ⟨z0,e0⟩:=IX g0
    obtain rfl:c0=Value.int .i64 z0:=by simpa using e0
    have f1:=hf 1 _ rfl
    rw [List.getElem?_eq_getElem (show 1 < xs.length by omega)] at f1
    have g1:DataW.trod enc Tryz.prog w base spare held n 3 [c1]=some xs[1]:=f1
    obtain ⟨z1,e1⟩:=IX g1
    obtain rfl:c1=Value.int .i64 z1:=by simpa using e1
    have f2:=hf 2 _ rfl
    rw [List.getElem?_eq_getElem (show 2 < xs.length by omega)] at f2
    have g2:DataW.trod enc Tryz.prog w base spare held n 22 [c2]=some xs[2]:=f2
    obtain ⟨z2,a2q0,c2q0,e2,r2q0⟩:=Hq g2
    obtain rfl:c2=Value.slice a2q0 z2.length c2q0:=by simpa using e2
    have f3:=hf 3 _ rfl
    rw [List.getElem?_eq_getElem (show 3 < xs.length by omega)] at f3
    have g3:DataW.trod enc Tryz.prog w base spare held n 22 [c3]=some xs[3]:=f3
    obtain ⟨z3,a3q0,c3q0,e3,r3q0⟩:=Hq g3
    obtain rfl:c3=Value.slice a3q0 z3.length c3q0:=by simpa using e3
    have f4:=hf 4 _ rfl
    rw [List.getElem?_eq_getElem (show 4 < xs.length by omega)] at f4
    have g4:DataW.trod enc Tryz.prog w base spare held n 3 [c4]=some xs[4]:=f4
    obtain ⟨z4,e4⟩:=IX g4
    obtain rfl:c4=Value.int .i64 z4:=by simpa using e4
    have f5:=hf 5 _ rfl
    rw [List.getElem?_eq_getElem (show 5 < xs.length by omega)] at f5
    have g5:DataW.trod enc Tryz.prog w base spare held n 22 [c5]=some xs[5]:=f5
    obtain ⟨z5,a5q0,c5q0,e5,r5q0⟩:=Hq g5
    obtain rfl:c5=Value.slice a5q0 z5.length c5q0:=by simpa using e5
    have f6:=hf 6 _ rfl
    rw [List.getElem?_eq_getElem (show 6 < xs.length by omega)] at f6
    have g6:DataW.trod enc Tryz.prog w base spare held n 22 [c6]=some xs[6]:=f6
    obtain ⟨z6,a6q0,c6q0,e6,r6q0⟩:=Hq g6
    obtain rfl:c6=Value.slice a6q0 z6.length c6q0:=by simpa using e6
    have f7:=hf 7 _ rfl
    rw [List.getElem?_eq_getElem (show 7 < xs.length by omega)] at f7
    have g7:DataW.trod enc Tryz.prog w base spare held n 3 [c7]=some xs[7]:=f7
    obtain ⟨z7,e7⟩:=IX g7
    obtain rfl:c7=Value.int .i64 z7:=by simpa using e7
    have f8:=hf 8 _ rfl
    rw [List.getElem?_eq_getElem (show 8 < xs.length by omega)] at f8
    have g8:DataW.trod enc Tryz.prog w base spare held n 3 [c8]=some xs[8]:=f8
    obtain ⟨z8,e8⟩:=IX g8
    obtain rfl:c8=Value.int .i64 z8:=by simpa using e8
    have f9:=hf 9 _ rfl
    rw [List.getElem?_eq_getElem (show 9 < xs.length by omega)] at f9
    have g9:DataW.trod enc Tryz.prog w base spare held n 22 [c9]=some xs[9]:=f9
    obtain ⟨z9,a9q0,c9q0,e9,r9q0⟩:=Hq g9
    obtain rfl:c9=Value.slice a9q0 z9.length c9q0:=by simpa using e9
    have f10:=hf 10 _ rfl
    rw [List.getElem?_eq_getElem (show 10 < xs.length by omega)] at f10
    have g10:DataW.trod enc Tryz.prog w base spare held n 22 [c10]=some xs[10]:=f10
    obtain ⟨z10,a10q0,c10q0,e10,r10q0⟩:=Hq g10
    obtain rfl:c10=Value.slice a10q0 z10.length c10q0:=by simpa using e10
    exact ⟨{Kind:=z0,Id:=z1,Cn:=z2,Sn:=z3,Tick:=z4,Cookie:=z5,Proof:=z6,Epoch:=z7,Seq:=z8,Body:=z9,Tag:=z10},a2q0,c2q0,a3q0,c3q0,a5q0,c5q0,a6q0,c6q0,a9q0,c9q0,a10q0,c10q0,rfl,r2q0,r3q0,r5q0,r6q0,r9q0,r10q0⟩
theorem lifted (os:Os) (started:os.Started) (H:Type) (enc:TypeId×Value→H) :
    ReturnsInHanded {} Tryz.checked os 3 .any (Rows.fnExactChanOpenSpec.pre6 enc Tryz.prog Tryz.f3 Rows.fnExactChanOpenRow.domain false) (Rows.fnExactChanOpenSpec.post enc Tryz.prog Tryz.f3 false true false false):=by
  refine returnsInHanded_of_change (C:=Tryz.checked) own started (by kernel_rfl) Tryz.func3
    (ChangeSpec.witness6 (enc:=enc) (C:=Tryz.checked) false ⟨#[],#[(va Mr),(vi 0),(va Rb)],[]⟩ 8 (by kernel_rfl) (by kernel_rfl) (by kernel_rfl) (by kernel_rfl)) ?_
  intro W base args ds gs before hval0 hW hcnd _
  have hval:∀ (j:Nat) t v,Tryz.f3.params[j]?=some t→args[j]?=some v→Value.okWide Tryz.prog W .any base t v:=hval0
  have hW':=hW
  obtain ⟨p,q,hA0,hV,rfl,hfz,hnd⟩:=hW
  have hA:DataW.TrodAll enc Tryz.prog W 0 (fun _=>true) true Tryz.f3.params.toList args.toList ds p:=hA0
  rw [Tryz.params3] at hA hval
  obtain ⟨v0,vs0,d0,ds0,p0,q0,hargs,rfl,rfl,h0,r0⟩:=trodAll_cons hA
  obtain ⟨v1,vs1,d1,ds1,p1,q1,rfl,rfl,rfl,h1,r1⟩:=trodAll_cons r0
  obtain ⟨v2,vs2,d2,ds2,p2,q2,rfl,rfl,rfl,h2,r2⟩:=trodAll_cons r1
  obtain ⟨rfl,rfl,rfl⟩:=trodAll_nil r2
  obtain rfl:args=#[v0,v1,v2]:=by cases args;simp_all
  obtain ⟨rfl,rfl⟩:=trodVars_none hV
  have k0:=h0
  have lt0:∀ x ∈ p0,x.block < W.heap.size:=by obtain ⟨m,hm⟩:=k0;exact DataW.trod_lt m _ _ _ hm
  obtain ⟨cs0,rfl,_⟩:=okWide_struct Tryz.underlying29 (hval 0 29 v0 rfl rfl)
  obtain ⟨fu0,hf0⟩:=h0
  obtain ⟨x0,a0q0,c0q0,a0q1,c0q1,a0q2,c0q2,a0q3,c0q3,a0q4,c0q4,a0q5,c0q5,hc0,g0q0,g0q1,g0q2,g0q3,g0q4,g0q5⟩:=Rq hf0
  have he0:cs0=#[.int .i64 x0.Role,.slice a0q0 x0.Sn.length c0q0,.int .i64 x0.Cur.N,.slice a0q1 x0.Cur.Key.length c0q1,.int .i64 x0.Cur.Seq,.int .i64 x0.Cur.Win.Top,.slice a0q2 x0.Cur.Win.Bits.length c0q2,.int .i64 x0.Old.N,.slice a0q3 x0.Old.Key.length c0q3,.int .i64 x0.Old.Seq,.int .i64 x0.Old.Win.Top,.slice a0q4 x0.Old.Win.Bits.length c0q4,.bool x0.HasOld,.int .i64 x0.Until,.slice a0q5 x0.Next.length c0q5]:=by simpa [Value.cells] using congrArg List.toArray hc0
  subst he0
  have k1:=h1
  have lt1:∀ x ∈ p1,x.block < W.heap.size:=by obtain ⟨m,hm⟩:=k1;exact DataW.trod_lt m _ _ _ hm
  obtain ⟨n1,rfl,_⟩:=open_int Tryz.underlying3 (hval 1 3 v1 rfl rfl) h1
  have k2:=h2
  have lt2:∀ x ∈ p2,x.block < W.heap.size:=by obtain ⟨m,hm⟩:=k2;exact DataW.trod_lt m _ _ _ hm
  obtain ⟨cs2,rfl,_⟩:=okWide_struct Tryz.underlying31 (hval 2 31 v2 rfl rfl)
  obtain ⟨fu2,hf2⟩:=h2
  obtain ⟨x2,a2q0,c2q0,a2q1,c2q1,a2q2,c2q2,a2q3,c2q3,a2q4,c2q4,a2q5,c2q5,hc2,g2q0,g2q1,g2q2,g2q3,g2q4,g2q5⟩:=Rp hf2
  have he2:cs2=#[.int .i64 x2.Kind,.int .i64 x2.Id,.slice a2q0 x2.Cn.length c2q0,.slice a2q1 x2.Sn.length c2q1,.int .i64 x2.Tick,.slice a2q2 x2.Cookie.length c2q2,.slice a2q3 x2.Proof.length c2q3,.int .i64 x2.Epoch,.int .i64 x2.Seq,.slice a2q4 x2.Body.length c2q4,.slice a2q5 x2.Tag.length c2q5]:=by simpa [Value.cells] using congrArg List.toArray hc2
  subst he2
  have hC:=Rw ((Go.Proofs.YtacoceibbheccaaGreat.K.HP W (.agg #[.int .i64 x0.Role,.slice a0q0 x0.Sn.length c0q0,.int .i64 x0.Cur.N,.slice a0q1 x0.Cur.Key.length c0q1,.int .i64 x0.Cur.Seq,.int .i64 x0.Cur.Win.Top,.slice a0q2 x0.Cur.Win.Bits.length c0q2,.int .i64 x0.Old.N,.slice a0q3 x0.Old.Key.length c0q3,.int .i64 x0.Old.Seq,.int .i64 x0.Old.Win.Top,.slice a0q4 x0.Old.Win.Bits.length c0q4,.bool x0.HasOld,.int .i64 x0.Until,.slice a0q5 x0.Next.length c0q5]) x0 ⟨_,_,_,_,_,_,_,_,_,_,_,_,rfl,g0q0,(by obtain ⟨_,_,_,q1,q2,_⟩:=g0q0;simp only [maxLen] at q2;omega),g0q1,(by obtain ⟨_,_,_,q1,q2,_⟩:=g0q1;simp only [maxLen] at q2;omega),g0q2,(by obtain ⟨_,_,_,q1,q2,_⟩:=g0q2;simp only [maxLen] at q2;omega),g0q3,(by obtain ⟨_,_,_,q1,q2,_⟩:=g0q3;simp only [maxLen] at q2;omega),g0q4,(by obtain ⟨_,_,_,q1,q2,_⟩:=g0q4;simp only [maxLen] at q2;omega),g0q5,(by obtain ⟨_,_,_,q1,q2,_⟩:=g0q5;simp only [maxLen] at q2;omega)⟩ n1 (.agg #[.int .i64 x2.Kind,.int .i64 x2.Id,.slice a2q0 x2.Cn.length c2q0,.slice a2q1 x2.Sn.length c2q1,.int .i64 x2.Tick,.slice a2q2 x2.Cookie.length c2q2,.slice a2q3 x2.Proof.length c2q3,.int .i64 x2.Epoch,.int .i64 x2.Seq,.slice a2q4 x2.Body.length c2q4,.slice a2q5 x2.Tag.length c2q5]) x2 ⟨_,_,_,_,_,_,_,_,_,_,_,_,rfl,g2q0,(by obtain ⟨_,_,_,q1,q2,_⟩:=g2q0;simp only [maxLen] at q2;omega),g2q1,(by obtain ⟨_,_,_,q1,q2,_⟩:=g2q1;simp only [maxLen] at q2;omega),g2q2,(by obtain ⟨_,_,_,q1,q2,_⟩:=g2q2;simp only [maxLen] at q2;omega),g2q3,(by obtain ⟨_,_,_,q1,q2,_⟩:=g2q3;simp only [maxLen] at q2;omega),g2q4,(by obtain ⟨_,_,_,q1,q2,_⟩:=g2q4;simp only [maxLen] at q2;omega),g2q5,(by obtain ⟨_,_,_,q1,q2,_⟩:=g2q5;simp only [maxLen] at q2;omega)⟩).mono fun v w' hr=>⟨hr.1,hr.2.trans (congrArg Value.bool (KH x0 n1 x2))⟩)
  refine Calls.mono hC fun e W' hb=>?_
  obtain ⟨he,bel⟩:=hb
  subst he
  exact ⟨_,rfl,_,_,_,[],_,[],hW',trodAll_mk1 (shut_bool Tryz.underlying4 _),(trodAll_cons_mk (Below.trod laidOut (by kernel_rfl) (of_decide_eq_true (by kernel_rfl)) k0 bel lt0) (trodAll_cons_mk (Below.trod laidOut (by kernel_rfl) (of_decide_eq_true (by kernel_rfl)) k1 bel lt1) (trodAll_cons_mk (Below.trod laidOut (by kernel_rfl) (of_decide_eq_true (by kernel_rfl)) k2 bel lt2) trodAll_mk0))),rfl,bel.frame _,fun h=>by cases h⟩
theorem over:Rows.fnExactChanOpenRow.holds Tryz.pinned (OpenSpec.ofChange Rows.fnExactChanOpenSpec) :=
  OpenClaim.holds_of_wide 3 Tryz.f3 rfl rfl rfl rfl rfl rfl rfl ⟨rfl,rfl,rfl,rfl,rfl⟩ rfl rfl rfl rfl rfl (by kernel_rfl) Tryz.func3 (by kernel_rfl)
    (of_decide_eq_true (by kernel_rfl)) (by unfold Func.isWrapper;first|(rw [if_pos (by decide +kernel)];kernel_rfl)|(rw [if_neg (by decide +kernel)];exact ⟨rfl,rfl⟩))
    (fun os started H enc _=>lifted os started H enc)
theorem proved:Rows.FnExactChanOpenSaid:=over
end Go.Proofs.YtacoceibbheccaaGreat.fnExactChanOpen
