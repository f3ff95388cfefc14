import Derived.Test.YtacoceibbheccaaGreatCore
import Derived.Test.YtacoceibbheccaaGreatProg
import Derived.Test.YtacoceibbheccaaGreatHeld
import Derived.Test.YtacoceibbheccaaGreatFun
import Derived.Test.YtacoceibbheccaaGreatFunZ
import Derived.Test.YtacoceibbheccaaGreatSqz
import Derived.Test.YtacoceibbheccaaGreatHash
import Derived.Test.YtacoceibbheccaaGreatCur
import Derived.Test.YtacoceibbheccaaGreatDrawW
import Derived.Test.YtacoceibbheccaaGreatAead
import Derived.Test.YtacoceibbheccaaGreatWe6
import Derived.Test.YtacoceibbheccaaGreatTe
namespace Go.Proofs.YtacoceibbheccaaGreat.K
open Go.RowKit
set_option linter.unusedVariables false
set_option linter.unusedSimpArgs false
set_option maxRecDepth 100000
set_option maxHeartbeats 100000000
def SC:LTy (PFrame):={E:=42,Eb:=5,sz:=11,enc:=fun e=>[vi e.1.Kind,vi e.1.Id,vs (Pi e.2 0).1 e.1.Cn.length (Pi e.2 0).2,vs (Pi e.2 1).1 e.1.Sn.length (Pi e.2 1).2,vi e.1.Tick,vs (Pi e.2 2).1 e.1.Cookie.length (Pi e.2 2).2,vs (Pi e.2 3).1 e.1.Proof.length (Pi e.2 3).2,vi e.1.Epoch,vi e.1.Seq,vs (Pi e.2 4).1 e.1.Body.length (Pi e.2 4).2,vs (Pi e.2 5).1 e.1.Tag.length (Pi e.2 5).2],bs:=fun x=>[x.Cn,x.Sn,x.Cookie,x.Proof,x.Body,x.Tag],len:=fun _=>rfl,one:=fun _=>LN rfl,pos:=by decide,ne:=by decide}
def Ik:PFrame:={Kind:=0,Id:=0,Cn:=[],Sn:=[],Tick:=0,Cookie:=[],Proof:=[],Epoch:=0,Seq:=0,Body:=[],Tag:=[]:PFrame}
theorem Kl:SlTy Tryz.prog 54 42 11 184 (va JR):=Ub Tryz.underlying54 (by kernel_rfl) rfl rfl
theorem KQ {w:World} {v:Value} {lo:Nat} (h:∃ (g:Nat) (a b d e f i j k l m o p q r s:Value),v=vp g 0∧lo≤g∧Blk w g 38 [a,b,d,e,f,i,j,k,l,m,o,p,q,r,s]):∃ (g:Nat) (u:Nat→Value),v=vp g 0∧lo≤g∧Blk w g 38 [u 0,u 1,u 2,u 3,u 4,u 5,u 6,u 7,u 8,u 9,u 10,u 11,u 12,u 13,u 14]:=by
  obtain ⟨g,a,b,d,e,f,h⟩:=h
  obtain ⟨i,j,k,l,m,o,h⟩:=h
  obtain ⟨p,q,r,s,t,x,y⟩:=h
  exact ⟨g,unL [a,b,d,e,f,i,j,k,l,m,o,p,q,r,s],t,x,y⟩
def MY (x:PBl):List Value:=[.bool x]
theorem Hh:∀ a,(MY a).length=1:=fun _=>rfl
theorem enc_PBl_one:∀ a,∀ u ∈ MY a,u.oneCell'=true:=fun _=>(Kc rfl Lb)
def Hd:PBl:=false
theorem IA:SlTy Tryz.prog 58 4 1 1 (vb false):=Ub Tryz.underlying58 (by kernel_rfl) rfl rfl
theorem UV {w:World} {x:List UInt8} {a:Option Addr} {b:Nat} (d:Rd w 1 (.slice a x.length b) x.length (x.map bV)) (e:x.length≤9223372036854775807):Vj w (vs a x.length b) x:=⟨_,_,rfl,d,e⟩
def PP (w:World) (lo:Nat) (v:Value) (x:(PChan)×(PFrame)×(Int)) (k:Option Addr×Nat→Option Addr×Nat→Option Addr×Nat→Option Addr×Nat→Option Addr×Nat→Option Addr×Nat→Option Addr×Nat→Option Addr×Nat→Option Addr×Nat→Option Addr×Nat→Option Addr×Nat→Option Addr×Nat→Prop):Prop:=∃ (a:Option Addr) (b:Nat) (d:Option Addr) (e:Nat) (f:Option Addr) (g:Nat) (h:Option Addr) (i:Nat) (j:Option Addr) (l:Nat) (m:Option Addr) (o:Nat) (p:Option Addr) (q:Nat) (r:Option Addr) (s:Nat) (t:Option Addr) (u:Nat) (y:Option Addr) (A:Nat) (B:Option Addr) (C:Nat) (D:Option Addr) (E:Nat),v=.tuple #[.agg #[.int .i64 x.1.Role,.slice a x.1.Sn.length b,.int .i64 x.1.Cur.N,.slice d x.1.Cur.Key.length e,.int .i64 x.1.Cur.Seq,.int .i64 x.1.Cur.Win.Top,.slice f x.1.Cur.Win.Bits.length g,.int .i64 x.1.Old.N,.slice h x.1.Old.Key.length i,.int .i64 x.1.Old.Seq,.int .i64 x.1.Old.Win.Top,.slice j x.1.Old.Win.Bits.length l,.bool x.1.HasOld,.int .i64 x.1.Until,.slice m x.1.Next.length o],.agg #[.int .i64 x.2.1.Kind,.int .i64 x.2.1.Id,.slice p x.2.1.Cn.length q,.slice r x.2.1.Sn.length s,.int .i64 x.2.1.Tick,.slice t x.2.1.Cookie.length u,.slice y x.2.1.Proof.length A,.int .i64 x.2.1.Epoch,.int .i64 x.2.1.Seq,.slice B x.2.1.Body.length C,.slice D x.2.1.Tag.length E],.int .i64 x.2.2]∧w.ownsRow lo 5 1 (.slice a x.1.Sn.length b) x.1.Sn.length (x.1.Sn.map bV)∧x.1.Sn.length≤1073741824∧w.ownsRow lo 5 1 (.slice d x.1.Cur.Key.length e) x.1.Cur.Key.length (x.1.Cur.Key.map bV)∧x.1.Cur.Key.length≤1073741824∧w.ownsRow lo 3 1 (.slice f x.1.Cur.Win.Bits.length g) x.1.Cur.Win.Bits.length (x.1.Cur.Win.Bits.map iV)∧x.1.Cur.Win.Bits.length≤1073741824∧w.ownsRow lo 5 1 (.slice h x.1.Old.Key.length i) x.1.Old.Key.length (x.1.Old.Key.map bV)∧x.1.Old.Key.length≤1073741824∧w.ownsRow lo 3 1 (.slice j x.1.Old.Win.Bits.length l) x.1.Old.Win.Bits.length (x.1.Old.Win.Bits.map iV)∧x.1.Old.Win.Bits.length≤1073741824∧w.ownsRow lo 5 1 (.slice m x.1.Next.length o) x.1.Next.length (x.1.Next.map bV)∧x.1.Next.length≤1073741824∧w.ownsRow lo 5 1 (.slice p x.2.1.Cn.length q) x.2.1.Cn.length (x.2.1.Cn.map bV)∧x.2.1.Cn.length≤1073741824∧w.ownsRow lo 5 1 (.slice r x.2.1.Sn.length s) x.2.1.Sn.length (x.2.1.Sn.map bV)∧x.2.1.Sn.length≤1073741824∧w.ownsRow lo 5 1 (.slice t x.2.1.Cookie.length u) x.2.1.Cookie.length (x.2.1.Cookie.map bV)∧x.2.1.Cookie.length≤1073741824∧w.ownsRow lo 5 1 (.slice y x.2.1.Proof.length A) x.2.1.Proof.length (x.2.1.Proof.map bV)∧x.2.1.Proof.length≤1073741824∧w.ownsRow lo 5 1 (.slice B x.2.1.Body.length C) x.2.1.Body.length (x.2.1.Body.map bV)∧x.2.1.Body.length≤1073741824∧w.ownsRow lo 5 1 (.slice D x.2.1.Tag.length E) x.2.1.Tag.length (x.2.1.Tag.map bV)∧x.2.1.Tag.length≤1073741824∧Aps [(a,b),(d,e),(f,g),(h,i),(j,l),(m,o),(p,q),(r,s),(t,u),(y,A),(B,C),(D,E)]∧k (a,b) (d,e) (f,g) (h,i) (j,l) (m,o) (p,q) (r,s) (t,u) (y,A) (B,C) (D,E)
abbrev fx (x:List UInt8) (l:List PFrame) (m:Nat):PFrame:=l.getD (((Gt x (4+((m:Nat):Int))) % 5)).toNat Ik
abbrev ob (x:List UInt8) (b:PChan) (l:List PFrame) (m:Nat):PChan×List UInt8×Int:=FG b ((m:Nat):Int) (fx x l m)
abbrev sx (x:List UInt8) (a:PChan) (k:Nat):PChan×PFrame×Int:=IB a 4 ([(by8 ((k:Nat):Int)),(by8 (Gt x 3))]:List UInt8)
def RZ (code:List UInt8) (d:PChan×PChan):Bool:=true
theorem Sj (aL:World) (gI:Value) (d:List UInt8) (kO:Vj aL gI d) :Fn Tryz.prog 4 #[gI] aL (fun v A=>∃ (B:(PChan)×(PChan)),Keep aL A∧(SB d B)∧v=vb (RZ d B)):=by
 obtain ⟨ax,a6,rfl,d7,kP⟩:=kO
 refine FI (n:=148) [(vs ax d.length a6)] Tryz.func4 rfl rfl ?_
 refine sr<|aw (vb false) ?_
 refine n4<|mw (vs ax d.length a6) ?_
 refine cl wN (Vc aL _ d (UV d7 kP)) ?_
 rintro _ C ⟨aO,rfl⟩
 have fe:=(Ch.base aL).extk aO
 refine n2 ?_
 rcases bt (RR d) with ee|ee
 ·refine ct ee<|sr<|aw (vb true) ?_
  refine n1<|rt (vb true) ?_
  have kQ:RZ d ((Gr 0 (List.replicate 12 0) (sha d),Gr 1 (List.replicate 12 0) (sha d)))=true:=by rfl
  exact ⟨((Gr 0 (List.replicate 12 0) (sha d),Gr 1 (List.replicate 12 0) (sha d))),fe.keep0,(by exact ⟨List.replicate 12 0,rfl,rfl⟩),by rw [kQ]⟩
 have w1:=Rh ee
 refine cf ee<|y1<|mw (vs ax d.length a6) ?_
 refine cl wN (Uy C _ d (FV (d7.from0 fe) (by omega)) (by omega)) ?_
 rintro _ aM z'
 obtain ⟨B,a0,z1',kR⟩:=z'
 obtain ⟨cJ,cK,cL,cM,cN,cO,z1'⟩:=z1'
 obtain ⟨cP,cQ,cR,cS,cT,cU,z1'⟩:=z1'
 obtain ⟨cV,cW,cX,cY,cZ,da,z1'⟩:=z1'
 obtain ⟨db,dc,dd,de,df,dg,z1'⟩:=z1'
 obtain ⟨rfl,ef,gJ,eg,gK,eh,z1'⟩:=z1'
 obtain ⟨gL,ej,gM,ek,gN,em,z1'⟩:=z1'
 obtain ⟨gO,en,gP,eo,gQ,ep,z1'⟩:=z1'
 obtain ⟨gR,er,gS,es,gT,et,z1'⟩:=z1'
 obtain ⟨gU,w2⟩:=z1'
 refine mw (.tuple #[(va (GH ((B).1) cJ cK cL cM cN cO cP cQ cR cS cT cU)),(va (GH ((B).2) cV cW cX cY cZ da db dc dd de df dg))]) ?_
 refine pu (va (GH ((B).1) cJ cK cL cM cN cO cP cQ cR cS cT cU)) wN ?_
 refine pu (va (GH ((B).2) cV cW cX cY cZ da db dc dd de df dg)) wN ?_
 refine al Mf wN HR ?_
 intro aP w3 cr a7 af kS
 have kT:=(fe.extk a0).extk af
 refine al Mf wN HR ?_
 intro aQ w4 an aI aj kU
 have kV:=(kS.kp aj)
 refine sv (GH ((B).1) cJ cK cL cM cN cO cP cQ cR cS cT cU) wN uC kV ?_
 intro w5 I gV w6
 have kW:=(kT.extk aj).ext I (fun k hk=>by subst hk;exact nT (z2 aO a0) cr)
 have kX:=(kU.ch I (Ne.symm (nN (nL a7 (an)))))
 refine sv (GH ((B).2) cV cW cX cY cZ da db dc dd de df dg) wN uC kX ?_
 intro eu H gW w7
 have gX:=kW.ext H (fun k hk=>by subst hk;exact nT (z3 aO a0 af) an)
 refine n4<|jM1 (fun e' A=>∃ (a:PChan) (q:PChan) (gY:Env) (ab3_1x:Option Addr) (cb3_1x:Nat) (ab3_11x:Option Addr) (cb3_11x:Nat) (ab3_14x:Option Addr) (cb3_14x:Nat) (ab3_3x:Option Addr) (cb3_3x:Nat) (ab3_6x:Option Addr) (cb3_6x:Nat) (ab3_8x:Option Addr) (cb3_8x:Nat) (ab4_1x:Option Addr) (cb4_1x:Nat) (ab4_11x:Option Addr) (cb4_11x:Nat) (ab4_14x:Option Addr) (cb4_14x:Nat) (ab4_3x:Option Addr) (cb4_3x:Nat) (ab4_6x:Option Addr) (cb4_6x:Nat) (ab4_8x:Option Addr) (cb4_8x:Nat),e'=pt gY [(0,(vs ax d.length a6)),(2,(vb false)),(3,(vp aP 0)),(4,(vp aQ 0))]∧Ch (fun k=>aL.heap.size≤k) aL A∧Ch (fun k=>aM.heap.size≤k) eu A∧EndsP a q∧(World.ownsRow A C.heap.size 5 1 (.slice ab3_1x (a.Sn).length cb3_1x) (a.Sn).length ((a.Sn).map bV)∧(a.Sn).length≤1073741824)∧(World.ownsRow A C.heap.size 3 1 (.slice ab3_11x (a.Old.Win.Bits).length cb3_11x) (a.Old.Win.Bits).length ((a.Old.Win.Bits).map iV)∧(a.Old.Win.Bits).length≤1073741824)∧(World.ownsRow A C.heap.size 5 1 (.slice ab3_14x (a.Next).length cb3_14x) (a.Next).length ((a.Next).map bV)∧(a.Next).length≤1073741824)∧(World.ownsRow A C.heap.size 5 1 (.slice ab3_3x (a.Cur.Key).length cb3_3x) (a.Cur.Key).length ((a.Cur.Key).map bV)∧(a.Cur.Key).length≤1073741824)∧(World.ownsRow A C.heap.size 3 1 (.slice ab3_6x (a.Cur.Win.Bits).length cb3_6x) (a.Cur.Win.Bits).length ((a.Cur.Win.Bits).map iV)∧(a.Cur.Win.Bits).length≤1073741824)∧(World.ownsRow A C.heap.size 5 1 (.slice ab3_8x (a.Old.Key).length cb3_8x) (a.Old.Key).length ((a.Old.Key).map bV)∧(a.Old.Key).length≤1073741824)∧(World.ownsRow A C.heap.size 5 1 (.slice ab4_1x (q.Sn).length cb4_1x) (q.Sn).length ((q.Sn).map bV)∧(q.Sn).length≤1073741824)∧(World.ownsRow A C.heap.size 3 1 (.slice ab4_11x (q.Old.Win.Bits).length cb4_11x) (q.Old.Win.Bits).length ((q.Old.Win.Bits).map iV)∧(q.Old.Win.Bits).length≤1073741824)∧(World.ownsRow A C.heap.size 5 1 (.slice ab4_14x (q.Next).length cb4_14x) (q.Next).length ((q.Next).map bV)∧(q.Next).length≤1073741824)∧(World.ownsRow A C.heap.size 5 1 (.slice ab4_3x (q.Cur.Key).length cb4_3x) (q.Cur.Key).length ((q.Cur.Key).map bV)∧(q.Cur.Key).length≤1073741824)∧(World.ownsRow A C.heap.size 3 1 (.slice ab4_6x (q.Cur.Win.Bits).length cb4_6x) (q.Cur.Win.Bits).length ((q.Cur.Win.Bits).map iV)∧(q.Cur.Win.Bits).length≤1073741824)∧(World.ownsRow A C.heap.size 5 1 (.slice ab4_8x (q.Old.Key).length cb4_8x) (q.Old.Key).length ((q.Old.Key).map bV)∧(q.Old.Key).length≤1073741824)∧Blk A aP 38 [(vi a.Role),(.slice ab3_1x (a.Sn).length cb3_1x),(vi a.Cur.N),(.slice ab3_3x (a.Cur.Key).length cb3_3x),(vi a.Cur.Seq),(vi a.Cur.Win.Top),(.slice ab3_6x (a.Cur.Win.Bits).length cb3_6x),(vi a.Old.N),(.slice ab3_8x (a.Old.Key).length cb3_8x),(vi a.Old.Seq),(vi a.Old.Win.Top),(.slice ab3_11x (a.Old.Win.Bits).length cb3_11x),(vb a.HasOld),(vi a.Until),(.slice ab3_14x (a.Next).length cb3_14x)]∧Blk A aQ 38 [(vi q.Role),(.slice ab4_1x (q.Sn).length cb4_1x),(vi q.Cur.N),(.slice ab4_3x (q.Cur.Key).length cb4_3x),(vi q.Cur.Seq),(vi q.Cur.Win.Top),(.slice ab4_6x (q.Cur.Win.Bits).length cb4_6x),(vi q.Old.N),(.slice ab4_8x (q.Old.Key).length cb4_8x),(vi q.Old.Seq),(vi q.Old.Win.Top),(.slice ab4_11x (q.Old.Win.Bits).length cb4_11x),(vb q.HasOld),(vi q.Until),(.slice ab4_14x (q.Next).length cb4_14x)]) ?_ fun gZ=>?_
 ·rintro _ ew z'
  obtain ⟨a,q,gY,ab3_1x,cb3_1x,ab3_11x,z'⟩:=z'
  obtain ⟨cb3_11x,ab3_14x,cb3_14x,ab3_3x,cb3_3x,ab3_6x,z'⟩:=z'
  obtain ⟨cb3_6x,ab3_8x,cb3_8x,ab4_1x,cb4_1x,ab4_11x,z'⟩:=z'
  obtain ⟨cb4_11x,ab4_14x,cb4_14x,ab4_3x,cb4_3x,ab4_6x,z'⟩:=z'
  obtain ⟨cb4_6x,ab4_8x,cb4_8x,rfl,kY,M,z'⟩:=z'
  obtain ⟨ex,⟨kZ,la⟩,⟨lb,lc⟩,⟨lf,lg⟩,⟨lh,li⟩,⟨lj,lk⟩,z'⟩:=z'
  obtain ⟨⟨ll,lm⟩,⟨lo,lp⟩,⟨lq,lr⟩,⟨ls,lu⟩,⟨lv,lw⟩,⟨lx,ly⟩,z'⟩:=z'
  obtain ⟨⟨lz,l0⟩,bc,cd⟩:=z'
  refine sr<|Gc wN rfl rfl Kl (fun w=>by kernel_rfl) ?_
  intro ey dv D l1
  have l2:=kY.extk D
  have l3:OLv SC dv ew.heap.size dv.heap.size (some ey) 0 0 []:=OLv.of0 l1
  refine aw (vs (some ey) 0 0) ?_
  refine n4<|aw (vi 0) ?_
  refine uD<|rg<|uJ ?_
  have ha:([]:List (PFrame))=([]:List PFrame):=by rfl
  have hc:0=(([]:List PFrame)).length:=by rw [← ha];try (first|rfl|simp only [List.length_set]|simp)
  have l4:=(gc kZ D)
  have ff:(a.Sn:List UInt8)=a.Sn:=by rfl
  have hd:(a.Sn).length=(a.Sn).length:=by rw [← ff];try (first|rfl|simp only [List.length_set]|simp)
  have l5:=(gc lb D)
  have fg:(a.Old.Win.Bits:List Int)=a.Old.Win.Bits:=by rfl
  have hf:(a.Old.Win.Bits).length=(a.Old.Win.Bits).length:=by rw [← fg];try (first|rfl|simp only [List.length_set]|simp)
  have l6:=(gc lf D)
  have fh:(a.Next:List UInt8)=a.Next:=by rfl
  have hh:(a.Next).length=(a.Next).length:=by rw [← fh];try (first|rfl|simp only [List.length_set]|simp)
  have l7:=(gc lh D)
  have fi:(a.Cur.Key:List UInt8)=a.Cur.Key:=by rfl
  have hi:(a.Cur.Key).length=(a.Cur.Key).length:=by rw [← fi];try (first|rfl|simp only [List.length_set]|simp)
  have l8:=(gc lj D)
  have fj:(a.Cur.Win.Bits:List Int)=a.Cur.Win.Bits:=by rfl
  have hj:(a.Cur.Win.Bits).length=(a.Cur.Win.Bits).length:=by rw [← fj];try (first|rfl|simp only [List.length_set]|simp)
  have l9:=(gc ll D)
  have fk:(a.Old.Key:List UInt8)=a.Old.Key:=by rfl
  have hl:(a.Old.Key).length=(a.Old.Key).length:=by rw [← fk];try (first|rfl|simp only [List.length_set]|simp)
  have lA:=(gc lo D)
  have fl:(q.Sn:List UInt8)=q.Sn:=by rfl
  have hm:(q.Sn).length=(q.Sn).length:=by rw [← fl];try (first|rfl|simp only [List.length_set]|simp)
  have lB:=(gc lq D)
  have fm:(q.Old.Win.Bits:List Int)=q.Old.Win.Bits:=by rfl
  have hn:(q.Old.Win.Bits).length=(q.Old.Win.Bits).length:=by rw [← fm];try (first|rfl|simp only [List.length_set]|simp)
  have lC:=(gc ls D)
  have fo:(q.Next:List UInt8)=q.Next:=by rfl
  have ho:(q.Next).length=(q.Next).length:=by rw [← fo];try (first|rfl|simp only [List.length_set]|simp)
  have lD:=(gc lv D)
  have fp:(q.Cur.Key:List UInt8)=q.Cur.Key:=by rfl
  have hp:(q.Cur.Key).length=(q.Cur.Key).length:=by rw [← fp];try (first|rfl|simp only [List.length_set]|simp)
  have lE:=(gc lx D)
  have fq:(q.Cur.Win.Bits:List Int)=q.Cur.Win.Bits:=by rfl
  have hq:(q.Cur.Win.Bits).length=(q.Cur.Win.Bits).length:=by rw [← fq];try (first|rfl|simp only [List.length_set]|simp)
  have lF:=(gc lz D)
  have fr:(q.Old.Key:List UInt8)=q.Old.Key:=by rfl
  have hr:(q.Old.Key).length=(q.Old.Key).length:=by rw [← fr];try (first|rfl|simp only [List.length_set]|simp)
  have lG:=(bc.kp D)
  have lH:=(cd.kp D)
  refine Ge [(0,(vs ax d.length a6)),(3,(vp aP 0)),(4,(vp aQ 0)),(5,(.slice (some ey) (([]:List PFrame)).length 0)),(6,(vi ((0:Nat):Int)))] ⟨rfl,rfl,rfl,rfl,(cA (Value.int .i64) (show (0:Int)=((0:Nat):Int) by omega)),trivial⟩ (fun e' A=>∃ (k:Nat) (a:PChan) (c:PChan) (q:PChan) (l:List PFrame) (hs:Env) (F:Option Addr) (G:Nat) (ab3_1x:Option Addr) (cb3_1x:Nat) (ab3_11x:Option Addr) (cb3_11x:Nat) (ab3_14x:Option Addr) (cb3_14x:Nat) (ab3_3x:Option Addr) (cb3_3x:Nat) (ab3_6x:Option Addr) (cb3_6x:Nat) (ab3_8x:Option Addr) (cb3_8x:Nat) (ab4_1x:Option Addr) (cb4_1x:Nat) (ab4_11x:Option Addr) (cb4_11x:Nat) (ab4_14x:Option Addr) (cb4_14x:Nat) (ab4_3x:Option Addr) (cb4_3x:Nat) (ab4_6x:Option Addr) (cb4_6x:Nat) (ab4_8x:Option Addr) (cb4_8x:Nat),e'=pt hs [(0,(vs ax d.length a6)),(3,(vp aP 0)),(4,(vp aQ 0)),(5,(.slice F (l).length G)),(6,(vi ((k:Nat):Int)))]∧Ch (fun k=>aL.heap.size≤k) aL A∧Ch (fun k=>aM.heap.size≤k) dv A∧((k:Nat):Int)≤5∧EndsP c q∧a=PR c k∧l=frs c (Gt d 3) k∧(OLv SC A ew.heap.size A.heap.size F (l).length G (l)∧(l).length≤1073741824)∧(World.ownsRow A C.heap.size 5 1 (.slice ab3_1x (a.Sn).length cb3_1x) (a.Sn).length ((a.Sn).map bV)∧(a.Sn).length≤1073741824)∧(World.ownsRow A C.heap.size 3 1 (.slice ab3_11x (a.Old.Win.Bits).length cb3_11x) (a.Old.Win.Bits).length ((a.Old.Win.Bits).map iV)∧(a.Old.Win.Bits).length≤1073741824)∧(World.ownsRow A C.heap.size 5 1 (.slice ab3_14x (a.Next).length cb3_14x) (a.Next).length ((a.Next).map bV)∧(a.Next).length≤1073741824)∧(World.ownsRow A C.heap.size 5 1 (.slice ab3_3x (a.Cur.Key).length cb3_3x) (a.Cur.Key).length ((a.Cur.Key).map bV)∧(a.Cur.Key).length≤1073741824)∧(World.ownsRow A C.heap.size 3 1 (.slice ab3_6x (a.Cur.Win.Bits).length cb3_6x) (a.Cur.Win.Bits).length ((a.Cur.Win.Bits).map iV)∧(a.Cur.Win.Bits).length≤1073741824)∧(World.ownsRow A C.heap.size 5 1 (.slice ab3_8x (a.Old.Key).length cb3_8x) (a.Old.Key).length ((a.Old.Key).map bV)∧(a.Old.Key).length≤1073741824)∧(World.ownsRow A C.heap.size 5 1 (.slice ab4_1x (q.Sn).length cb4_1x) (q.Sn).length ((q.Sn).map bV)∧(q.Sn).length≤1073741824)∧(World.ownsRow A C.heap.size 3 1 (.slice ab4_11x (q.Old.Win.Bits).length cb4_11x) (q.Old.Win.Bits).length ((q.Old.Win.Bits).map iV)∧(q.Old.Win.Bits).length≤1073741824)∧(World.ownsRow A C.heap.size 5 1 (.slice ab4_14x (q.Next).length cb4_14x) (q.Next).length ((q.Next).map bV)∧(q.Next).length≤1073741824)∧(World.ownsRow A C.heap.size 5 1 (.slice ab4_3x (q.Cur.Key).length cb4_3x) (q.Cur.Key).length ((q.Cur.Key).map bV)∧(q.Cur.Key).length≤1073741824)∧(World.ownsRow A C.heap.size 3 1 (.slice ab4_6x (q.Cur.Win.Bits).length cb4_6x) (q.Cur.Win.Bits).length ((q.Cur.Win.Bits).map iV)∧(q.Cur.Win.Bits).length≤1073741824)∧(World.ownsRow A C.heap.size 5 1 (.slice ab4_8x (q.Old.Key).length cb4_8x) (q.Old.Key).length ((q.Old.Key).map bV)∧(q.Old.Key).length≤1073741824)∧Blk A aP 38 [(vi a.Role),(.slice ab3_1x (a.Sn).length cb3_1x),(vi a.Cur.N),(.slice ab3_3x (a.Cur.Key).length cb3_3x),(vi a.Cur.Seq),(vi a.Cur.Win.Top),(.slice ab3_6x (a.Cur.Win.Bits).length cb3_6x),(vi a.Old.N),(.slice ab3_8x (a.Old.Key).length cb3_8x),(vi a.Old.Seq),(vi a.Old.Win.Top),(.slice ab3_11x (a.Old.Win.Bits).length cb3_11x),(vb a.HasOld),(vi a.Until),(.slice ab3_14x (a.Next).length cb3_14x)]∧Blk A aQ 38 [(vi q.Role),(.slice ab4_1x (q.Sn).length cb4_1x),(vi q.Cur.N),(.slice ab4_3x (q.Cur.Key).length cb4_3x),(vi q.Cur.Seq),(vi q.Cur.Win.Top),(.slice ab4_6x (q.Cur.Win.Bits).length cb4_6x),(vi q.Old.N),(.slice ab4_8x (q.Old.Key).length cb4_8x),(vi q.Old.Seq),(vi q.Old.Win.Top),(.slice ab4_11x (q.Old.Win.Bits).length cb4_11x),(vb q.HasOld),(vi q.Until),(.slice ab4_14x (q.Next).length cb4_14x)]) (fun e' _=>(10 - (intOf (e' 6))).toNat) ?_ ?_
  ·exact fun u=>⟨0,a,a,q,([]:List PFrame),u,(some ey),0,ab3_1x,cb3_1x,ab3_11x,cb3_11x,ab3_14x,cb3_14x,ab3_3x,cb3_3x,ab3_6x,cb3_6x,ab3_8x,cb3_8x,ab4_1x,cb4_1x,ab4_11x,cb4_11x,ab4_14x,cb4_14x,ab4_3x,cb4_3x,ab4_6x,cb4_6x,ab4_8x,cb4_8x,rfl,l2,(Ch.refl (fun k=>aM.heap.size≤k) dv),(by omega),(by first|exact ak|exact ex),(by first|(simp only [sx,bE,Jh (k:=k) ak (by omega)];done)|exact Ue ex),(by first|rfl|(simp only [sx,bE,cs,Jh (k:=k) ak (by omega)];exact (OU _ _ _).symm)),⟨(by rw [← hc,← ha];exact (OLv.now l3)),(by rw [← hc];first|exact (by simp)|(simp only [List.length_append,List.length_take,List.length_replicate];omega))⟩,⟨(by rw [← hd,← ff];exact l4),(by rw [← hd];first|exact la|(simp only [List.length_append,List.length_take,List.length_replicate];omega))⟩,⟨(by rw [← hf,← fg];exact l5),(by rw [← hf];first|exact lc|(simp only [List.length_append,List.length_take,List.length_replicate];omega))⟩,⟨(by rw [← hh,← fh];exact l6),(by rw [← hh];first|exact lg|(simp only [List.length_append,List.length_take,List.length_replicate];omega))⟩,⟨(by rw [← hi,← fi];exact l7),(by rw [← hi];first|exact li|(simp only [List.length_append,List.length_take,List.length_replicate];omega))⟩,⟨(by rw [← hj,← fj];exact l8),(by rw [← hj];first|exact lk|(simp only [List.length_append,List.length_take,List.length_replicate];omega))⟩,⟨(by rw [← hl,← fk];exact l9),(by rw [← hl];first|exact lm|(simp only [List.length_append,List.length_take,List.length_replicate];omega))⟩,⟨(by rw [← hm,← fl];exact lA),(by rw [← hm];first|exact lp|(simp only [List.length_append,List.length_take,List.length_replicate];omega))⟩,⟨(by rw [← hn,← fm];exact lB),(by rw [← hn];first|exact lr|(simp only [List.length_append,List.length_take,List.length_replicate];omega))⟩,⟨(by rw [← ho,← fo];exact lC),(by rw [← ho];first|exact lu|(simp only [List.length_append,List.length_take,List.length_replicate];omega))⟩,⟨(by rw [← hp,← fp];exact lD),(by rw [← hp];first|exact lw|(simp only [List.length_append,List.length_take,List.length_replicate];omega))⟩,⟨(by rw [← hq,← fq];exact lE),(by rw [← hq];first|exact ly|(simp only [List.length_append,List.length_take,List.length_replicate];omega))⟩,⟨(by rw [← hr,← fr];exact lF),(by rw [← hr];first|exact l0|(simp only [List.length_append,List.length_take,List.length_replicate];omega))⟩,(by have hb:=lG;first|exact hb|(rw [ff,fg,fh,fi,fj,fk] at hb;exact hb)),(by have hb:=lH;first|exact hb|(rw [fl,fm,fo,fp,fq,fr] at hb;exact hb))⟩
  ·rintro _ ay z'
   obtain ⟨k,a,c,q,l,hs,z'⟩:=z'
   obtain ⟨F,G,ab3_1x,cb3_1x,ab3_11x,cb3_11x,z'⟩:=z'
   obtain ⟨ab3_14x,cb3_14x,ab3_3x,cb3_3x,ab3_6x,cb3_6x,z'⟩:=z'
   obtain ⟨ab3_8x,cb3_8x,ab4_1x,cb4_1x,ab4_11x,cb4_11x,z'⟩:=z'
   obtain ⟨ab4_14x,cb4_14x,ab4_3x,cb4_3x,ab4_6x,cb4_6x,z'⟩:=z'
   obtain ⟨ab4_8x,cb4_8x,rfl,fs,R,w8,z'⟩:=z'
   obtain ⟨ak,bE,cs,⟨ft,lI⟩,⟨hu,hv⟩,⟨hw,hy⟩,z'⟩:=z'
   obtain ⟨⟨h0,h1⟩,⟨h2,h3⟩,⟨h4,h5⟩,⟨h6,h7⟩,⟨fu,h8⟩,⟨fv,h9⟩,z'⟩:=z'
   obtain ⟨⟨fw,hA⟩,⟨fy,hB⟩,⟨fz,hC⟩,⟨f0,hD⟩,bc,cd⟩:=z'
   obtain ⟨w9,cb⟩:=OLv.ow ft
   have hlk:l.length=k:=by rw [cs];exact QH _ _ _
   refine uK<|sr<|mw (vi ((k:Nat):Int)) ?_
   refine pu (vb (decide (((k:Nat):Int) < 5))) wN ?_
   refine n2 ?_
   rcases bt (decide (((k:Nat):Int) < 5)) with d8|d8
   ·have wA:=dT d8
    refine ct d8<|FR<|rg<|uK<|uJ<|uK<|Ga ([(38,[],[],(fun _ v _=>v=(va [(vi a.Role),(vs ab3_1x (a.Sn).length cb3_1x),(vi a.Cur.N),(vs ab3_3x (a.Cur.Key).length cb3_3x),(vi a.Cur.Seq),(vi a.Cur.Win.Top),(vs ab3_6x (a.Cur.Win.Bits).length cb3_6x),(vi a.Old.N),(vs ab3_8x (a.Old.Key).length cb3_8x),(vi a.Old.Seq),(vi a.Old.Win.Top),(vs ab3_11x (a.Old.Win.Bits).length cb3_11x),(vb a.HasOld),(vi a.Until),(vs ab3_14x (a.Next).length cb3_14x)]))),(39,[],[],(fun _ v _=>v=(vi ((k:Nat):Int)))),(40,[],[1],(fun _ v _=>v=(v8 ((by8 ((k:Nat):Int)).toNat:Int)))),(41,[],[],(fun _ v _=>v=(vs ax d.length a6))),(42,[],[3],(fun _ v w=>v=.int .i64 (Gt d 3))),(43,[],[3,4],(fun _ v _=>v=(v8 ((by8 (Gt d 3)).toNat:Int)))),(44,[],[1,2,3,4,5],(fun _ v w=>∃ (ax:Option Addr) (f3:Nat),v=.slice ax ([(by8 ((k:Nat):Int)),(by8 (Gt d 3))]:List UInt8).length f3∧w.ownsRow ay.heap.size 5 1 (.slice ax ([(by8 ((k:Nat):Int)),(by8 (Gt d 3))]:List UInt8).length f3) ([(by8 ((k:Nat):Int)),(by8 (Gt d 3))]:List UInt8).length (([(by8 ((k:Nat):Int)),(by8 (Gt d 3))]:List UInt8).map bV)∧([(by8 ((k:Nat):Int)),(by8 (Gt d 3))]:List UInt8).length≤1073741824∧Aps [(ax,f3)])),(45,[44],[0,1,2,3,4,5,6],(fun e v w=>PP w ay.heap.size v (sx d a k) (fun lJ lK lL lM lO lP lQ lR lS lT lU lV=>Ap (sp (e 44)) lJ∧Ap (sp (e 44)) lK∧Ap (sp (e 44)) lL∧Ap (sp (e 44)) lM∧Ap (sp (e 44)) lO∧Ap (sp (e 44)) lP∧Ap (sp (e 44)) lQ∧Ap (sp (e 44)) lR∧Ap (sp (e 44)) lS∧Ap (sp (e 44)) lT∧Ap (sp (e 44)) lU∧Ap (sp (e 44)) lV))),(37,[45],[0,1,2,3,4,5,6,7],(fun e v _=>v=(.tuple #[(.agg #[(vi (((sx d a k).1).Role)),(FS (Gl (e 45) 0) 1),(vi ((((sx d a k).1).Cur).N)),(FS (Gl (e 45) 0) 3),(vi ((((sx d a k).1).Cur).Seq)),(vi (((((sx d a k).1).Cur).Win).Top)),(FS (Gl (e 45) 0) 6),(vi ((((sx d a k).1).Old).N)),(FS (Gl (e 45) 0) 8),(vi ((((sx d a k).1).Old).Seq)),(vi (((((sx d a k).1).Old).Win).Top)),(FS (Gl (e 45) 0) 11),(vb (((sx d a k).1).HasOld)),(vi (((sx d a k).1).Until)),(FS (Gl (e 45) 0) 14)]),(.agg #[(vi (((sx d a k).2.1).Kind)),(vi (((sx d a k).2.1).Id)),(FS (Gl (e 45) 1) 2),(FS (Gl (e 45) 1) 3),(vi (((sx d a k).2.1).Tick)),(FS (Gl (e 45) 1) 5),(FS (Gl (e 45) 1) 6),(vi (((sx d a k).2.1).Epoch)),(vi (((sx d a k).2.1).Seq)),(FS (Gl (e 45) 1) 9),(FS (Gl (e 45) 1) 10)]),(vi ((sx d a k).2.2))]))),(46,[45],[0,1,2,3,4,5,6,7,8],(fun e v _=>v=(.agg #[(vi (((sx d a k).1).Role)),(FS (Gl (e 45) 0) 1),(vi ((((sx d a k).1).Cur).N)),(FS (Gl (e 45) 0) 3),(vi ((((sx d a k).1).Cur).Seq)),(vi (((((sx d a k).1).Cur).Win).Top)),(FS (Gl (e 45) 0) 6),(vi ((((sx d a k).1).Old).N)),(FS (Gl (e 45) 0) 8),(vi ((((sx d a k).1).Old).Seq)),(vi (((((sx d a k).1).Old).Win).Top)),(FS (Gl (e 45) 0) 11),(vb (((sx d a k).1).HasOld)),(vi (((sx d a k).1).Until)),(FS (Gl (e 45) 0) 14)]))),(47,[45],[0,1,2,3,4,5,6,7,8],(fun e v _=>v=(.agg #[(vi (((sx d a k).2.1).Kind)),(vi (((sx d a k).2.1).Id)),(FS (Gl (e 45) 1) 2),(FS (Gl (e 45) 1) 3),(vi (((sx d a k).2.1).Tick)),(FS (Gl (e 45) 1) 5),(FS (Gl (e 45) 1) 6),(vi (((sx d a k).2.1).Epoch)),(vi (((sx d a k).2.1).Seq)),(FS (Gl (e 45) 1) 9),(FS (Gl (e 45) 1) 10)]))),(48,[],[0,1,2,3,4,5,6,7,8],(fun _ v _=>v=(vi ((sx d a k).2.2)))),(7,[],[],(fun _ v w=>∃ (g:Nat) (S T V W X Y Z aa ab ac ad ao ap aq au:Value),v=vp g 0∧ay.heap.size≤g∧Blk w g 38 [S,T,V,W,X,Y,Z,aa,ab,ac,ad,ao,ap,aq,au])),(8,[],[],(fun _ v w=>∃ (g:Nat) (S T V W X Y Z aa ab ac ad:Value),v=vp g 0∧ay.heap.size≤g∧Blk w g 42 [S,T,V,W,X,Y,Z,aa,ab,ac,ad])),(162,[7,45],[0,1,2,3,4,5,6,7,8,9,12,13],(fun e _ w=>∃ g:Nat,e 7=vp g 0∧ay.heap.size≤g∧Blk w g 38 [(vi (((sx d a k).1).Role)),(FS (Gl (e 45) 0) 1),(vi ((((sx d a k).1).Cur).N)),(FS (Gl (e 45) 0) 3),(vi ((((sx d a k).1).Cur).Seq)),(vi (((((sx d a k).1).Cur).Win).Top)),(FS (Gl (e 45) 0) 6),(vi ((((sx d a k).1).Old).N)),(FS (Gl (e 45) 0) 8),(vi ((((sx d a k).1).Old).Seq)),(vi (((((sx d a k).1).Old).Win).Top)),(FS (Gl (e 45) 0) 11),(vb (((sx d a k).1).HasOld)),(vi (((sx d a k).1).Until)),(FS (Gl (e 45) 0) 14)])),(163,[8,45],[0,1,2,3,4,5,6,7,8,9,10,12,13,14],(fun e _ w=>∃ g:Nat,e 8=vp g 0∧ay.heap.size≤g∧Blk w g 42 [(vi (((sx d a k).2.1).Kind)),(vi (((sx d a k).2.1).Id)),(FS (Gl (e 45) 1) 2),(FS (Gl (e 45) 1) 3),(vi (((sx d a k).2.1).Tick)),(FS (Gl (e 45) 1) 5),(FS (Gl (e 45) 1) 6),(vi (((sx d a k).2.1).Epoch)),(vi (((sx d a k).2.1).Seq)),(FS (Gl (e 45) 1) 9),(FS (Gl (e 45) 1) 10)]))]:GV) (fun _ A=>Keep ay A) [(14,fun w A=>∃ g:Nat,ay.heap.size≤g∧(∃ S T V W X Y Z aa ab ac ad ao ap aq au:Value,Blk w g 38 [S,T,V,W,X,Y,Z,aa,ab,ac,ad,ao,ap,aq,au])∧Ch (fun k=>k=g) w A∧∃ S T V W X Y Z aa ab ac ad ao ap aq au:Value,Blk A g 38 [S,T,V,W,X,Y,Z,aa,ab,ac,ad,ao,ap,aq,au]),(15,fun w A=>∃ g:Nat,ay.heap.size≤g∧(∃ S T V W X Y Z aa ab ac ad:Value,Blk w g 42 [S,T,V,W,X,Y,Z,aa,ab,ac,ad])∧Ch (fun k=>k=g) w A∧∃ S T V W X Y Z aa ab ac ad:Value,Blk A g 42 [S,T,V,W,X,Y,Z,aa,ab,ac,ad])] GU rfl (by kernel_rfl) (by kernel_rfl) ?_ (fun _ _ h=>h) (fun _ _ _ _ h _ k=>h.trans k) ⟨(fun _ _ w A h _ _ t=>by obtain ⟨g,hle,-,dh,-⟩:=t;exact h.new dh (fun k hk=>by have aJ:k=g:=hk;omega)),⟨(fun _ _ w A h _ _ t=>by obtain ⟨g,hle,-,dh,-⟩:=t;exact h.new dh (fun k hk=>by have aJ:k=g:=hk;omega)),trivial⟩⟩ ?_ ?_ ?_
    ·exact ⟨hV,hE,⟨hV,hE,⟨hV,hE,⟨hV,hE,⟨hV,hE,⟨hV,hE,⟨(fun e v w C h hk=>by obtain ⟨a8,a9,he,aA,aB,hap⟩:=h;exact ⟨a8,a9,he,gc aA hk,aB,hap⟩),hE,⟨(fun e v w C h hk=>by obtain ⟨a8,a9,bd,be,bg,bh,h⟩:=h;obtain ⟨bi,bj,bk,bl,F,G,h⟩:=h;obtain ⟨bm,bn,d9,dA,dB,dC,h⟩:=h;obtain ⟨dD,dE,dG,dH,dI,dJ,h⟩:=h;obtain ⟨he,aA,aB,bo,bp,bq,h⟩:=h;obtain ⟨br,bu,bv,bw,bz,b0,h⟩:=h;obtain ⟨b1,b2,b3,dK,dL,dM,h⟩:=h;obtain ⟨dN,dO,dP,dQ,dR,dS,h⟩:=h;obtain ⟨dU,hap,hx⟩:=h;exact ⟨a8,a9,bd,be,bg,bh,bi,bj,bk,bl,F,G,bm,bn,d9,dA,dB,dC,dD,dE,dG,dH,dI,dJ,he,gc aA hk,aB,gc bo hk,bp,gc bq hk,br,gc bu hk,bv,gc bw hk,bz,gc b0 hk,b1,gc b2 hk,b3,gc dK hk,dL,gc dM hk,dN,gc dO hk,dP,gc dQ hk,dR,gc dS hk,dU,hap,hx⟩),(fun aR aS v w hx h=>by have lW:=hx 44 (by simp);simp only [lW] at h;exact h),⟨hV,(fun aR aS v w hx h=>by have cj:=hx 45 (by simp);simp only [cj] at h;exact h),⟨hV,(fun aR aS v w hx h=>by have cj:=hx 45 (by simp);simp only [cj] at h;exact h),⟨hV,(fun aR aS v w hx h=>by have cj:=hx 45 (by simp);simp only [cj] at h;exact h),⟨hV,hE,⟨(fun e v w C h hk=>by obtain ⟨g,S,T,V,W,X,h⟩:=h;obtain ⟨Y,Z,aa,ab,ac,ad,h⟩:=h;obtain ⟨ao,ap,aq,au,he,hle,hb⟩:=h;exact ⟨g,_,_,_,_,_,_,_,_,_,_,_,_,_,_,_,he,hle,hb.kp hk⟩),hE,⟨(fun e v w C h hk=>by obtain ⟨g,S,T,V,W,X,h⟩:=h;obtain ⟨Y,Z,aa,ab,ac,ad,h⟩:=h;obtain ⟨he,hle,hb⟩:=h;exact ⟨g,_,_,_,_,_,_,_,_,_,_,_,he,hle,hb.kp hk⟩),hE,⟨(fun e v w C h hk=>by obtain ⟨g,he,hle,hb⟩:=h;exact ⟨g,he,hle,hb.kp hk⟩),(fun aR aS v w hx h=>by have lX:=hx 7 (by simp);have cj:=hx 45 (by simp);simp only [lX,cj] at h;exact h),⟨(fun e v w C h hk=>by obtain ⟨g,he,hle,hb⟩:=h;exact ⟨g,he,hle,hb.kp hk⟩),(fun aR aS v w hx h=>by have lY:=hx 8 (by simp);have cj:=hx 45 (by simp);simp only [lY,cj] at h;exact h),trivial⟩⟩⟩⟩⟩⟩⟩⟩⟩⟩⟩⟩⟩⟩⟩⟩
    ·exact ⟨⟨.inr hV,⟨.inr hV,⟨.inr hV,⟨.inr hV,⟨.inr hV,⟨.inr hV,⟨.inr (fun e v wX wY h ht=>by obtain ⟨a8,a9,he,aA,aB,hap⟩:=h;obtain ⟨gt,hlt,z1',hct,z2'⟩:=ht;obtain ⟨_,_,_,_,_,_,z1'⟩:=z1';obtain ⟨_,_,_,_,_,_,z1'⟩:=z1';obtain ⟨_,_,_,hbt⟩:=z1';obtain ⟨_,_,_,_,_,_,z2'⟩:=z2';obtain ⟨_,_,_,_,_,_,z2'⟩:=z2';obtain ⟨_,_,_,aK⟩:=z2';exact ⟨a8,a9,he,FN aA hbt (by decide) hct,aB,hap⟩),⟨.inr (fun e v wX wY h ht=>by obtain ⟨a8,a9,bd,be,bg,bh,h⟩:=h;obtain ⟨bi,bj,bk,bl,F,G,h⟩:=h;obtain ⟨bm,bn,d9,dA,dB,dC,h⟩:=h;obtain ⟨dD,dE,dG,dH,dI,dJ,h⟩:=h;obtain ⟨he,aA,aB,bo,bp,bq,h⟩:=h;obtain ⟨br,bu,bv,bw,bz,b0,h⟩:=h;obtain ⟨b1,b2,b3,dK,dL,dM,h⟩:=h;obtain ⟨dN,dO,dP,dQ,dR,dS,h⟩:=h;obtain ⟨dU,hap,hx⟩:=h;obtain ⟨gt,hlt,z1',hct,z2'⟩:=ht;obtain ⟨_,_,_,_,_,_,z1'⟩:=z1';obtain ⟨_,_,_,_,_,_,z1'⟩:=z1';obtain ⟨_,_,_,hbt⟩:=z1';obtain ⟨_,_,_,_,_,_,z2'⟩:=z2';obtain ⟨_,_,_,_,_,_,z2'⟩:=z2';obtain ⟨_,_,_,aK⟩:=z2';exact ⟨a8,a9,bd,be,bg,bh,bi,bj,bk,bl,F,G,bm,bn,d9,dA,dB,dC,dD,dE,dG,dH,dI,dJ,he,FN aA hbt (by decide) hct,aB,FN bo hbt (by decide) hct,bp,FN bq hbt (by decide) hct,br,FN bu hbt (by decide) hct,bv,FN bw hbt (by decide) hct,bz,FN b0 hbt (by decide) hct,b1,FN b2 hbt (by decide) hct,b3,FN dK hbt (by decide) hct,dL,FN dM hbt (by decide) hct,dN,FN dO hbt (by decide) hct,dP,FN dQ hbt (by decide) hct,dR,FN dS hbt (by decide) hct,dU,hap,hx⟩),⟨.inr hV,⟨.inr hV,⟨.inr hV,⟨.inr hV,⟨.inr (fun e v wX wY h ht=>by obtain ⟨g,S,T,V,W,X,h⟩:=h;obtain ⟨Y,Z,aa,ab,ac,ad,h⟩:=h;obtain ⟨ao,ap,aq,au,he,hle,hb⟩:=h;obtain ⟨gt,hlt,z1',hct,z2'⟩:=ht;obtain ⟨_,_,_,_,_,_,z1'⟩:=z1';obtain ⟨_,_,_,_,_,_,z1'⟩:=z1';obtain ⟨_,_,_,hbt⟩:=z1';obtain ⟨_,_,_,_,_,_,z2'⟩:=z2';obtain ⟨_,_,_,_,_,_,z2'⟩:=z2';obtain ⟨_,_,_,aK⟩:=z2';by_cases hg:g=gt;(· subst hg;exact ⟨g,_,_,_,_,_,_,_,_,_,_,_,_,_,_,_,he,hle,aK⟩);(· exact ⟨g,_,_,_,_,_,_,_,_,_,_,_,_,_,_,_,he,hle,hb.ch hct hg⟩)),⟨.inr (fun e v wX wY h ht=>by obtain ⟨g,S,T,V,W,X,h⟩:=h;obtain ⟨Y,Z,aa,ab,ac,ad,h⟩:=h;obtain ⟨he,hle,hb⟩:=h;obtain ⟨gt,hlt,z1',hct,z2'⟩:=ht;obtain ⟨_,_,_,_,_,_,z1'⟩:=z1';obtain ⟨_,_,_,_,_,_,z1'⟩:=z1';obtain ⟨_,_,_,hbt⟩:=z1';obtain ⟨_,_,_,_,_,_,z2'⟩:=z2';obtain ⟨_,_,_,_,_,_,z2'⟩:=z2';obtain ⟨_,_,_,aK⟩:=z2';exact ⟨g,_,_,_,_,_,_,_,_,_,_,_,he,hle,hb.ch hct (Pe hb hbt (by decide))⟩),⟨.inl rfl,⟨.inr (fun e v wX wY h ht=>by obtain ⟨g,he,hle,hb⟩:=h;obtain ⟨gt,hlt,z1',hct,z2'⟩:=ht;obtain ⟨_,_,_,_,_,_,z1'⟩:=z1';obtain ⟨_,_,_,_,_,_,z1'⟩:=z1';obtain ⟨_,_,_,hbt⟩:=z1';obtain ⟨_,_,_,_,_,_,z2'⟩:=z2';obtain ⟨_,_,_,_,_,_,z2'⟩:=z2';obtain ⟨_,_,_,aK⟩:=z2';exact ⟨g,he,hle,hb.ch hct (Pe hb hbt (by decide))⟩),trivial⟩⟩⟩⟩⟩⟩⟩⟩⟩⟩⟩⟩⟩⟩⟩⟩,⟨⟨.inr hV,⟨.inr hV,⟨.inr hV,⟨.inr hV,⟨.inr hV,⟨.inr hV,⟨.inr (fun e v wX wY h ht=>by obtain ⟨a8,a9,he,aA,aB,hap⟩:=h;obtain ⟨gt,hlt,z1',hct,z2'⟩:=ht;obtain ⟨_,_,_,_,_,_,z1'⟩:=z1';obtain ⟨_,_,_,_,_,hbt⟩:=z1';obtain ⟨_,_,_,_,_,_,z2'⟩:=z2';obtain ⟨_,_,_,_,_,aK⟩:=z2';exact ⟨a8,a9,he,FN aA hbt (by decide) hct,aB,hap⟩),⟨.inr (fun e v wX wY h ht=>by obtain ⟨a8,a9,bd,be,bg,bh,h⟩:=h;obtain ⟨bi,bj,bk,bl,F,G,h⟩:=h;obtain ⟨bm,bn,d9,dA,dB,dC,h⟩:=h;obtain ⟨dD,dE,dG,dH,dI,dJ,h⟩:=h;obtain ⟨he,aA,aB,bo,bp,bq,h⟩:=h;obtain ⟨br,bu,bv,bw,bz,b0,h⟩:=h;obtain ⟨b1,b2,b3,dK,dL,dM,h⟩:=h;obtain ⟨dN,dO,dP,dQ,dR,dS,h⟩:=h;obtain ⟨dU,hap,hx⟩:=h;obtain ⟨gt,hlt,z1',hct,z2'⟩:=ht;obtain ⟨_,_,_,_,_,_,z1'⟩:=z1';obtain ⟨_,_,_,_,_,hbt⟩:=z1';obtain ⟨_,_,_,_,_,_,z2'⟩:=z2';obtain ⟨_,_,_,_,_,aK⟩:=z2';exact ⟨a8,a9,bd,be,bg,bh,bi,bj,bk,bl,F,G,bm,bn,d9,dA,dB,dC,dD,dE,dG,dH,dI,dJ,he,FN aA hbt (by decide) hct,aB,FN bo hbt (by decide) hct,bp,FN bq hbt (by decide) hct,br,FN bu hbt (by decide) hct,bv,FN bw hbt (by decide) hct,bz,FN b0 hbt (by decide) hct,b1,FN b2 hbt (by decide) hct,b3,FN dK hbt (by decide) hct,dL,FN dM hbt (by decide) hct,dN,FN dO hbt (by decide) hct,dP,FN dQ hbt (by decide) hct,dR,FN dS hbt (by decide) hct,dU,hap,hx⟩),⟨.inr hV,⟨.inr hV,⟨.inr hV,⟨.inr hV,⟨.inr (fun e v wX wY h ht=>by obtain ⟨g,S,T,V,W,X,h⟩:=h;obtain ⟨Y,Z,aa,ab,ac,ad,h⟩:=h;obtain ⟨ao,ap,aq,au,he,hle,hb⟩:=h;obtain ⟨gt,hlt,z1',hct,z2'⟩:=ht;obtain ⟨_,_,_,_,_,_,z1'⟩:=z1';obtain ⟨_,_,_,_,_,hbt⟩:=z1';obtain ⟨_,_,_,_,_,_,z2'⟩:=z2';obtain ⟨_,_,_,_,_,aK⟩:=z2';exact ⟨g,_,_,_,_,_,_,_,_,_,_,_,_,_,_,_,he,hle,hb.ch hct (Pe hb hbt (by decide))⟩),⟨.inr (fun e v wX wY h ht=>by obtain ⟨g,S,T,V,W,X,h⟩:=h;obtain ⟨Y,Z,aa,ab,ac,ad,h⟩:=h;obtain ⟨he,hle,hb⟩:=h;obtain ⟨gt,hlt,z1',hct,z2'⟩:=ht;obtain ⟨_,_,_,_,_,_,z1'⟩:=z1';obtain ⟨_,_,_,_,_,hbt⟩:=z1';obtain ⟨_,_,_,_,_,_,z2'⟩:=z2';obtain ⟨_,_,_,_,_,aK⟩:=z2';by_cases hg:g=gt;(· subst hg;exact ⟨g,_,_,_,_,_,_,_,_,_,_,_,he,hle,aK⟩);(· exact ⟨g,_,_,_,_,_,_,_,_,_,_,_,he,hle,hb.ch hct hg⟩)),⟨.inr (fun e v wX wY h ht=>by obtain ⟨g,he,hle,hb⟩:=h;obtain ⟨gt,hlt,z1',hct,z2'⟩:=ht;obtain ⟨_,_,_,_,_,_,z1'⟩:=z1';obtain ⟨_,_,_,_,_,hbt⟩:=z1';obtain ⟨_,_,_,_,_,_,z2'⟩:=z2';obtain ⟨_,_,_,_,_,aK⟩:=z2';exact ⟨g,he,hle,hb.ch hct (Pe hb hbt (by decide))⟩),⟨.inl rfl,trivial⟩⟩⟩⟩⟩⟩⟩⟩⟩⟩⟩⟩⟩⟩⟩⟩,trivial⟩⟩
    ·refine ⟨?_,⟨?_,⟨?_,⟨?_,⟨?_,⟨?_,⟨?_,⟨?_,⟨?_,⟨?_,⟨?_,⟨?_,⟨?_,⟨?_,⟨?_,⟨?_,trivial⟩⟩⟩⟩⟩⟩⟩⟩⟩⟩⟩⟩⟩⟩⟩⟩
     ·intro _ ah lZ _
      iterate 16 intro _
      refine sw ?_
      have ma:=(bc.kp lZ)
      refine lN [(vi a.Role),(vs ab3_1x (a.Sn).length cb3_1x),(vi a.Cur.N),(vs ab3_3x (a.Cur.Key).length cb3_3x),(vi a.Cur.Seq),(vi a.Cur.Win.Top),(vs ab3_6x (a.Cur.Win.Bits).length cb3_6x),(vi a.Old.N),(vs ab3_8x (a.Old.Key).length cb3_8x),(vi a.Old.Seq),(vi a.Old.Win.Top),(vs ab3_11x (a.Old.Win.Bits).length cb3_11x),(vb a.HasOld),(vi a.Until),(vs ab3_14x (a.Next).length cb3_14x)] wN wb uC ma ?_
      exact f1
     ·intro _ ah wB _
      iterate 16 intro _
      refine sw<|mw (vi ((k:Nat):Int)) ?_
      exact f1
     ·intro _ ah wC _
      rintro _ _ rfl;iterate 14 intro _
      refine sw<|IU ((k:Nat):Int) wN rfl rfl (by kernel_rfl) ?_
      exact f1
     ·intro _ ah wD _
      iterate 16 intro _
      refine sw<|mw (vs ax d.length a6) ?_
      exact f1
     ·intro _ ah mb _
      have mc:=fs.extk mb
      rintro _ _ _ _ rfl _ _ _ _ _ _ _ _ _ _ _ _
      refine sw<|cl wN (Vd ah _ d (FV (d7.from0 mc) (by omega)) 3 (by omega)) ?_
      rintro _ b4 ⟨md,rfl⟩
      have wE:=PO d 3
      exact FY md rfl
     ·intro _ ah wF _
      rintro _ _ _ _ rfl _ rfl
      have wG:=PO d 3
      rintro _ _ _ _ _ _ _ _ _ _ _
      refine sw<|IU (Gt d 3) wN rfl rfl (by kernel_rfl) ?_
      exact f1
     ·intro _ ah me _
      rintro _ _ rfl _ rfl _ rfl _ rfl
      have wH:=PO d 3
      rintro _ rfl _ _ _ _ _ _ _ _ _ _
      refine sw<|ltB ([(by8 ((k:Nat):Int)),(by8 (Gt d 3))]:List UInt8) wN tD ?_
      intro wI wJ b4 mf mg
      exact FY mf ⟨_,_,rfl,(tA mg me.size),(by simp),⟨trivial,trivial⟩⟩
     ·intro _ ah aG _
      rintro _ rfl _ rfl _ rfl _ rfl _ rfl
      have wK:=PO d 3
      rintro _ rfl _ ⟨wL,wM,rfl,b5,mh,-⟩ _ _ _ _ _ _ _ _ _
      refine sw ?_
      have mi:=(gc hu aG)
      have mj:=(gc h2 aG)
      have ml:=(gc h4 aG)
      have mm:=(gc h6 aG)
      have mn:=(gc hw aG)
      have mo:=(gc h0 aG)
      refine cl wN (PL ah _ a (KI (Rd.of_own mi) hv (Rd.of_own mj) h3 (Rd.of_own ml) h5 (Rd.of_own mm) h7 (Rd.of_own mn) hy (Rd.of_own mo) h1) 4 _ ([(by8 ((k:Nat):Int)),(by8 (Gt d 3))]:List UInt8) (FV (Rd.of_own b5) mh)) ?_
      rintro _ b4 z'
      obtain ⟨mp,z1'⟩:=z'
      obtain ⟨wO,wP,wQ,wR,wT,wU,z1'⟩:=z1'
      obtain ⟨wV,wW,wZ,xa,xb,xc,z1'⟩:=z1'
      obtain ⟨xd,xe,xf,xg,xh,xi,z1'⟩:=z1'
      obtain ⟨xj,xk,xl,xm,xn,xo,z1'⟩:=z1'
      obtain ⟨rfl,hF,mq,hG,mr,hH,z1'⟩:=z1'
      obtain ⟨mt,hI,mu,hJ,mx,hK,z1'⟩:=z1'
      obtain ⟨my,hL,m0,hM,m1,hN,z1'⟩:=z1'
      obtain ⟨m2,hO,m3,hP,m4,hQ,z1'⟩:=z1'
      obtain ⟨m5,m6⟩:=z1'
      exact FY mp ⟨_,_,_,_,_,_,_,_,_,_,_,_,_,_,_,_,_,_,_,_,_,_,_,_,rfl,(tA hF aG.size),mq,(tA hG aG.size),mr,(tA hH aG.size),mt,(tA hI aG.size),mu,(tA hJ aG.size),mx,(tA hK aG.size),my,(tA hL aG.size),m0,(tA hM aG.size),m1,(tA hN aG.size),m2,(tA hO aG.size),m3,(tA hP aG.size),m4,(tA hQ aG.size),m5,m6,⟨(Ap.lt b5 hF (Nat.le_refl _)),(Ap.lt b5 hG (Nat.le_refl _)),(Ap.lt b5 hH (Nat.le_refl _)),(Ap.lt b5 hI (Nat.le_refl _)),(Ap.lt b5 hJ (Nat.le_refl _)),(Ap.lt b5 hK (Nat.le_refl _)),(Ap.lt b5 hL (Nat.le_refl _)),(Ap.lt b5 hM (Nat.le_refl _)),(Ap.lt b5 hN (Nat.le_refl _)),(Ap.lt b5 hO (Nat.le_refl _)),(Ap.lt b5 hP (Nat.le_refl _)),(Ap.lt b5 hQ (Nat.le_refl _))⟩⟩
     ·intro _ ah xp _
      rintro _ rfl _ rfl _ rfl _ rfl _ rfl
      have xq:=PO d 3
      rintro _ rfl _ ⟨xr,xs,rfl,xt,xu,-⟩ _ z' _ _ _ _ _ _ _ _
      obtain ⟨m7,m8,m9,mA,mB,mC,z'⟩:=z'
      obtain ⟨mD,mE,mF,mG,mH,mI,z'⟩:=z'
      obtain ⟨mJ,mK,mL,mM,mN,mO,z'⟩:=z'
      obtain ⟨mP,mQ,mR,mS,mT,mU,z'⟩:=z'
      obtain ⟨rfl,_⟩:=z'
      refine sw<|mw (.tuple #[(va (GH ((sx d a k).1) m7 m8 m9 mA mB mC mD mE mF mG mH mI)),(va (HH ((sx d a k).2.1) mJ mK mL mM mN mO mP mQ mR mS mT mU)),(vi ((sx d a k).2.2))]) ?_
      exact f1
     ·intro _ ah xv _
      rintro _ rfl _ rfl _ rfl _ rfl _ rfl
      have xw:=PO d 3
      rintro _ rfl _ ⟨xx,xy,rfl,xz,x0,-⟩ _ z' _ rfl _ _ _ _ _ _ _
      obtain ⟨mV,mW,mX,mY,mZ,na,z'⟩:=z'
      obtain ⟨nb,nc,nd,nf,ng,nh,z'⟩:=z'
      obtain ⟨x1,x2,x3,x4,x5,x6,z'⟩:=z'
      obtain ⟨x7,x8,x9,xA,xB,xC,z'⟩:=z'
      obtain ⟨rfl,_⟩:=z'
      refine sw<|pu (va (GH ((sx d a k).1) mV mW mX mY mZ na nb nc nd nf ng nh)) wN ?_
      exact f1
     ·intro _ ah xD _
      rintro _ rfl _ rfl _ rfl _ rfl _ rfl
      have xE:=PO d 3
      rintro _ rfl _ ⟨xF,xG,rfl,xH,xI,-⟩ _ z' _ rfl _ _ _ _ _ _ _
      obtain ⟨xJ,xK,xL,xM,xN,xO,z'⟩:=z'
      obtain ⟨xP,xQ,xR,xS,xT,xU,z'⟩:=z'
      obtain ⟨ni,nj,nk,nm,np,nq,z'⟩:=z'
      obtain ⟨ns,nt,nu,nv,nw,ny,z'⟩:=z'
      obtain ⟨rfl,_⟩:=z'
      refine sw<|pu (va (HH ((sx d a k).2.1) ni nj nk nm np nq ns nt nu nv nw ny)) wN ?_
      exact f1
     ·intro _ ah xV _
      rintro _ rfl _ rfl _ rfl _ rfl _ rfl
      have xW:=PO d 3
      rintro _ rfl _ ⟨xX,xY,rfl,xZ,ya,-⟩ _ z' _ rfl _ _ _ _ _ _ _
      obtain ⟨yb,yc,yd,ye,yf,yg,z'⟩:=z'
      obtain ⟨yh,yi,yj,yk,yl,ym,z'⟩:=z'
      obtain ⟨yn,yo,yp,yq,yr,ys,z'⟩:=z'
      obtain ⟨yt,yu,yv,yw,yx,yy,z'⟩:=z'
      obtain ⟨rfl,_⟩:=z'
      refine sw<|pu (vi ((sx d a k).2.2)) wN ?_
      exact f1
     ·intro _ ah nz _
      iterate 16 intro _
      refine sw<|al Mf wN HR ?_
      intro yz b4 n0 y0 n5 n6
      exact FY n5 ⟨_,_,_,_,_,_,_,_,_,_,_,_,_,_,_,_,rfl,(nT nz.size n0),n6⟩
     ·intro _ ah n7 _
      iterate 16 intro _
      refine sw<|al JR wN JG ?_
      intro y3 b4 n8 y4 n9 nA
      exact FY n9 ⟨_,_,_,_,_,_,_,_,_,_,_,_,rfl,(nT n7.size n8),nA⟩
     ·intro _ ah y5 _
      rintro _ rfl _ rfl _ rfl _ rfl _ rfl
      have y6:=PO d 3
      rintro _ rfl _ ⟨y7,y8,rfl,y9,yA,-⟩ _ z' _ rfl _ rfl _ _ _ nP
      obtain ⟨nB,nC,nD,nE,nF,nG,z'⟩:=z'
      obtain ⟨nH,nI,nJ,nK,nM,nO,z'⟩:=z'
      obtain ⟨yB,yC,yD,yE,yF,yG,z'⟩:=z'
      obtain ⟨yH,yI,yJ,yK,yL,yM,z'⟩:=z'
      obtain ⟨rfl,_⟩:=z'
      obtain ⟨yN,yO,rfl,hR,hS⟩:=KQ nP
      rintro _ nQ
      obtain ⟨yP,yQ,rfl,yR,yS⟩:=Ph nQ
      rintro _ _
      refine sw<|sv (GH ((sx d a k).1) nB nC nD nE nF nG nH nI nJ nK nM nO) wN uC hS ?_
      intro b4 nR hT yT
      exact KW (by decide) ⟨_,hR,⟨_,_,_,_,_,_,_,_,_,_,_,_,_,_,_,hS⟩,nR,⟨_,_,_,_,_,_,_,_,_,_,_,_,_,_,_,hT⟩⟩ ⟨_,rfl,hR,hT⟩
     ·intro _ ah yU _
      rintro _ rfl _ rfl _ rfl _ rfl _ rfl
      have yV:=PO d 3
      rintro _ rfl _ ⟨yW,yX,rfl,yY,yZ,-⟩ _ z' _ rfl _ rfl _ rfl _ _ oh
      obtain ⟨za,zb,zc,zd,ze,zf,z'⟩:=z'
      obtain ⟨zg,zh,zi,zj,zk,zl,z'⟩:=z'
      obtain ⟨nS,nU,nV,nW,nX,nY,z'⟩:=z'
      obtain ⟨nZ,oa,oc,od,oe,og,z'⟩:=z'
      obtain ⟨rfl,_⟩:=z'
      obtain ⟨zm,zn,rfl,zo,zp⟩:=KQ oh
      rintro _ oi
      obtain ⟨zq,zr,rfl,hU,hW⟩:=Ph oi
      rintro _ ⟨oj,ol,-,zs⟩
      have hz:=Kx ol
      subst oj
      intro _
      refine sw<|sv (HH ((sx d a k).2.1) nS nU nV nW nX nY nZ oa oc od oe og) wN FD hW ?_
      intro b4 om hX zt
      exact KW (by decide) ⟨_,hU,⟨_,_,_,_,_,_,_,_,_,_,_,hW⟩,om,⟨_,_,_,_,_,_,_,_,_,_,_,hX⟩⟩ ⟨_,rfl,hU,hX⟩
    ·intro _ ah bF
     rintro _ rfl _ rfl _ rfl _ rfl _ rfl
     have zu:=PO d 3
     rintro _ rfl _ ⟨zv,zw,rfl,zx,zy,-⟩ _ z' _ rfl _ rfl _ rfl _ rfl _ oy
     obtain ⟨ez,e0,e1,e2,e3,e4,z'⟩:=z'
     obtain ⟨e5,e6,e7,e8,e9,eA,z'⟩:=z'
     obtain ⟨f4,f5,f6,f7,f8,f9,z'⟩:=z'
     obtain ⟨fA,fB,fC,fD,fE,fF,z'⟩:=z'
     obtain ⟨rfl,fG,hY,fH,hZ,fI,z'⟩:=z'
     obtain ⟨ia,fJ,ib,fK,ic,fL,z'⟩:=z'
     obtain ⟨ie,ig,oo,ih,oq,ii,z'⟩:=z'
     obtain ⟨os,ij,ot,ik,ou,il,z'⟩:=z'
     obtain ⟨ox,aT,zz⟩:=z'
     obtain ⟨z0,z1,rfl,zA,zB⟩:=KQ oy
     rintro _ oz
     obtain ⟨o0,zC,rfl,o1,zD⟩:=Ph oz
     rintro _ ⟨o2,o3,-,im⟩
     have hz:=Kx o3
     subst o2
     rintro _ ⟨o4,o5,-,io⟩
     have hz:=Kx o5
     subst o4
     refine sw<|aw (vi ((sx d a k).2.2)) ?_
     refine n4<|mw (vi ((sx d a k).2.2)) ?_
     refine pu (vb (!(decide ((sx d a k).2.2=0)))) wN ?_
     refine mw (vb (!(decide ((sx d a k).2.2=0)))) ?_
     rcases bf (decide ((sx d a k).2.2=0)) with ck|ck
     ·have zE:=dF ck
      exact Bool.noConfusion ((show (decide ((sx d a k).2.2=0))=true by simp only [sx,bE,Jh (k:=k) ak (by omega),MM (k:=k+1) ak (by omega),Om,decide_true]).symm.trans ck)
     have zF:=dT ck
     refine pu (vp o0 8) (wS (cA not ck)) ?_
     refine ld (vi (((sx d a k).2.1).Seq)) (wS (cA not ck)) tE io ?_
     refine mv (vi ((k:Nat):Int)) (wS (cA not ck)) ?_
     refine pu (vb (!(decide (((sx d a k).2.1).Seq=((k:Nat):Int))))) (wS (cA not ck)) ?_
     refine pf (vb (!(decide (((sx d a k).2.1).Seq=((k:Nat):Int))))) wN (cA not ck) ?_
     refine mw (vb (!(decide (((sx d a k).2.1).Seq=((k:Nat):Int))))) ?_
     rcases bf (decide (((sx d a k).2.1).Seq=((k:Nat):Int))) with cu|cu
     ·have zG:=dF cu
      exact Bool.noConfusion ((show (decide (((sx d a k).2.1).Seq=((k:Nat):Int)))=true by simp only [sx,bE,Jh (k:=k) ak (by omega),MM (k:=k+1) ak (by omega),Om,decide_true]).symm.trans cu)
     have zH:=dT cu
     refine lN (GH ((sx d a k).1) ez e0 e1 e2 e3 e4 e5 e6 e7 e8 e9 eA) (wS (cA not cu)) wb uC im ?_
     refine cl (wS (cA not cu)) (Nh ah _ ((sx d a k).1) (KI (Rd.of_own fG) hY (Rd.of_own fH) hZ (Rd.of_own fI) ia (Rd.of_own fJ) ib (Rd.of_own fK) ic (Rd.of_own fL) ie)) ?_
     rintro _ b4 ⟨aN,rfl⟩
     refine pu (vb (!(Gb ((sx d a k).1)))) (wS (cA not cu)) ?_
     refine pf (vb (!(Gb ((sx d a k).1)))) wN (cA not cu) ?_
     refine n2 ?_
     rcases bf (Gb ((sx d a k).1)) with eB|eB
     ·exact Bool.noConfusion ((show (Gb ((sx d a k).1))=true by simp only [sx,bE,Jh (k:=k) ak (by omega),MM (k:=k+1) ak (by omega),Om,decide_true]).symm.trans eB)
     have zI:=JL eB
     refine cf (cA not eB)<|y1 ?_
     have o6:=(im.kp aN)
     refine lN (GH ((sx d a k).1) ez e0 e1 e2 e3 e4 e5 e6 e7 e8 e9 eA) wN wb uC o6 ?_
     have di:=((bc.kp bF).kp aN)
     refine sv (GH ((sx d a k).1) ez e0 e1 e2 e3 e4 e5 e6 e7 e8 e9 eA) wN uC di ?_
     intro am aV o7 zJ
     have o8:=((fs.extk bF).extk aN).ext aV (fun k hk=>by subst hk;exact nT (z2 aO a0) cr)
     refine uD<|rg<|uG ?_
     refine mw (vs F (l).length G) ?_
     have o9:=((io.kp aN).ch aV (Ne.symm (nN (nL a7 (nT (z6 aj I H M D R) o1)))))
     refine lN (HH ((sx d a k).2.1) f4 f5 f6 f7 f8 f9 fA fB fC fD fE fF) wN Gg FD o9 ?_
     refine JS [(vi (((sx d a k).2.1).Kind)),(vi (((sx d a k).2.1).Id)),(vs f4 (((sx d a k).2.1).Cn).length f5),(vs f6 (((sx d a k).2.1).Sn).length f7),(vi (((sx d a k).2.1).Tick)),(vs f8 (((sx d a k).2.1).Cookie).length f9),(vs fA (((sx d a k).2.1).Proof).length fB),(vi (((sx d a k).2.1).Epoch)),(vi (((sx d a k).2.1).Seq)),(vs fC (((sx d a k).2.1).Body).length fD),(vs fE (((sx d a k).2.1).Tag).length fF)] wN rfl rfl Kl (m:=1) rfl (by simp only [maxLen];omega) (fun w=>by kernel_rfl) ?_
     intro zK O aW ip
     obtain ⟨zL,zM,rfl⟩:=Hg ip
     have oA:=(OLv.kp (OLv.ch (OLv.kp (OLv.kp ft bF) aN) aV (fun g b6 b7 hk=>by have aJ:=nL a7 (z4 aj I H M);omega)) aW)
     have dw:=fun (E sz n:Nat) (v:Value) (K:List Value) (o:World.ownsRow ah ay.heap.size E sz v n K) (ai:World.ownsRow ah ay.heap.size E sz v n K)=>(gc (tC (gc o aN) aV (ne1 ai (nL a7 (z6 aj I H M D R)))) aW)
     have oB:=(dw _ _ _ _ _ il il)
     have oC:=(dw _ _ _ _ _ ik ik)
     have oD:=(dw _ _ _ _ _ ij ij)
     have oE:=(dw _ _ _ _ _ ii ii)
     have oF:=(dw _ _ _ _ _ ih ih)
     have oG:=(dw _ _ _ _ _ ig ig)
     refine Th (L:=SC) (xs:=l) (el:=((sx d a k).2.1)) (l:=[(f4,f5),(f6,f7),(f8,f9),(fA,fB),(fC,fD),(fE,fF)]) wN Kl oA (Rd.of_own ip) ⟨⟨oG,oo⟩,⟨⟨oF,oq⟩,⟨⟨oE,os⟩,⟨⟨oD,ot⟩,⟨⟨oC,ou⟩,⟨⟨oB,ox⟩,trivial⟩⟩⟩⟩⟩⟩ ⟨⟨(aT.2.2.2.2.2.2.1.1),⟨(aT.2.2.2.2.2.2.1.2.1),⟨(aT.2.2.2.2.2.2.1.2.2.1),⟨(aT.2.2.2.2.2.2.1.2.2.2.1),⟨(aT.2.2.2.2.2.2.1.2.2.2.2.1),trivial⟩⟩⟩⟩⟩,⟨⟨(aT.2.2.2.2.2.2.2.1.1),⟨(aT.2.2.2.2.2.2.2.1.2.1),⟨(aT.2.2.2.2.2.2.2.1.2.2.1),⟨(aT.2.2.2.2.2.2.2.1.2.2.2.1),trivial⟩⟩⟩⟩,⟨⟨(aT.2.2.2.2.2.2.2.2.1.1),⟨(aT.2.2.2.2.2.2.2.2.1.2.1),⟨(aT.2.2.2.2.2.2.2.2.1.2.2.1),trivial⟩⟩⟩,⟨⟨(aT.2.2.2.2.2.2.2.2.2.1.1),⟨(aT.2.2.2.2.2.2.2.2.2.1.2.1),trivial⟩⟩,⟨⟨(aT.2.2.2.2.2.2.2.2.2.2.1.1),trivial⟩,⟨trivial,trivial⟩⟩⟩⟩⟩⟩ (Nat.le_refl _) (z2 D R) (by first|omega|(simp only [List.length_take,List.length_append,List.length_cons,List.length_nil];omega)|(refine nT (Nat.succ_le_succ (List.length_filter_le _ _)) ?_;simp only [List.length_take];omega)) (z6 D R bF aN aV aW) ?_
     intro eC eD az cc fM
     have oH:=(o8.extk aW).ext cc (fun k hk=>nT (z7 aO a0 af aj I H M) (uI cb k hk).1)
     obtain ⟨zN,zO⟩:=OLv.ow fM
     refine aw (vs eC (l++[((sx d a k).2.1)]).length eD) ?_
     refine uD<|uB<|rg<|uG ?_
     refine mw (vi ((k:Nat):Int)) ?_
     refine ar (((k:Nat):Int)+1) wN ?_
     refine aw (vi (((k:Nat):Int)+1)) ?_
     refine uD ?_
     have iq:((l++[((sx d a k).2.1)]):List (PFrame))=(l++[((sx d a k).2.1)]):=by rfl
     have dx:=fun (E sz n:Nat) (v:Value) (K:List Value) (o:World.ownsRow ah ay.heap.size E sz v n K) (ai:World.ownsRow ah ay.heap.size E sz v n K)=>(tC (gc (tC (gc o aN) aV (ne1 ai (nL a7 (z6 aj I H M D R)))) aW) cc (fun g hg hlt hk=>by have b6:=(uI ai g hg).1;have b7:=(uI cb g hk).2;have aJ:=(Nat.le_refl ay.heap.size);omega))
     have oI:=(dx _ _ _ _ _ fG fG)
     have ir:(((sx d a k).1).Sn:List UInt8)=((sx d a k).1).Sn:=by rfl
     have oJ:=(dx _ _ _ _ _ fK fK)
     have it:(((((sx d a k).1).Old).Win).Bits:List Int)=((sx d a k).1).Old.Win.Bits:=by rfl
     have oK:=(dx _ _ _ _ _ fL fL)
     have iu:(((sx d a k).1).Next:List UInt8)=((sx d a k).1).Next:=by rfl
     have oL:=(dx _ _ _ _ _ fH fH)
     have iv:((((sx d a k).1).Cur).Key:List UInt8)=((sx d a k).1).Cur.Key:=by rfl
     have oM:=(dx _ _ _ _ _ fI fI)
     have iw:(((((sx d a k).1).Cur).Win).Bits:List Int)=((sx d a k).1).Cur.Win.Bits:=by rfl
     have oN:=(dx _ _ _ _ _ fJ fJ)
     have iy:((((sx d a k).1).Old).Key:List UInt8)=((sx d a k).1).Old.Key:=by rfl
     have oO:=(tC (gc (FN (gc (gc fu bF) aN) di (by decide) aV) aW) cc (fun g hg hlt hk=>Ii fu cb (by decide) g hg hk))
     have fN:(q.Sn:List UInt8)=q.Sn:=by rfl
     have iz:(q.Sn).length=(q.Sn).length:=by rw [← fN];try (first|rfl|simp only [List.length_set]|simp)
     have oP:=(tC (gc (FN (gc (gc fv bF) aN) di (by decide) aV) aW) cc (fun g hg hlt hk=>Ii fv cb (by decide) g hg hk))
     have fO:(q.Old.Win.Bits:List Int)=q.Old.Win.Bits:=by rfl
     have i0:(q.Old.Win.Bits).length=(q.Old.Win.Bits).length:=by rw [← fO];try (first|rfl|simp only [List.length_set]|simp)
     have oQ:=(tC (gc (FN (gc (gc fw bF) aN) di (by decide) aV) aW) cc (fun g hg hlt hk=>Ii fw cb (by decide) g hg hk))
     have fP:(q.Next:List UInt8)=q.Next:=by rfl
     have i1:(q.Next).length=(q.Next).length:=by rw [← fP];try (first|rfl|simp only [List.length_set]|simp)
     have oR:=(tC (gc (FN (gc (gc fy bF) aN) di (by decide) aV) aW) cc (fun g hg hlt hk=>Ii fy cb (by decide) g hg hk))
     have fQ:(q.Cur.Key:List UInt8)=q.Cur.Key:=by rfl
     have i2:(q.Cur.Key).length=(q.Cur.Key).length:=by rw [← fQ];try (first|rfl|simp only [List.length_set]|simp)
     have oS:=(tC (gc (FN (gc (gc fz bF) aN) di (by decide) aV) aW) cc (fun g hg hlt hk=>Ii fz cb (by decide) g hg hk))
     have fR:(q.Cur.Win.Bits:List Int)=q.Cur.Win.Bits:=by rfl
     have i3:(q.Cur.Win.Bits).length=(q.Cur.Win.Bits).length:=by rw [← fR];try (first|rfl|simp only [List.length_set]|simp)
     have oT:=(tC (gc (FN (gc (gc f0 bF) aN) di (by decide) aV) aW) cc (fun g hg hlt hk=>Ii f0 cb (by decide) g hg hk))
     have fS:(q.Old.Key:List UInt8)=q.Old.Key:=by rfl
     have i4:(q.Old.Key).length=(q.Old.Key).length:=by rw [← fS];try (first|rfl|simp only [List.length_set]|simp)
     have oU:=((o7.kp aW).ch cc (fun h=>by have:=(uI cb _ h).1;have:=nL a7 (z4 aj I H M);omega))
     have oV:=(((((cd.kp bF).kp aN).ch aV (Ne.symm (nN (nL a7 (an))))).kp aW).ch cc (fun h=>by have:=(uI cb _ h).1;have:=nL aI (z3 I H M);omega))
     refine FX (w0:=ay) [(0,(vs ax d.length a6)),(3,(vp aP 0)),(4,(vp aQ 0)),(5,(.slice eC ((l++[((sx d a k).2.1)])).length eD)),(6,(vi (((k+1):Nat):Int)))] ?_ ?_ ?_
     · exact ⟨rfl,rfl,rfl,(cA (fun l:List (PFrame)=>Value.slice eC l.length eD) iq),(cA (Value.int .i64) (show ((((k:Nat):Int)+1):Int)=(((k+1):Nat):Int) by omega)),trivial⟩
     · have dy:=z8 a0 af aj I H M D R
       exact fun u=>⟨(k+1),((sx d a k).1),c,q,(l++[((sx d a k).2.1)]),u,eC,eD,ez,e0,e7,e8,e9,eA,e1,e2,e3,e4,e5,e6,ab4_1x,cb4_1x,ab4_11x,cb4_11x,ab4_14x,cb4_14x,ab4_3x,cb4_3x,ab4_6x,cb4_6x,ab4_8x,cb4_8x,rfl,oH,(((((((Ch.refl (fun k=>aM.heap.size≤k) dv).ext R (fun k hk=>hk)).extk bF).extk aN).ext aV (fun k hk=>by subst hk;exact cr)).extk aW).ext cc (fun k hk=>nT (z5 af aj I H M) (uI cb k hk).1)),(by omega),(by first|exact ak|exact ex),(by first|(simp only [sx,bE,Jh (k:=k) ak (by omega)];done)|exact Ue ex),(by first|rfl|(simp only [sx,bE,cs,Jh (k:=k) ak (by omega)];exact (OU _ _ _).symm)),(iq ▸ ⟨(OLv.now fM),(OLv.small fM)⟩),(ir ▸ ⟨(tA oI dy),hY⟩),(it ▸ ⟨(tA oJ dy),ic⟩),(iu ▸ ⟨(tA oK dy),ie⟩),(iv ▸ ⟨(tA oL dy),hZ⟩),(iw ▸ ⟨(tA oM dy),ia⟩),(iy ▸ ⟨(tA oN dy),ib⟩),⟨(by rw [← iz,← fN];exact oO),(by rw [← iz];first|exact h8|(simp only [List.length_append,List.length_take,List.length_replicate];omega))⟩,⟨(by rw [← i0,← fO];exact oP),(by rw [← i0];first|exact h9|(simp only [List.length_append,List.length_take,List.length_replicate];omega))⟩,⟨(by rw [← i1,← fP];exact oQ),(by rw [← i1];first|exact hA|(simp only [List.length_append,List.length_take,List.length_replicate];omega))⟩,⟨(by rw [← i2,← fQ];exact oR),(by rw [← i2];first|exact hB|(simp only [List.length_append,List.length_take,List.length_replicate];omega))⟩,⟨(by rw [← i3,← fR];exact oS),(by rw [← i3];first|exact hC|(simp only [List.length_append,List.length_take,List.length_replicate];omega))⟩,⟨(by rw [← i4,← fS];exact oT),(by rw [← i4];first|exact hD|(simp only [List.length_append,List.length_take,List.length_replicate];omega))⟩,(by have hb:=oU;first|exact hb|(rw [ir,it,iu,iv,iw,iy] at hb;exact hb)),(by have hb:=oV;first|exact hb|(rw [fN,fO,fP,fQ,fR,fS] at hb;exact hb))⟩
     · show (10 - (((k+1):Nat):Int)).toNat < (10 - ((k:Nat):Int)).toNat;omega
   have zP:=dF d8
   refine cf d8<|Gn<|uA ?_
   obtain rfl:k=5:=by omega
   refine uA<|wr<|rg<|sr<|JS [(vb false),(vb false),(vb false),(vb false),(vb false)] wN rfl rfl IA (m:=5) rfl (by simp only [maxLen];omega) (fun w=>by kernel_rfl) ?_
   intro zQ ah av i5
   obtain ⟨P,Q,rfl⟩:=Hg i5
   have oW:=fs.extk av
   have ae:ah.ownsRow ay.heap.size 4 1 (.slice P ([false,false,false,false,false]:List PBl).length Q) ([false,false,false,false,false]:List PBl).length (([false,false,false,false,false]:List PBl).flatMap MY):=i5
   refine aw (vs P ([false,false,false,false,false]:List PBl).length Q) ?_
   refine n4<|aw (vi 0) ?_
   refine uD<|rg<|uJ ?_
   have oX:=(OLv.kp ft av)
   have i6:(l:List (PFrame))=l:=by rfl
   have fT:(l).length=(l).length:=by rw [← i6];try (first|rfl|simp only [List.length_set]|simp)
   have oY:=(gc hu av)
   have fU:(a.Sn:List UInt8)=a.Sn:=by rfl
   have i7:(a.Sn).length=(a.Sn).length:=by rw [← fU];try (first|rfl|simp only [List.length_set]|simp)
   have oZ:=(gc hw av)
   have fV:(a.Old.Win.Bits:List Int)=a.Old.Win.Bits:=by rfl
   have i8:(a.Old.Win.Bits).length=(a.Old.Win.Bits).length:=by rw [← fV];try (first|rfl|simp only [List.length_set]|simp)
   have pa:=(gc h0 av)
   have fW:(a.Next:List UInt8)=a.Next:=by rfl
   have i9:(a.Next).length=(a.Next).length:=by rw [← fW];try (first|rfl|simp only [List.length_set]|simp)
   have pb:=(gc h2 av)
   have fX:(a.Cur.Key:List UInt8)=a.Cur.Key:=by rfl
   have iA:(a.Cur.Key).length=(a.Cur.Key).length:=by rw [← fX];try (first|rfl|simp only [List.length_set]|simp)
   have pc:=(gc h4 av)
   have fY:(a.Cur.Win.Bits:List Int)=a.Cur.Win.Bits:=by rfl
   have iB:(a.Cur.Win.Bits).length=(a.Cur.Win.Bits).length:=by rw [← fY];try (first|rfl|simp only [List.length_set]|simp)
   have pd:=(gc h6 av)
   have fZ:(a.Old.Key:List UInt8)=a.Old.Key:=by rfl
   have iC:(a.Old.Key).length=(a.Old.Key).length:=by rw [← fZ];try (first|rfl|simp only [List.length_set]|simp)
   have pe:=(gc fu av)
   have ga:(q.Sn:List UInt8)=q.Sn:=by rfl
   have iD:(q.Sn).length=(q.Sn).length:=by rw [← ga];try (first|rfl|simp only [List.length_set]|simp)
   have pg:=(gc fv av)
   have gb:(q.Old.Win.Bits:List Int)=q.Old.Win.Bits:=by rfl
   have iE:(q.Old.Win.Bits).length=(q.Old.Win.Bits).length:=by rw [← gb];try (first|rfl|simp only [List.length_set]|simp)
   have ph:=(gc fw av)
   have gd:(q.Next:List UInt8)=q.Next:=by rfl
   have iF:(q.Next).length=(q.Next).length:=by rw [← gd];try (first|rfl|simp only [List.length_set]|simp)
   have pi:=(gc fy av)
   have ge:(q.Cur.Key:List UInt8)=q.Cur.Key:=by rfl
   have iG:(q.Cur.Key).length=(q.Cur.Key).length:=by rw [← ge];try (first|rfl|simp only [List.length_set]|simp)
   have pj:=(gc fz av)
   have gf:(q.Cur.Win.Bits:List Int)=q.Cur.Win.Bits:=by rfl
   have iH:(q.Cur.Win.Bits).length=(q.Cur.Win.Bits).length:=by rw [← gf];try (first|rfl|simp only [List.length_set]|simp)
   have pl:=(gc f0 av)
   have gg:(q.Old.Key:List UInt8)=q.Old.Key:=by rfl
   have iI:(q.Old.Key).length=(q.Old.Key).length:=by rw [← gg];try (first|rfl|simp only [List.length_set]|simp)
   have pm:([false,false,false,false,false]:List PBl)=[false,false,false,false,false]:=by rfl
   have pn:=(bc.kp av)
   have po:=(cd.kp av)
   refine Ge [(0,(vs ax d.length a6)),(3,(vp aP 0)),(4,(vp aQ 0)),(5,(.slice F (l).length G)),(10,(vs P ([false,false,false,false,false]:List PBl).length Q)),(11,(vi ((0:Nat):Int)))] ⟨rfl,rfl,rfl,(cA (fun m:Nat=>Value.slice F m G) fT),rfl,(cA (Value.int .i64) (show (0:Int)=((0:Nat):Int) by omega)),trivial⟩ (fun e' A=>∃ (m:Nat) (b:PChan) (g:List PBl) (j:PChan) (f:List PFrame) (iJ:Env) (F:Option Addr) (G:Nat) (ab3_1x:Option Addr) (cb3_1x:Nat) (ab3_11x:Option Addr) (cb3_11x:Nat) (ab3_14x:Option Addr) (cb3_14x:Nat) (ab3_3x:Option Addr) (cb3_3x:Nat) (ab3_6x:Option Addr) (cb3_6x:Nat) (ab3_8x:Option Addr) (cb3_8x:Nat) (ab4_1x:Option Addr) (cb4_1x:Nat) (ab4_11x:Option Addr) (cb4_11x:Nat) (ab4_14x:Option Addr) (cb4_14x:Nat) (ab4_3x:Option Addr) (cb4_3x:Nat) (ab4_6x:Option Addr) (cb4_6x:Nat) (ab4_8x:Option Addr) (cb4_8x:Nat),e'=pt iJ [(0,(vs ax d.length a6)),(3,(vp aP 0)),(4,(vp aQ 0)),(5,(.slice F (f).length G)),(10,(vs P ([false,false,false,false,false]:List PBl).length Q)),(11,(vi ((m:Nat):Int)))]∧Ch (fun k=>aL.heap.size≤k) aL A∧Ch (fun k=>aM.heap.size≤k) ah A∧((m:Nat):Int)≤12∧OpenP q b g∧j=PR c 5∧f=frs c (Gt d 3) 5∧(OLv SC A ew.heap.size ay.heap.size F (f).length G (f)∧(f).length≤1073741824)∧(World.ownsRow A C.heap.size 5 1 (.slice ab3_1x (j.Sn).length cb3_1x) (j.Sn).length ((j.Sn).map bV)∧(j.Sn).length≤1073741824)∧(World.ownsRow A C.heap.size 3 1 (.slice ab3_11x (j.Old.Win.Bits).length cb3_11x) (j.Old.Win.Bits).length ((j.Old.Win.Bits).map iV)∧(j.Old.Win.Bits).length≤1073741824)∧(World.ownsRow A C.heap.size 5 1 (.slice ab3_14x (j.Next).length cb3_14x) (j.Next).length ((j.Next).map bV)∧(j.Next).length≤1073741824)∧(World.ownsRow A C.heap.size 5 1 (.slice ab3_3x (j.Cur.Key).length cb3_3x) (j.Cur.Key).length ((j.Cur.Key).map bV)∧(j.Cur.Key).length≤1073741824)∧(World.ownsRow A C.heap.size 3 1 (.slice ab3_6x (j.Cur.Win.Bits).length cb3_6x) (j.Cur.Win.Bits).length ((j.Cur.Win.Bits).map iV)∧(j.Cur.Win.Bits).length≤1073741824)∧(World.ownsRow A C.heap.size 5 1 (.slice ab3_8x (j.Old.Key).length cb3_8x) (j.Old.Key).length ((j.Old.Key).map bV)∧(j.Old.Key).length≤1073741824)∧(World.ownsRow A C.heap.size 5 1 (.slice ab4_1x (b.Sn).length cb4_1x) (b.Sn).length ((b.Sn).map bV)∧(b.Sn).length≤1073741824)∧(World.ownsRow A C.heap.size 3 1 (.slice ab4_11x (b.Old.Win.Bits).length cb4_11x) (b.Old.Win.Bits).length ((b.Old.Win.Bits).map iV)∧(b.Old.Win.Bits).length≤1073741824)∧(World.ownsRow A C.heap.size 5 1 (.slice ab4_14x (b.Next).length cb4_14x) (b.Next).length ((b.Next).map bV)∧(b.Next).length≤1073741824)∧(World.ownsRow A C.heap.size 5 1 (.slice ab4_3x (b.Cur.Key).length cb4_3x) (b.Cur.Key).length ((b.Cur.Key).map bV)∧(b.Cur.Key).length≤1073741824)∧(World.ownsRow A C.heap.size 3 1 (.slice ab4_6x (b.Cur.Win.Bits).length cb4_6x) (b.Cur.Win.Bits).length ((b.Cur.Win.Bits).map iV)∧(b.Cur.Win.Bits).length≤1073741824)∧(World.ownsRow A C.heap.size 5 1 (.slice ab4_8x (b.Old.Key).length cb4_8x) (b.Old.Key).length ((b.Old.Key).map bV)∧(b.Old.Key).length≤1073741824)∧World.ownsRow A ay.heap.size 4 1 (.slice P ([false,false,false,false,false]:List PBl).length Q) ([false,false,false,false,false]:List PBl).length ((g).flatMap MY)∧Blk A aP 38 [(vi j.Role),(.slice ab3_1x (j.Sn).length cb3_1x),(vi j.Cur.N),(.slice ab3_3x (j.Cur.Key).length cb3_3x),(vi j.Cur.Seq),(vi j.Cur.Win.Top),(.slice ab3_6x (j.Cur.Win.Bits).length cb3_6x),(vi j.Old.N),(.slice ab3_8x (j.Old.Key).length cb3_8x),(vi j.Old.Seq),(vi j.Old.Win.Top),(.slice ab3_11x (j.Old.Win.Bits).length cb3_11x),(vb j.HasOld),(vi j.Until),(.slice ab3_14x (j.Next).length cb3_14x)]∧Blk A aQ 38 [(vi b.Role),(.slice ab4_1x (b.Sn).length cb4_1x),(vi b.Cur.N),(.slice ab4_3x (b.Cur.Key).length cb4_3x),(vi b.Cur.Seq),(vi b.Cur.Win.Top),(.slice ab4_6x (b.Cur.Win.Bits).length cb4_6x),(vi b.Old.N),(.slice ab4_8x (b.Old.Key).length cb4_8x),(vi b.Old.Seq),(vi b.Old.Win.Top),(.slice ab4_11x (b.Old.Win.Bits).length cb4_11x),(vb b.HasOld),(vi b.Until),(.slice ab4_14x (b.Next).length cb4_14x)]) (fun e' _=>(20 - (intOf (e' 11))).toNat) ?_ ?_
   ·exact fun u=>⟨0,q,[false,false,false,false,false],a,l,u,F,G,ab3_1x,cb3_1x,ab3_11x,cb3_11x,ab3_14x,cb3_14x,ab3_3x,cb3_3x,ab3_6x,cb3_6x,ab3_8x,cb3_8x,ab4_1x,cb4_1x,ab4_11x,cb4_11x,ab4_14x,cb4_14x,ab4_3x,cb4_3x,ab4_6x,cb4_6x,ab4_8x,cb4_8x,rfl,oW,(Ch.refl (fun k=>aM.heap.size≤k) ah),(by omega),(by first|with_reducible exact Qt ak|(have hz:=(KD (z:=Ik) ak ce b8 b9 hmm (Gt d 3)).2.2;rw [← aU] at hz;exact hz)),(by first|exact cm|exact bE),(by first|exact aU|exact cs),⟨(by rw [← fT,← i6];exact oX),(by rw [← fT];first|exact lI|(simp only [List.length_append,List.length_take,List.length_replicate];omega))⟩,⟨(by rw [← i7,← fU];exact oY),(by rw [← i7];first|exact hv|(simp only [List.length_append,List.length_take,List.length_replicate];omega))⟩,⟨(by rw [← i8,← fV];exact oZ),(by rw [← i8];first|exact hy|(simp only [List.length_append,List.length_take,List.length_replicate];omega))⟩,⟨(by rw [← i9,← fW];exact pa),(by rw [← i9];first|exact h1|(simp only [List.length_append,List.length_take,List.length_replicate];omega))⟩,⟨(by rw [← iA,← fX];exact pb),(by rw [← iA];first|exact h3|(simp only [List.length_append,List.length_take,List.length_replicate];omega))⟩,⟨(by rw [← iB,← fY];exact pc),(by rw [← iB];first|exact h5|(simp only [List.length_append,List.length_take,List.length_replicate];omega))⟩,⟨(by rw [← iC,← fZ];exact pd),(by rw [← iC];first|exact h7|(simp only [List.length_append,List.length_take,List.length_replicate];omega))⟩,⟨(by rw [← iD,← ga];exact pe),(by rw [← iD];first|exact h8|(simp only [List.length_append,List.length_take,List.length_replicate];omega))⟩,⟨(by rw [← iE,← gb];exact pg),(by rw [← iE];first|exact h9|(simp only [List.length_append,List.length_take,List.length_replicate];omega))⟩,⟨(by rw [← iF,← gd];exact ph),(by rw [← iF];first|exact hA|(simp only [List.length_append,List.length_take,List.length_replicate];omega))⟩,⟨(by rw [← iG,← ge];exact pi),(by rw [← iG];first|exact hB|(simp only [List.length_append,List.length_take,List.length_replicate];omega))⟩,⟨(by rw [← iH,← gf];exact pj),(by rw [← iH];first|exact hC|(simp only [List.length_append,List.length_take,List.length_replicate];omega))⟩,⟨(by rw [← iI,← gg];exact pl),(by rw [← iI];first|exact hD|(simp only [List.length_append,List.length_take,List.length_replicate];omega))⟩,(by rw [← pm];exact ae),(by have hb:=pn;first|exact hb|(rw [fU,fV,fW,fX,fY,fZ] at hb;exact hb)),(by have hb:=po;first|exact hb|(rw [ga,gb,gd,ge,gf,gg] at hb;exact hb))⟩
   ·rintro _ b4 z'
    obtain ⟨m,b,g,j,f,iJ,z'⟩:=z'
    obtain ⟨F,G,ab3_1x,cb3_1x,ab3_11x,cb3_11x,z'⟩:=z'
    obtain ⟨ab3_14x,cb3_14x,ab3_3x,cb3_3x,ab3_6x,cb3_6x,z'⟩:=z'
    obtain ⟨ab3_8x,cb3_8x,ab4_1x,cb4_1x,ab4_11x,cb4_11x,z'⟩:=z'
    obtain ⟨ab4_14x,cb4_14x,ab4_3x,cb4_3x,ab4_6x,cb4_6x,z'⟩:=z'
    obtain ⟨ab4_8x,cb4_8x,rfl,gh,a1,zR,z'⟩:=z'
    obtain ⟨ce,cm,aU,⟨iK,eE⟩,⟨dV,dj⟩,⟨dW,dk⟩,z'⟩:=z'
    obtain ⟨⟨dX,dl⟩,⟨dY,dm⟩,⟨dZ,dn⟩,⟨ea,dp⟩,⟨pp,pq⟩,⟨pr,ps⟩,z'⟩:=z'
    obtain ⟨⟨pv,pw⟩,⟨px,py⟩,⟨pz,p0⟩,⟨p1,p2⟩,a2,bc,cd⟩:=z'
    obtain ⟨zS,zT⟩:=OLv.ow iK
    have hmm:0≤((m:Nat):Int)∧((m:Nat):Int)≤1000000:=by omega
    have b8:0≤(Gt d (4+((m:Nat):Int)) % 5):=by omega
    have b9:(Gt d (4+((m:Nat):Int)) % 5) < 5:=by omega
    have hgl:=ce.gl
    have hll:f.length=5:=by rw [aU];exact QH _ _ _
    refine uK<|sr<|mw (vi ((m:Nat):Int)) ?_
    refine pu (vb (decide (((m:Nat):Int) < 12))) wN ?_
    refine n2 ?_
    rcases bf (decide (((m:Nat):Int) < 12)) with ec|ec
    ·have zU:=dF ec
     refine cf ec<|Gn<|uA<|uA<|wr<|rg<|sr<|aw (vb true) ?_
     refine n3<|rt (vb true) ?_
     have p3:RZ d B=true:=by rfl
     exact ⟨B,gh.keep0,kR,by rw [p3]⟩
    have zV:=dT ec
    refine ct ec<|FR<|rg<|uK<|uJ<|sr<|mw (vs ax d.length a6) ?_
    refine mw (vi ((m:Nat):Int)) ?_
    refine ar (4+((m:Nat):Int)) wN ?_
    refine cl wN (Vd b4 _ d (FV (d7.from0 gh) (by omega)) (4+((m:Nat):Int)) (by omega)) ?_
    rintro _ am ⟨y,rfl⟩
    have zW:=PO d (4+((m:Nat):Int))
    refine Ig (Gt d (4+((m:Nat):Int))) 5 wN rfl rfl (by kernel_rfl) (by first|omega|assumption) ?_
    refine aw (vi ((Gt d (4+((m:Nat):Int))) % 5)) ?_
    refine uD<|rg<|uK ?_
    have cn:=(OLv.kp iK y)
    obtain ⟨zX,zY,eF,eG,p4⟩:=OLv.el Ik (i:=(((Gt d (4+((m:Nat):Int))) % 5)).toNat) cn (by first|omega|(simp <;> omega))
    obtain ⟨cv,cw,zZ,rfl,eH,eI,p5⟩:=Jm.c p4
    obtain ⟨cx,cy,Aa,rfl,eJ,eK,p6⟩:=Jm.c p5
    obtain ⟨cz,c0,Ab,rfl,eL,eM,p7⟩:=Jm.c p6
    obtain ⟨c1,c2,Ac,rfl,eN,eO,p8⟩:=Jm.c p7
    obtain ⟨c3,c4,Ad,rfl,eP,eQ,p9⟩:=Jm.c p8
    obtain ⟨c5,c6,Ae,rfl,eR,eS,pA⟩:=Jm.c p9
    obtain rfl:=Jm.n pA
    refine Ga ([(78,[],[],(fun _ v _=>v=(va [(vi b.Role),(vs ab4_1x (b.Sn).length cb4_1x),(vi b.Cur.N),(vs ab4_3x (b.Cur.Key).length cb4_3x),(vi b.Cur.Seq),(vi b.Cur.Win.Top),(vs ab4_6x (b.Cur.Win.Bits).length cb4_6x),(vi b.Old.N),(vs ab4_8x (b.Old.Key).length cb4_8x),(vi b.Old.Seq),(vi b.Old.Win.Top),(vs ab4_11x (b.Old.Win.Bits).length cb4_11x),(vb b.HasOld),(vi b.Until),(vs ab4_14x (b.Next).length cb4_14x)]))),(79,[],[],(fun _ v _=>v=(vi ((m:Nat):Int)))),(80,[],[],(fun _ v _=>v=(vs F (f).length G))),(81,[],[],(fun _ v _=>v=(vi ((Gt d (4+((m:Nat):Int))) % 5)))),(82,[],[2,3],(fun _ v _=>v=(ve (vs F (f).length G) ((((Gt d (4+((m:Nat):Int))) % 5)).toNat*11)))),(83,[],[2,3,4],(fun _ v _=>v=(va [(vi ((fx d f m).Kind)),(vi ((fx d f m).Id)),(vs cv (fx d f m).Cn.length cw),(vs cx (fx d f m).Sn.length cy),(vi ((fx d f m).Tick)),(vs cz (fx d f m).Cookie.length c0),(vs c1 (fx d f m).Proof.length c2),(vi ((fx d f m).Epoch)),(vi ((fx d f m).Seq)),(vs c3 (fx d f m).Body.length c4),(vs c5 (fx d f m).Tag.length c6)]))),(84,[],[0,1,2,3,4,5],(fun _ v w=>KT w am.heap.size v (ob d b f m))),(77,[84],[0,1,2,3,4,5,6],(fun e v _=>v=(.tuple #[(.agg #[(vi (((ob d b f m).1).Role)),(FS (Gl (e 84) 0) 1),(vi ((((ob d b f m).1).Cur).N)),(FS (Gl (e 84) 0) 3),(vi ((((ob d b f m).1).Cur).Seq)),(vi (((((ob d b f m).1).Cur).Win).Top)),(FS (Gl (e 84) 0) 6),(vi ((((ob d b f m).1).Old).N)),(FS (Gl (e 84) 0) 8),(vi ((((ob d b f m).1).Old).Seq)),(vi (((((ob d b f m).1).Old).Win).Top)),(FS (Gl (e 84) 0) 11),(vb (((ob d b f m).1).HasOld)),(vi (((ob d b f m).1).Until)),(FS (Gl (e 84) 0) 14)]),(Gl (e 84) 1),(vi ((ob d b f m).2.2))]))),(85,[84],[0,1,2,3,4,5,6,7],(fun e v _=>v=(.agg #[(vi (((ob d b f m).1).Role)),(FS (Gl (e 84) 0) 1),(vi ((((ob d b f m).1).Cur).N)),(FS (Gl (e 84) 0) 3),(vi ((((ob d b f m).1).Cur).Seq)),(vi (((((ob d b f m).1).Cur).Win).Top)),(FS (Gl (e 84) 0) 6),(vi ((((ob d b f m).1).Old).N)),(FS (Gl (e 84) 0) 8),(vi ((((ob d b f m).1).Old).Seq)),(vi (((((ob d b f m).1).Old).Win).Top)),(FS (Gl (e 84) 0) 11),(vb (((ob d b f m).1).HasOld)),(vi (((ob d b f m).1).Until)),(FS (Gl (e 84) 0) 14)]))),(86,[84],[0,1,2,3,4,5,6,7],(fun e v _=>v=(Gl (e 84) 1))),(87,[],[0,1,2,3,4,5,6,7],(fun _ v _=>v=(vi ((ob d b f m).2.2)))),(13,[],[],(fun _ v w=>∃ (g:Nat) (S T V W X Y Z aa ab ac ad ao ap aq au:Value),v=vp g 0∧am.heap.size≤g∧Blk w g 38 [S,T,V,W,X,Y,Z,aa,ab,ac,ad,ao,ap,aq,au])),(160,[13,84],[0,1,2,3,4,5,6,7,8,11],(fun e _ w=>∃ g:Nat,e 13=vp g 0∧am.heap.size≤g∧Blk w g 38 [(vi (((ob d b f m).1).Role)),(FS (Gl (e 84) 0) 1),(vi ((((ob d b f m).1).Cur).N)),(FS (Gl (e 84) 0) 3),(vi ((((ob d b f m).1).Cur).Seq)),(vi (((((ob d b f m).1).Cur).Win).Top)),(FS (Gl (e 84) 0) 6),(vi ((((ob d b f m).1).Old).N)),(FS (Gl (e 84) 0) 8),(vi ((((ob d b f m).1).Old).Seq)),(vi (((((ob d b f m).1).Old).Win).Top)),(FS (Gl (e 84) 0) 11),(vb (((ob d b f m).1).HasOld)),(vi (((ob d b f m).1).Until)),(FS (Gl (e 84) 0) 14)])),(14,[84],[0,1,2,3,4,5,6,7,8,9,11,12],(fun e v _=>v=(Gl (e 84) 1)))]:GV) (fun _ A=>Keep am A) [(12,fun w A=>∃ g:Nat,am.heap.size≤g∧(∃ S T V W X Y Z aa ab ac ad ao ap aq au:Value,Blk w g 38 [S,T,V,W,X,Y,Z,aa,ab,ac,ad,ao,ap,aq,au])∧Ch (fun k=>k=g) w A∧∃ S T V W X Y Z aa ab ac ad ao ap aq au:Value,Blk A g 38 [S,T,V,W,X,Y,Z,aa,ab,ac,ad,ao,ap,aq,au])] GU rfl (by kernel_rfl) (by kernel_rfl) ?_ (fun _ _ h=>h) (fun _ _ _ _ h _ k=>h.trans k) ⟨(fun _ _ w A h _ _ t=>by obtain ⟨g,hle,-,dh,-⟩:=t;exact h.new dh (fun k hk=>by have aJ:k=g:=hk;omega)),trivial⟩ ?_ ?_ ?_
    ·exact ⟨hV,hE,⟨hV,hE,⟨hV,hE,⟨hV,hE,⟨hV,hE,⟨hV,hE,⟨(fun e v w C h hk=>by obtain ⟨a8,a9,bd,be,bg,bh,h⟩:=h;obtain ⟨bi,bj,bk,bl,F,G,h⟩:=h;obtain ⟨bm,bn,he,aA,aB,bo,h⟩:=h;obtain ⟨bp,bq,br,bu,bv,bw,h⟩:=h;obtain ⟨bz,b0,b1,b2,b3,hap⟩:=h;exact ⟨a8,a9,bd,be,bg,bh,bi,bj,bk,bl,F,G,bm,bn,he,gc aA hk,aB,gc bo hk,bp,gc bq hk,br,gc bu hk,bv,gc bw hk,bz,gc b0 hk,b1,gc b2 hk,b3,hap⟩),hE,⟨hV,(fun aR aS v w hx h=>by have co:=hx 84 (by simp);simp only [co] at h;exact h),⟨hV,(fun aR aS v w hx h=>by have co:=hx 84 (by simp);simp only [co] at h;exact h),⟨hV,(fun aR aS v w hx h=>by have co:=hx 84 (by simp);simp only [co] at h;exact h),⟨hV,hE,⟨(fun e v w C h hk=>by obtain ⟨g,S,T,V,W,X,h⟩:=h;obtain ⟨Y,Z,aa,ab,ac,ad,h⟩:=h;obtain ⟨ao,ap,aq,au,he,hle,hb⟩:=h;exact ⟨g,_,_,_,_,_,_,_,_,_,_,_,_,_,_,_,he,hle,hb.kp hk⟩),hE,⟨(fun e v w C h hk=>by obtain ⟨g,he,hle,hb⟩:=h;exact ⟨g,he,hle,hb.kp hk⟩),(fun aR aS v w hx h=>by have pB:=hx 13 (by simp);have co:=hx 84 (by simp);simp only [pB,co] at h;exact h),⟨hV,(fun aR aS v w hx h=>by have co:=hx 84 (by simp);simp only [co] at h;exact h),trivial⟩⟩⟩⟩⟩⟩⟩⟩⟩⟩⟩⟩⟩⟩
    ·exact ⟨⟨.inr hV,⟨.inr hV,⟨.inr hV,⟨.inr hV,⟨.inr hV,⟨.inr hV,⟨.inr (fun e v wX wY h ht=>by obtain ⟨a8,a9,bd,be,bg,bh,h⟩:=h;obtain ⟨bi,bj,bk,bl,F,G,h⟩:=h;obtain ⟨bm,bn,he,aA,aB,bo,h⟩:=h;obtain ⟨bp,bq,br,bu,bv,bw,h⟩:=h;obtain ⟨bz,b0,b1,b2,b3,hap⟩:=h;obtain ⟨gt,hlt,z1',hct,z2'⟩:=ht;obtain ⟨_,_,_,_,_,_,z1'⟩:=z1';obtain ⟨_,_,_,_,_,_,z1'⟩:=z1';obtain ⟨_,_,_,hbt⟩:=z1';obtain ⟨_,_,_,_,_,_,z2'⟩:=z2';obtain ⟨_,_,_,_,_,_,z2'⟩:=z2';obtain ⟨_,_,_,aK⟩:=z2';exact ⟨a8,a9,bd,be,bg,bh,bi,bj,bk,bl,F,G,bm,bn,he,FN aA hbt (by decide) hct,aB,FN bo hbt (by decide) hct,bp,FN bq hbt (by decide) hct,br,FN bu hbt (by decide) hct,bv,FN bw hbt (by decide) hct,bz,FN b0 hbt (by decide) hct,b1,FN b2 hbt (by decide) hct,b3,hap⟩),⟨.inr hV,⟨.inr hV,⟨.inr hV,⟨.inr hV,⟨.inr (fun e v wX wY h ht=>by obtain ⟨g,S,T,V,W,X,h⟩:=h;obtain ⟨Y,Z,aa,ab,ac,ad,h⟩:=h;obtain ⟨ao,ap,aq,au,he,hle,hb⟩:=h;obtain ⟨gt,hlt,z1',hct,z2'⟩:=ht;obtain ⟨_,_,_,_,_,_,z1'⟩:=z1';obtain ⟨_,_,_,_,_,_,z1'⟩:=z1';obtain ⟨_,_,_,hbt⟩:=z1';obtain ⟨_,_,_,_,_,_,z2'⟩:=z2';obtain ⟨_,_,_,_,_,_,z2'⟩:=z2';obtain ⟨_,_,_,aK⟩:=z2';by_cases hg:g=gt;(· subst hg;exact ⟨g,_,_,_,_,_,_,_,_,_,_,_,_,_,_,_,he,hle,aK⟩);(· exact ⟨g,_,_,_,_,_,_,_,_,_,_,_,_,_,_,_,he,hle,hb.ch hct hg⟩)),⟨.inl rfl,⟨.inr hV,trivial⟩⟩⟩⟩⟩⟩⟩⟩⟩⟩⟩⟩⟩⟩,trivial⟩
    ·refine ⟨?_,⟨?_,⟨?_,⟨?_,⟨?_,⟨?_,⟨?_,⟨?_,⟨?_,⟨?_,⟨?_,⟨?_,⟨?_,⟨?_,trivial⟩⟩⟩⟩⟩⟩⟩⟩⟩⟩⟩⟩⟩⟩
     ·intro _ O pC _
      iterate 14 intro _
      refine sw ?_
      have pD:=((cd.kp y).kp pC)
      refine lN [(vi b.Role),(vs ab4_1x (b.Sn).length cb4_1x),(vi b.Cur.N),(vs ab4_3x (b.Cur.Key).length cb4_3x),(vi b.Cur.Seq),(vi b.Cur.Win.Top),(vs ab4_6x (b.Cur.Win.Bits).length cb4_6x),(vi b.Old.N),(vs ab4_8x (b.Old.Key).length cb4_8x),(vi b.Old.Seq),(vi b.Old.Win.Top),(vs ab4_11x (b.Old.Win.Bits).length cb4_11x),(vb b.HasOld),(vi b.Until),(vs ab4_14x (b.Next).length cb4_14x)] wN wb uC pD ?_
      exact f1
     ·intro _ O Af _
      iterate 14 intro _
      refine sw<|mw (vi ((m:Nat):Int)) ?_
      exact f1
     ·intro _ O Ag _
      iterate 14 intro _
      refine sw<|mw (vs F (f).length G) ?_
      exact f1
     ·intro _ O Ah _
      iterate 14 intro _
      refine sw<|mw (vi ((Gt d (4+((m:Nat):Int))) % 5)) ?_
      exact f1
     ·intro _ O pE _
      rintro _ _ _ rfl _ rfl _ _ _ _ _ _ _ _ _ _
      refine sw ?_
      have pF:=(OLv.kp cn pE)
      obtain ⟨Ai,pG⟩:=RLv.row (OLv.rl pF)
      refine ix wN ((Gt d (4+((m:Nat):Int))) % 5) Kl pG ?_
      exact f1
     ·intro _ O pH _
      rintro _ _ _ rfl _ rfl _ rfl _ _ _ _ _ _ _ _ _
      refine sw<|Kv [(vi ((fx d f m).Kind)),(vi ((fx d f m).Id)),(vs cv (fx d f m).Cn.length cw),(vs cx (fx d f m).Sn.length cy),(vi ((fx d f m).Tick)),(vs cz (fx d f m).Cookie.length c0),(vs c1 (fx d f m).Proof.length c2),(vi ((fx d f m).Epoch)),(vi ((fx d f m).Seq)),(vs c3 (fx d f m).Body.length c4),(vs c5 (fx d f m).Tag.length c6)] wN rfl rfl rfl rfl Gg FD (eF.kp pH) (by first|omega|(simp <;> omega)) ((MO (off:=0) (n:=11) eG (by first|rfl|simp|omega) (by decide)).trans rfl) ?_
      exact f1
     ·intro _ O aC _
      rintro _ rfl _ rfl _ rfl _ rfl _ rfl _ rfl _ _ _ _ _ _ _ _
      refine sw ?_
      have pI:=(gc (gc pp y) aC)
      have pJ:=(gc (gc px y) aC)
      have pK:=(gc (gc pz y) aC)
      have pL:=(gc (gc p1 y) aC)
      have pM:=(gc (gc pr y) aC)
      have pN:=(gc (gc pv y) aC)
      have pO:=(gc eH aC)
      have pP:=(gc eJ aC)
      have pQ:=(gc eL aC)
      have pR:=(gc eN aC)
      have pS:=(gc eP aC)
      have pT:=(gc eR aC)
      refine cl wN (MF O _ b (KI (Rd.of_own pI) pq (Rd.of_own pJ) py (Rd.of_own pK) p0 (Rd.of_own pL) p2 (Rd.of_own pM) ps (Rd.of_own pN) pw) ((m:Nat):Int) _ (fx d f m) (IN (Rd.of_own pO) eI (Rd.of_own pP) eK (Rd.of_own pQ) eM (Rd.of_own pR) eO (Rd.of_own pS) eQ (Rd.of_own pT) eS)) ?_
      rintro _ az z'
      obtain ⟨pU,z1'⟩:=z'
      obtain ⟨Aj,Ak,Al,Am,An,Ao,z1'⟩:=z1'
      obtain ⟨Aq,Ar,As,At,Au,Av,z1'⟩:=z1'
      obtain ⟨Aw,Ax,rfl,pV,pW,pX,z1'⟩:=z1'
      obtain ⟨pY,pZ,qa,qb,qc,qd,z1'⟩:=z1'
      obtain ⟨qe,qf,qg,qh,qi,qj⟩:=z1'
      exact FY pU ⟨_,_,_,_,_,_,_,_,_,_,_,_,_,_,rfl,(tA pV aC.size),pW,(tA pX aC.size),pY,(tA pZ aC.size),qa,(tA qb aC.size),qc,(tA qd aC.size),qe,(tA qf aC.size),qg,(tA qh aC.size),qi,qj⟩
     ·intro _ O Ay _
      rintro _ rfl _ rfl _ rfl _ rfl _ rfl _ rfl _ z' _ _ _ _ _ _ _
      obtain ⟨qk,ql,qm,qn,qo,qp,z'⟩:=z'
      obtain ⟨qq,qr,qs,qt,qu,qv,z'⟩:=z'
      obtain ⟨qw,qx,rfl,_⟩:=z'
      refine sw<|mw (.tuple #[(va (GH ((ob d b f m).1) qk ql qm qn qo qp qq qr qs qt qu qv)),(vs qw ((ob d b f m).2.1).length qx),(vi ((ob d b f m).2.2))]) ?_
      exact f1
     ·intro _ O Az _
      rintro _ rfl _ rfl _ rfl _ rfl _ rfl _ rfl _ z' _ rfl _ _ _ _ _ _
      obtain ⟨qy,qz,q0,q1,q2,q3,z'⟩:=z'
      obtain ⟨q4,q5,q6,q7,q8,q9,z'⟩:=z'
      obtain ⟨A0,A1,rfl,_⟩:=z'
      refine sw<|pu (va (GH ((ob d b f m).1) qy qz q0 q1 q2 q3 q4 q5 q6 q7 q8 q9)) wN ?_
      exact f1
     ·intro _ O A2 _
      rintro _ rfl _ rfl _ rfl _ rfl _ rfl _ rfl _ z' _ rfl _ _ _ _ _ _
      obtain ⟨A3,A4,A5,A6,A7,A8,z'⟩:=z'
      obtain ⟨A9,AA,AB,AC,AD,AE,z'⟩:=z'
      obtain ⟨qA,qB,rfl,_⟩:=z'
      refine sw<|pu (vs qA ((ob d b f m).2.1).length qB) wN ?_
      exact f1
     ·intro _ O AF _
      rintro _ rfl _ rfl _ rfl _ rfl _ rfl _ rfl _ z' _ rfl _ _ _ _ _ _
      obtain ⟨AG,AH,AI,AJ,AK,AL,z'⟩:=z'
      obtain ⟨AM,AN,AO,AP,AQ,AR,z'⟩:=z'
      obtain ⟨AS,AT,rfl,_⟩:=z'
      refine sw<|pu (vi ((ob d b f m).2.2)) wN ?_
      exact f1
     ·intro _ O qC _
      iterate 14 intro _
      refine sw<|al Mf wN HR ?_
      intro AU az qD AV qE qF
      exact FY qE ⟨_,_,_,_,_,_,_,_,_,_,_,_,_,_,_,_,rfl,(nT qC.size qD),qF⟩
     ·intro _ O AW _
      rintro _ rfl _ rfl _ rfl _ rfl _ rfl _ rfl _ z' _ rfl _ rfl _ _ _ qS
      obtain ⟨qG,qH,qI,qJ,qK,qL,z'⟩:=z'
      obtain ⟨qM,qN,qO,qP,qQ,qR,z'⟩:=z'
      obtain ⟨AX,AY,rfl,_⟩:=z'
      obtain ⟨AZ,Ba,rfl,iL,iM⟩:=KQ qS
      rintro _ _
      refine sw<|sv (GH ((ob d b f m).1) qG qH qI qJ qK qL qM qN qO qP qQ qR) wN uC iM ?_
      intro az qT iN Bb
      exact KW (by decide) ⟨_,iL,⟨_,_,_,_,_,_,_,_,_,_,_,_,_,_,_,iM⟩,qT,⟨_,_,_,_,_,_,_,_,_,_,_,_,_,_,_,iN⟩⟩ ⟨_,rfl,iL,iN⟩
     ·intro _ O Bc _
      rintro _ rfl _ rfl _ rfl _ rfl _ rfl _ rfl _ z' _ rfl _ rfl _ rfl _ _ qW
      obtain ⟨Bd,Be,Bf,Bg,Bh,Bi,z'⟩:=z'
      obtain ⟨Bj,Bk,Bl,Bm,Bn,Bo,z'⟩:=z'
      obtain ⟨qU,qV,rfl,_⟩:=z'
      obtain ⟨Bp,Bq,rfl,Br,Bs⟩:=KQ qW
      rintro _ ⟨qX,qY,-,Bt⟩
      have hz:=Kx qY
      subst qX
      intro _
      refine sw<|aw (vs qU ((ob d b f m).2.1).length qV) ?_
      exact f1
    ·intro _ O r
     rintro _ rfl _ rfl _ rfl _ rfl _ rfl _ rfl _ z' _ rfl _ rfl _ rfl _ rfl _ qZ
     obtain ⟨bG,bH,bI,bJ,bK,bL,z'⟩:=z'
     obtain ⟨bM,bN,bO,bP,bQ,bR,z'⟩:=z'
     obtain ⟨cg,ci,rfl,c7,eT,c8,z'⟩:=z'
     obtain ⟨eU,c9,eV,cC,eW,cD,z'⟩:=z'
     obtain ⟨eX,cE,eY,bS,_⟩:=z'
     obtain ⟨Bu,Bv,rfl,eZ,Bw⟩:=KQ qZ
     rintro _ ⟨ra,rb,-,fa⟩
     have hz:=Kx rb
     subst ra
     rintro _ rfl
     refine sw<|aw (vi ((ob d b f m).2.2)) ?_
     refine uD<|rg<|uK<|Ga ([(89,[],[],(fun _ v _=>v=(va [(vi j.Role),(vs ab3_1x (j.Sn).length cb3_1x),(vi j.Cur.N),(vs ab3_3x (j.Cur.Key).length cb3_3x),(vi j.Cur.Seq),(vi j.Cur.Win.Top),(vs ab3_6x (j.Cur.Win.Bits).length cb3_6x),(vi j.Old.N),(vs ab3_8x (j.Old.Key).length cb3_8x),(vi j.Old.Seq),(vi j.Old.Win.Top),(vs ab3_11x (j.Old.Win.Bits).length cb3_11x),(vb j.HasOld),(vi j.Until),(vs ab3_14x (j.Next).length cb3_14x)]))),(90,[],[],(fun _ v _=>v=(vi ((m:Nat):Int)))),(91,[],[],(fun _ v _=>v=(vs F (f).length G))),(92,[],[],(fun _ v _=>v=(vi ((Gt d (4+((m:Nat):Int))) % 5)))),(93,[],[2,3],(fun _ v _=>v=(ve (vs F (f).length G) ((((Gt d (4+((m:Nat):Int))) % 5)).toNat*11)))),(94,[],[2,3,4],(fun _ v _=>v=(va [(vi ((fx d f m).Kind)),(vi ((fx d f m).Id)),(vs cv (fx d f m).Cn.length cw),(vs cx (fx d f m).Sn.length cy),(vi ((fx d f m).Tick)),(vs cz (fx d f m).Cookie.length c0),(vs c1 (fx d f m).Proof.length c2),(vi ((fx d f m).Epoch)),(vi ((fx d f m).Seq)),(vs c3 (fx d f m).Body.length c4),(vs c5 (fx d f m).Tag.length c6)]))),(95,[],[0,1,2,3,4,5],(fun _ v w=>KT w O.heap.size v (ob d j f m))),(88,[95],[0,1,2,3,4,5,6],(fun e v _=>v=(.tuple #[(.agg #[(vi (((ob d j f m).1).Role)),(FS (Gl (e 95) 0) 1),(vi ((((ob d j f m).1).Cur).N)),(FS (Gl (e 95) 0) 3),(vi ((((ob d j f m).1).Cur).Seq)),(vi (((((ob d j f m).1).Cur).Win).Top)),(FS (Gl (e 95) 0) 6),(vi ((((ob d j f m).1).Old).N)),(FS (Gl (e 95) 0) 8),(vi ((((ob d j f m).1).Old).Seq)),(vi (((((ob d j f m).1).Old).Win).Top)),(FS (Gl (e 95) 0) 11),(vb (((ob d j f m).1).HasOld)),(vi (((ob d j f m).1).Until)),(FS (Gl (e 95) 0) 14)]),(Gl (e 95) 1),(vi ((ob d j f m).2.2))]))),(96,[95],[0,1,2,3,4,5,6,7],(fun e v _=>v=(.agg #[(vi (((ob d j f m).1).Role)),(FS (Gl (e 95) 0) 1),(vi ((((ob d j f m).1).Cur).N)),(FS (Gl (e 95) 0) 3),(vi ((((ob d j f m).1).Cur).Seq)),(vi (((((ob d j f m).1).Cur).Win).Top)),(FS (Gl (e 95) 0) 6),(vi ((((ob d j f m).1).Old).N)),(FS (Gl (e 95) 0) 8),(vi ((((ob d j f m).1).Old).Seq)),(vi (((((ob d j f m).1).Old).Win).Top)),(FS (Gl (e 95) 0) 11),(vb (((ob d j f m).1).HasOld)),(vi (((ob d j f m).1).Until)),(FS (Gl (e 95) 0) 14)]))),(97,[95],[0,1,2,3,4,5,6,7],(fun e v _=>v=(Gl (e 95) 1))),(98,[],[0,1,2,3,4,5,6,7],(fun _ v _=>v=(vi ((ob d j f m).2.2)))),(16,[],[],(fun _ v w=>∃ (g:Nat) (S T V W X Y Z aa ab ac ad ao ap aq au:Value),v=vp g 0∧O.heap.size≤g∧Blk w g 38 [S,T,V,W,X,Y,Z,aa,ab,ac,ad,ao,ap,aq,au])),(160,[16,95],[0,1,2,3,4,5,6,7,8,11],(fun e _ w=>∃ g:Nat,e 16=vp g 0∧O.heap.size≤g∧Blk w g 38 [(vi (((ob d j f m).1).Role)),(FS (Gl (e 95) 0) 1),(vi ((((ob d j f m).1).Cur).N)),(FS (Gl (e 95) 0) 3),(vi ((((ob d j f m).1).Cur).Seq)),(vi (((((ob d j f m).1).Cur).Win).Top)),(FS (Gl (e 95) 0) 6),(vi ((((ob d j f m).1).Old).N)),(FS (Gl (e 95) 0) 8),(vi ((((ob d j f m).1).Old).Seq)),(vi (((((ob d j f m).1).Old).Win).Top)),(FS (Gl (e 95) 0) 11),(vb (((ob d j f m).1).HasOld)),(vi (((ob d j f m).1).Until)),(FS (Gl (e 95) 0) 14)])),(17,[95],[0,1,2,3,4,5,6,7,8,9,11,12],(fun e v _=>v=(Gl (e 95) 1)))]:GV) (fun _ A=>Keep O A) [(12,fun w A=>∃ g:Nat,O.heap.size≤g∧(∃ S T V W X Y Z aa ab ac ad ao ap aq au:Value,Blk w g 38 [S,T,V,W,X,Y,Z,aa,ab,ac,ad,ao,ap,aq,au])∧Ch (fun k=>k=g) w A∧∃ S T V W X Y Z aa ab ac ad ao ap aq au:Value,Blk A g 38 [S,T,V,W,X,Y,Z,aa,ab,ac,ad,ao,ap,aq,au])] GU rfl (by kernel_rfl) (by kernel_rfl) ?_ (fun _ _ h=>h) (fun _ _ _ _ h _ k=>h.trans k) ⟨(fun _ _ w A h _ _ t=>by obtain ⟨g,hle,-,dh,-⟩:=t;exact h.new dh (fun k hk=>by have aJ:k=g:=hk;omega)),trivial⟩ ?_ ?_ ?_
     ·exact ⟨hV,hE,⟨hV,hE,⟨hV,hE,⟨hV,hE,⟨hV,hE,⟨hV,hE,⟨(fun e v w C h hk=>by obtain ⟨a8,a9,bd,be,bg,bh,h⟩:=h;obtain ⟨bi,bj,bk,bl,F,G,h⟩:=h;obtain ⟨bm,bn,he,aA,aB,bo,h⟩:=h;obtain ⟨bp,bq,br,bu,bv,bw,h⟩:=h;obtain ⟨bz,b0,b1,b2,b3,hap⟩:=h;exact ⟨a8,a9,bd,be,bg,bh,bi,bj,bk,bl,F,G,bm,bn,he,gc aA hk,aB,gc bo hk,bp,gc bq hk,br,gc bu hk,bv,gc bw hk,bz,gc b0 hk,b1,gc b2 hk,b3,hap⟩),hE,⟨hV,(fun aR aS v w hx h=>by have cp:=hx 95 (by simp);simp only [cp] at h;exact h),⟨hV,(fun aR aS v w hx h=>by have cp:=hx 95 (by simp);simp only [cp] at h;exact h),⟨hV,(fun aR aS v w hx h=>by have cp:=hx 95 (by simp);simp only [cp] at h;exact h),⟨hV,hE,⟨(fun e v w C h hk=>by obtain ⟨g,S,T,V,W,X,h⟩:=h;obtain ⟨Y,Z,aa,ab,ac,ad,h⟩:=h;obtain ⟨ao,ap,aq,au,he,hle,hb⟩:=h;exact ⟨g,_,_,_,_,_,_,_,_,_,_,_,_,_,_,_,he,hle,hb.kp hk⟩),hE,⟨(fun e v w C h hk=>by obtain ⟨g,he,hle,hb⟩:=h;exact ⟨g,he,hle,hb.kp hk⟩),(fun aR aS v w hx h=>by have rc:=hx 16 (by simp);have cp:=hx 95 (by simp);simp only [rc,cp] at h;exact h),⟨hV,(fun aR aS v w hx h=>by have cp:=hx 95 (by simp);simp only [cp] at h;exact h),trivial⟩⟩⟩⟩⟩⟩⟩⟩⟩⟩⟩⟩⟩⟩
     ·exact ⟨⟨.inr hV,⟨.inr hV,⟨.inr hV,⟨.inr hV,⟨.inr hV,⟨.inr hV,⟨.inr (fun e v wX wY h ht=>by obtain ⟨a8,a9,bd,be,bg,bh,h⟩:=h;obtain ⟨bi,bj,bk,bl,F,G,h⟩:=h;obtain ⟨bm,bn,he,aA,aB,bo,h⟩:=h;obtain ⟨bp,bq,br,bu,bv,bw,h⟩:=h;obtain ⟨bz,b0,b1,b2,b3,hap⟩:=h;obtain ⟨gt,hlt,z1',hct,z2'⟩:=ht;obtain ⟨_,_,_,_,_,_,z1'⟩:=z1';obtain ⟨_,_,_,_,_,_,z1'⟩:=z1';obtain ⟨_,_,_,hbt⟩:=z1';obtain ⟨_,_,_,_,_,_,z2'⟩:=z2';obtain ⟨_,_,_,_,_,_,z2'⟩:=z2';obtain ⟨_,_,_,aK⟩:=z2';exact ⟨a8,a9,bd,be,bg,bh,bi,bj,bk,bl,F,G,bm,bn,he,FN aA hbt (by decide) hct,aB,FN bo hbt (by decide) hct,bp,FN bq hbt (by decide) hct,br,FN bu hbt (by decide) hct,bv,FN bw hbt (by decide) hct,bz,FN b0 hbt (by decide) hct,b1,FN b2 hbt (by decide) hct,b3,hap⟩),⟨.inr hV,⟨.inr hV,⟨.inr hV,⟨.inr hV,⟨.inr (fun e v wX wY h ht=>by obtain ⟨g,S,T,V,W,X,h⟩:=h;obtain ⟨Y,Z,aa,ab,ac,ad,h⟩:=h;obtain ⟨ao,ap,aq,au,he,hle,hb⟩:=h;obtain ⟨gt,hlt,z1',hct,z2'⟩:=ht;obtain ⟨_,_,_,_,_,_,z1'⟩:=z1';obtain ⟨_,_,_,_,_,_,z1'⟩:=z1';obtain ⟨_,_,_,hbt⟩:=z1';obtain ⟨_,_,_,_,_,_,z2'⟩:=z2';obtain ⟨_,_,_,_,_,_,z2'⟩:=z2';obtain ⟨_,_,_,aK⟩:=z2';by_cases hg:g=gt;(· subst hg;exact ⟨g,_,_,_,_,_,_,_,_,_,_,_,_,_,_,_,he,hle,aK⟩);(· exact ⟨g,_,_,_,_,_,_,_,_,_,_,_,_,_,_,_,he,hle,hb.ch hct hg⟩)),⟨.inl rfl,⟨.inr hV,trivial⟩⟩⟩⟩⟩⟩⟩⟩⟩⟩⟩⟩⟩⟩,trivial⟩
     ·refine ⟨?_,⟨?_,⟨?_,⟨?_,⟨?_,⟨?_,⟨?_,⟨?_,⟨?_,⟨?_,⟨?_,⟨?_,⟨?_,⟨?_,trivial⟩⟩⟩⟩⟩⟩⟩⟩⟩⟩⟩⟩⟩⟩
      ·intro _ az rf _
       iterate 14 intro _
       refine sw ?_
       have rh:=(((bc.kp y).kp r).kp rf)
       refine lN [(vi j.Role),(vs ab3_1x (j.Sn).length cb3_1x),(vi j.Cur.N),(vs ab3_3x (j.Cur.Key).length cb3_3x),(vi j.Cur.Seq),(vi j.Cur.Win.Top),(vs ab3_6x (j.Cur.Win.Bits).length cb3_6x),(vi j.Old.N),(vs ab3_8x (j.Old.Key).length cb3_8x),(vi j.Old.Seq),(vi j.Old.Win.Top),(vs ab3_11x (j.Old.Win.Bits).length cb3_11x),(vb j.HasOld),(vi j.Until),(vs ab3_14x (j.Next).length cb3_14x)] wN wb uC rh ?_
       exact f1
      ·intro _ az Bx _
       iterate 14 intro _
       refine sw<|mw (vi ((m:Nat):Int)) ?_
       exact f1
      ·intro _ az By _
       iterate 14 intro _
       refine sw<|mw (vs F (f).length G) ?_
       exact f1
      ·intro _ az Bz _
       iterate 14 intro _
       refine sw<|mw (vi ((Gt d (4+((m:Nat):Int))) % 5)) ?_
       exact f1
      ·intro _ az ri _
       rintro _ _ _ rfl _ rfl _ _ _ _ _ _ _ _ _ _
       refine sw ?_
       have rj:=(OLv.kp (OLv.kp cn r) ri)
       obtain ⟨B0,rk⟩:=RLv.row (OLv.rl rj)
       refine ix wN ((Gt d (4+((m:Nat):Int))) % 5) Kl rk ?_
       exact f1
      ·intro _ az rm _
       rintro _ _ _ rfl _ rfl _ rfl _ _ _ _ _ _ _ _ _
       refine sw<|Kv [(vi ((fx d f m).Kind)),(vi ((fx d f m).Id)),(vs cv (fx d f m).Cn.length cw),(vs cx (fx d f m).Sn.length cy),(vi ((fx d f m).Tick)),(vs cz (fx d f m).Cookie.length c0),(vs c1 (fx d f m).Proof.length c2),(vi ((fx d f m).Epoch)),(vi ((fx d f m).Seq)),(vs c3 (fx d f m).Body.length c4),(vs c5 (fx d f m).Tag.length c6)] wN rfl rfl rfl rfl Gg FD ((eF.kp r).kp rm) (by first|omega|(simp <;> omega)) ((MO (off:=0) (n:=11) eG (by first|rfl|simp|omega) (by decide)).trans rfl) ?_
       exact f1
      ·intro _ az aD _
       rintro _ rfl _ rfl _ rfl _ rfl _ rfl _ rfl _ _ _ _ _ _ _ _
       refine sw ?_
       have rn:=(gc (gc (gc dV y) r) aD)
       have ro:=(gc (gc (gc dY y) r) aD)
       have rp:=(gc (gc (gc dZ y) r) aD)
       have rq:=(gc (gc (gc ea y) r) aD)
       have rr:=(gc (gc (gc dW y) r) aD)
       have rs:=(gc (gc (gc dX y) r) aD)
       have ru:=(gc (gc eH r) aD)
       have rv:=(gc (gc eJ r) aD)
       have rx:=(gc (gc eL r) aD)
       have ry:=(gc (gc eN r) aD)
       have rz:=(gc (gc eP r) aD)
       have r0:=(gc (gc eR r) aD)
       refine cl wN (MF az _ j (KI (Rd.of_own rn) dj (Rd.of_own ro) dm (Rd.of_own rp) dn (Rd.of_own rq) dp (Rd.of_own rr) dk (Rd.of_own rs) dl) ((m:Nat):Int) _ (fx d f m) (IN (Rd.of_own ru) eI (Rd.of_own rv) eK (Rd.of_own rx) eM (Rd.of_own ry) eO (Rd.of_own rz) eQ (Rd.of_own r0) eS)) ?_
       rintro _ p z'
       obtain ⟨r1,z1'⟩:=z'
       obtain ⟨B1,B2,B3,B4,B5,B6,z1'⟩:=z1'
       obtain ⟨B7,B8,B9,BA,BB,BC,z1'⟩:=z1'
       obtain ⟨BD,BE,rfl,r2,r3,r4,z1'⟩:=z1'
       obtain ⟨r5,r6,r7,r8,r9,rA,z1'⟩:=z1'
       obtain ⟨rB,rC,rD,rE,rF,rG⟩:=z1'
       exact FY r1 ⟨_,_,_,_,_,_,_,_,_,_,_,_,_,_,rfl,(tA r2 aD.size),r3,(tA r4 aD.size),r5,(tA r6 aD.size),r7,(tA r8 aD.size),r9,(tA rA aD.size),rB,(tA rC aD.size),rD,(tA rE aD.size),rF,rG⟩
      ·intro _ az BF _
       rintro _ rfl _ rfl _ rfl _ rfl _ rfl _ rfl _ z' _ _ _ _ _ _ _
       obtain ⟨rH,rI,rJ,rK,rL,rM,z'⟩:=z'
       obtain ⟨rN,rO,rP,rQ,rR,rS,z'⟩:=z'
       obtain ⟨rT,rU,rfl,_⟩:=z'
       refine sw<|mw (.tuple #[(va (GH ((ob d j f m).1) rH rI rJ rK rL rM rN rO rP rQ rR rS)),(vs rT ((ob d j f m).2.1).length rU),(vi ((ob d j f m).2.2))]) ?_
       exact f1
      ·intro _ az BG _
       rintro _ rfl _ rfl _ rfl _ rfl _ rfl _ rfl _ z' _ rfl _ _ _ _ _ _
       obtain ⟨rV,rW,rX,rY,rZ,sa,z'⟩:=z'
       obtain ⟨sb,sc,sd,se,sf,sg,z'⟩:=z'
       obtain ⟨BH,BI,rfl,_⟩:=z'
       refine sw<|pu (va (GH ((ob d j f m).1) rV rW rX rY rZ sa sb sc sd se sf sg)) wN ?_
       exact f1
      ·intro _ az BJ _
       rintro _ rfl _ rfl _ rfl _ rfl _ rfl _ rfl _ z' _ rfl _ _ _ _ _ _
       obtain ⟨BL,BM,BN,BO,BP,BQ,z'⟩:=z'
       obtain ⟨BR,BS,BT,BU,BV,BW,z'⟩:=z'
       obtain ⟨sh,si,rfl,_⟩:=z'
       refine sw<|pu (vs sh ((ob d j f m).2.1).length si) wN ?_
       exact f1
      ·intro _ az BX _
       rintro _ rfl _ rfl _ rfl _ rfl _ rfl _ rfl _ z' _ rfl _ _ _ _ _ _
       obtain ⟨BY,BZ,Ca,Cb,Cc,Cd,z'⟩:=z'
       obtain ⟨Ce,Cf,Cg,Ci,Cj,Ck,z'⟩:=z'
       obtain ⟨Cl,Cm,rfl,_⟩:=z'
       refine sw<|pu (vi ((ob d j f m).2.2)) wN ?_
       exact f1
      ·intro _ az sj _
       iterate 14 intro _
       refine sw<|al Mf wN HR ?_
       intro Co p sl Cp sm sn
       exact FY sm ⟨_,_,_,_,_,_,_,_,_,_,_,_,_,_,_,_,rfl,(nT sj.size sl),sn⟩
      ·intro _ az Cq _
       rintro _ rfl _ rfl _ rfl _ rfl _ rfl _ rfl _ z' _ rfl _ rfl _ _ _ s8
       obtain ⟨so,sq,ss,sy,s0,s1,z'⟩:=z'
       obtain ⟨s2,s3,s4,s5,s6,s7,z'⟩:=z'
       obtain ⟨Cr,Cs,rfl,_⟩:=z'
       obtain ⟨Ct,Cu,rfl,iO,iP⟩:=KQ s8
       rintro _ _
       refine sw<|sv (GH ((ob d j f m).1) so sq ss sy s0 s1 s2 s3 s4 s5 s6 s7) wN uC iP ?_
       intro p s9 iQ Cv
       exact KW (by decide) ⟨_,iO,⟨_,_,_,_,_,_,_,_,_,_,_,_,_,_,_,iP⟩,s9,⟨_,_,_,_,_,_,_,_,_,_,_,_,_,_,_,iQ⟩⟩ ⟨_,rfl,iO,iQ⟩
      ·intro _ az Cw _
       rintro _ rfl _ rfl _ rfl _ rfl _ rfl _ rfl _ z' _ rfl _ rfl _ rfl _ _ sC
       obtain ⟨Cx,Cy,Cz,C0,C1,C2,z'⟩:=z'
       obtain ⟨C3,C4,C5,C6,C7,C8,z'⟩:=z'
       obtain ⟨sA,sB,rfl,_⟩:=z'
       obtain ⟨C9,CA,rfl,CB,CC⟩:=KQ sC
       rintro _ ⟨sD,sE,-,CD⟩
       have hz:=Kx sE
       subst sD
       intro _
       refine sw<|aw (vs sA ((ob d j f m).2.1).length sB) ?_
       exact f1
     ·intro _ az s
      have fb:=((gh.extk y).extk r).extk s
      rintro _ rfl _ rfl _ rfl _ rfl _ rfl _ rfl _ z' _ rfl _ rfl _ rfl _ rfl _ sF
      obtain ⟨CE,CF,CG,CH,CI,CJ,z'⟩:=z'
      obtain ⟨CK,CL,CM,CN,CO,CP,z'⟩:=z'
      obtain ⟨CQ,CR,rfl,_⟩:=z'
      obtain ⟨CS,CT,rfl,CU,CV⟩:=KQ sF
      rintro _ ⟨sG,sH,-,CW⟩
      have hz:=Kx sH
      subst sG
      rintro _ rfl
      refine sw<|aw (vi ((ob d j f m).2.2)) ?_
      refine uD<|rg<|uK<|uK ?_
      rcases bt ((g).getD (((Gt d (4+((m:Nat):Int))) % 5)).toNat Hd) with J|J
      ·rcases bf (decide ((ob d b f m).2.2=3)) with a3|a3
       ·have CX:=dF a3
        (have dq:=(KD (z:=Ik) ak ce b8 b9 hmm (Gt d 3)).1 J;exact Bool.noConfusion ((show (decide ((ob d b f m).2.2=3))=true by simp only [ob,fx,aU,dq,List.length_cons,List.length_nil,List.getD_cons_zero,Sv b8 b9,decide_true] <;> rfl).symm.trans a3))
       have CY:=dT a3
       rcases bf (decide ((ob d j f m).2.2=0)) with aE|aE
       ·have CZ:=dF aE
        refine Ga ([(99,[],[],(fun _ v _=>v=(vs P ([false,false,false,false,false]:List PBl).length Q))),(100,[],[],(fun _ v _=>v=(vi ((Gt d (4+((m:Nat):Int))) % 5)))),(101,[],[0,1],(fun _ v _=>v=(ve (vs P ([false,false,false,false,false]:List PBl).length Q) ((((Gt d (4+((m:Nat):Int))) % 5)).toNat*1)))),(102,[],[0,1,2],(fun _ v _=>v=(vb ((g).getD (((Gt d (4+((m:Nat):Int))) % 5)).toNat Hd)))),(103,[],[0,1,2,3],(fun _ v _=>v=(vb ((g).getD (((Gt d (4+((m:Nat):Int))) % 5)).toNat Hd)))),(104,[],[0,1,2,3,4],(fun _ v _=>v=(vi ((ob d b f m).2.2)))),(105,[],[0,1,2,3,4,5],(fun _ v _=>v=(vb (!(decide ((ob d b f m).2.2=3)))))),(106,[],[0,1,2,3,4,5,6],(fun _ v _=>v=(vb (!(decide ((ob d b f m).2.2=3)))))),(107,[],[0,1,2,3,4,5,6,7],(fun _ v _=>v=(vb (!(decide ((ob d b f m).2.2=3)))))),(108,[],[0,1,2,3,4,5,6,7,8],(fun _ v _=>v=(vs P ([false,false,false,false,false]:List PBl).length Q))),(109,[],[0,1,2,3,4,5,6,7,8],(fun _ v _=>v=(vi ((Gt d (4+((m:Nat):Int))) % 5)))),(110,[],[0,1,2,3,4,5,6,7,8,9,10],(fun _ v _=>v=(ve (vs P ([false,false,false,false,false]:List PBl).length Q) ((((Gt d (4+((m:Nat):Int))) % 5)).toNat*1)))),(111,[],[0,1,2,3,4,5,6,7,8,9,10,11],(fun _ v _=>v=(vb ((g).getD (((Gt d (4+((m:Nat):Int))) % 5)).toNat Hd)))),(112,[],[0,1,2,3,4,5,6,7,8,9,10,11,12],(fun _ v _=>v=(vb (!((g).getD (((Gt d (4+((m:Nat):Int))) % 5)).toNat Hd))))),(113,[],[0,1,2,3,4,5,6,7,8,9,10,11,12,13],(fun _ v _=>v=(vb (!((g).getD (((Gt d (4+((m:Nat):Int))) % 5)).toNat Hd))))),(114,[],[0,1,2,3,4,5,6,7,8,9,10,11,12,13,14],(fun _ v _=>v=U)),(115,[],[0,1,2,3,4,5,6,7,8,9,10,11,12,13,14,15],(fun _ v _=>v=U)),(116,[],[0,1,2,3,4,5,6,7,8,9,10,11,12,13,14,15,16],(fun _ v _=>v=U)),(117,[],[0,1,2,3,4,5,6,7,8,9,10,11,12,13,14,15,16,17],(fun _ v _=>v=U)),(118,[],[0,1,2,3,4,5,6,7,8,9,10,11,12,13,14,15,16,17,18],(fun _ v _=>v=U)),(119,[],[0,1,2,3,4,5,6,7,8,9,10,11,12,13,14,15,16,17,18,19],(fun _ v _=>v=U)),(120,[],[0,1,2,3,4,5,6,7,8,9,10,11,12,13,14,15,16,17,18,19,20],(fun _ v _=>v=U)),(121,[],[0,1,2,3,4,5,6,7,8,9,10,11,12,13,14,15,16,17,18,19,20,21],(fun _ v _=>v=U)),(122,[],[0,1,2,3,4,5,6,7,8,9,10,11,12,13,14,15,16,17,18,19,20,21,22],(fun _ v _=>v=U)),(123,[],[0,1,2,3,4,5,6,7,8,9,10,11,12,13,14,15,16,17,18,19,20,21,22,23],(fun _ v _=>v=U)),(124,[],[0,1,2,3,4,5,6,7,8,9,10,11,12,13,14,15,16,17,18,19,20,21,22,23,24],(fun _ v _=>v=U)),(125,[],[0,1,2,3,4,5,6,7,8,9,10,11,12,13,14,15,16,17,18,19,20,21,22,23,24,25],(fun _ v _=>v=U)),(126,[],[0,1,2,3,4,5,6,7,8,9,10,11,12,13,14,15,16,17,18,19,20,21,22],(fun _ v _=>v=U)),(127,[],[0,1,2,3,4,5,6,7,8,9,10,11,12,13,14,15,16,17,18,19,20,21,22,23,24,25,26,27],(fun _ v _=>v=U)),(128,[],[0,1,2,3,4,5,6,7,8,9,10,11,12,13,14,15,16,17,18,19,20,21,22,23,24,25,26,27,28],(fun _ v _=>v=U)),(129,[],[0,1,2,3,4,5,6,7,8,9,10,11,12,13,14,15,16,17,18,19,20,21,22,23,24,25,26,27,28,29],(fun _ v _=>v=(vb false))),(130,[],[0,1,2,3,4,5,6,7,8,9,10,11,12,13,14,15,16,17,18,19,20,21,22,23,24,25,26,27,28,29,30],(fun _ v _=>v=(vb false))),(131,[],[0,1,2,3,4,5,6,7,8,9,10,11,12,13,14,15,16,17,18,19,20,21,22,23,24,25,26,27,28,29,30,31],(fun _ v _=>v=(vb false))),(132,[],[0,1,2,3,4,5,6,7,8,9,10,11,12,13,14,15,16,17,18,19,20,21,22,23,24,25,26,27,28,29,30,31,32],(fun _ v _=>v=(vi ((ob d j f m).2.2)))),(133,[],[0,1,2,3,4,5,6,7,8,9,10,11,12,13,14,15,16,17,18,19,20,21,22,23,24,25,26,27,28,29,30,31,32,33],(fun _ v _=>v=(vb (decide ((ob d j f m).2.2=0))))),(134,[],[0,1,2,3,4,5,6,7,8,9,10,11,12,13,14,15,16,17,18,19,20,21,22,23,24,25,26,27,28,29,30,31,32,33,34],(fun _ v _=>v=(vb (decide ((ob d j f m).2.2=0))))),(135,[],[0,1,2,3,4,5,6,7,8,9,10,11,12,13,14,15,16,17,18,19,20,21,22,23,24,25,26,27,28,29,30,31,32,33,34,35],(fun _ v _=>v=U)),(136,[],[0,1,2,3,4,5,6,7,8,9,10,11,12,13,14,15,16,17,18,19,20,21,22,23,24,25,26,27,28,29,30,31,32,33,34,35],(fun _ v _=>v=U)),(137,[],[0,1,2,3,4,5,6,7,8,9,10,11,12,13,14,15,16,17,18,19,20,21,22,23,24,25,26,27,28,29,30,31,32,33,34,35],(fun _ v _=>v=U)),(138,[],[0,1,2,3,4,5,6,7,8,9,10,11,12,13,14,15,16,17,18,19,20,21,22,23,24,25,26,27,28,29,30,31,32,33,34,35,37,38],(fun _ v _=>v=U)),(139,[],[0,1,2,3,4,5,6,7,8,9,10,11,12,13,14,15,16,17,18,19,20,21,22,23,24,25,26,27,28,29,30,31,32,33,34,35,37,38,39],(fun _ v _=>v=U))]:GV) (fun _ A=>Keep az A) [] GU rfl (by kernel_rfl) (by kernel_rfl) ?_ (fun _ _ h=>h) (fun _ _ _ _ h _ k=>h.trans k) trivial ?_ ?_ ?_
        ·exact ⟨hV,hE,⟨hV,hE,⟨hV,hE,⟨hV,hE,⟨hV,hE,⟨hV,hE,⟨hV,hE,⟨hV,hE,⟨hV,hE,⟨hV,hE,⟨hV,hE,⟨hV,hE,⟨hV,hE,⟨hV,hE,⟨hV,hE,⟨hV,hE,⟨hV,hE,⟨hV,hE,⟨hV,hE,⟨hV,hE,⟨hV,hE,⟨hV,hE,⟨hV,hE,⟨hV,hE,⟨hV,hE,⟨hV,hE,⟨hV,hE,⟨hV,hE,⟨hV,hE,⟨hV,hE,⟨hV,hE,⟨hV,hE,⟨hV,hE,⟨hV,hE,⟨hV,hE,⟨hV,hE,⟨hV,hE,⟨hV,hE,⟨hV,hE,⟨hV,hE,⟨hV,hE,trivial⟩⟩⟩⟩⟩⟩⟩⟩⟩⟩⟩⟩⟩⟩⟩⟩⟩⟩⟩⟩⟩⟩⟩⟩⟩⟩⟩⟩⟩⟩⟩⟩⟩⟩⟩⟩⟩⟩⟩⟩⟩
        ·exact trivial
        ·refine ⟨?_,⟨?_,⟨?_,⟨?_,⟨?_,⟨?_,⟨?_,⟨?_,⟨?_,⟨?_,⟨?_,⟨?_,⟨?_,⟨?_,⟨?_,⟨?_,⟨?_,⟨?_,⟨?_,⟨?_,⟨?_,⟨?_,⟨?_,⟨?_,⟨?_,⟨?_,⟨?_,⟨?_,⟨?_,⟨?_,⟨?_,⟨?_,⟨?_,⟨?_,⟨?_,⟨?_,⟨?_,⟨?_,⟨?_,⟨?_,⟨?_,trivial⟩⟩⟩⟩⟩⟩⟩⟩⟩⟩⟩⟩⟩⟩⟩⟩⟩⟩⟩⟩⟩⟩⟩⟩⟩⟩⟩⟩⟩⟩⟩⟩⟩⟩⟩⟩⟩⟩⟩⟩⟩
         ·intro _ p Da _
          iterate 41 intro _
          refine sw<|mw (vs P ([false,false,false,false,false]:List PBl).length Q) ?_
          exact f1
         ·intro _ p Db _
          iterate 41 intro _
          refine sw<|mw (vi ((Gt d (4+((m:Nat):Int))) % 5)) ?_
          exact f1
         ·intro _ p sI _
          rintro _ rfl _ rfl;iterate 39 intro _
          refine sw ?_
          have sJ:=(gc (gc (gc (gc a2 y) r) s) sI)
          refine ix wN ((Gt d (4+((m:Nat):Int))) % 5) IA (Rd.of_own sJ) ?_
          exact f1
         ·intro _ p sL _
          rintro _ rfl _ rfl _ rfl;iterate 38 intro _
          refine sw ?_
          have sM:=(gc (gc (gc (gc a2 y) r) s) sL)
          refine GW (vb ((g).getD (((Gt d (4+((m:Nat):Int))) % 5)).toNat Hd)) wN rfl rfl rfl rfl HX (Rd.of_own sM) ((Jq (i:=0) Hh Hd (by first|rfl|simp|omega) (by decide) (by first|omega|(simp <;> omega))).trans rfl) ?_
          exact f1
         ·intro _ p Dc _
          rintro _ rfl _ rfl _ rfl _ rfl;iterate 37 intro _
          refine sw<|mw (vb ((g).getD (((Gt d (4+((m:Nat):Int))) % 5)).toNat Hd)) ?_
          exact f1
         ·intro _ p Dd _
          rintro _ rfl _ rfl _ rfl _ rfl _ rfl;iterate 36 intro _
          refine sw<|mv (vi ((ob d b f m).2.2)) (wS J) ?_
          exact f1
         ·intro _ p De _
          rintro _ rfl _ rfl _ rfl _ rfl _ rfl _ rfl;iterate 35 intro _
          refine sw<|pu (vb (!(decide ((ob d b f m).2.2=3)))) (wS J) ?_
          exact f1
         ·intro _ p Df _
          rintro _ rfl _ rfl _ rfl _ rfl _ rfl _ rfl _ rfl;iterate 34 intro _
          refine sw<|pk (vb (!(decide ((ob d b f m).2.2=3)))) wN J ?_
          exact f1
         ·intro _ p Dg _
          rintro _ rfl _ rfl _ rfl _ rfl _ rfl _ rfl _ rfl _ rfl;iterate 33 intro _
          refine sw<|mw (vb (!(decide ((ob d b f m).2.2=3)))) ?_
          exact f1
         ·intro _ p Dh _
          rintro _ rfl _ rfl _ rfl _ rfl _ rfl _ rfl _ rfl _ rfl _ rfl;iterate 32 intro _
          refine sw<|mv (vs P ([false,false,false,false,false]:List PBl).length Q) (wS (cA not a3)) ?_
          exact f1
         ·intro _ p Di _
          rintro _ rfl _ rfl _ rfl _ rfl _ rfl _ rfl _ rfl _ rfl _ rfl;iterate 32 intro _
          refine sw<|mv (vi ((Gt d (4+((m:Nat):Int))) % 5)) (wS (cA not a3)) ?_
          exact f1
         ·intro _ p sN _
          rintro _ rfl _ rfl _ rfl _ rfl _ rfl _ rfl _ rfl _ rfl _ rfl _ rfl _ rfl;iterate 30 intro _
          refine sw ?_
          have sO:=(gc (gc (gc (gc a2 y) r) s) sN)
          refine ix (wS (cA not a3)) ((Gt d (4+((m:Nat):Int))) % 5) IA (Rd.of_own sO) ?_
          exact f1
         ·intro _ p sP _
          rintro _ rfl _ rfl _ rfl _ rfl _ rfl _ rfl _ rfl _ rfl _ rfl _ rfl _ rfl _ rfl;iterate 29 intro _
          refine sw ?_
          have sQ:=(gc (gc (gc (gc a2 y) r) s) sP)
          refine GW (vb ((g).getD (((Gt d (4+((m:Nat):Int))) % 5)).toNat Hd)) (wS (cA not a3)) rfl rfl rfl rfl HX (Rd.of_own sQ) ((Jq (i:=0) Hh Hd (by first|rfl|simp|omega) (by decide) (by first|omega|(simp <;> omega))).trans rfl) ?_
          exact f1
         ·intro _ p Dj _
          rintro _ rfl _ rfl _ rfl _ rfl _ rfl _ rfl _ rfl _ rfl _ rfl _ rfl _ rfl _ rfl _ rfl;iterate 28 intro _
          refine sw<|pu (vb (!((g).getD (((Gt d (4+((m:Nat):Int))) % 5)).toNat Hd))) (wS (cA not a3)) ?_
          exact f1
         ·intro _ p Dk _
          rintro _ rfl _ rfl _ rfl _ rfl _ rfl _ rfl _ rfl _ rfl _ rfl _ rfl _ rfl _ rfl _ rfl _ rfl;iterate 27 intro _
          refine sw<|mv (vb (!((g).getD (((Gt d (4+((m:Nat):Int))) % 5)).toNat Hd))) (wS (cA not a3)) ?_
          exact f1
         ·intro _ p Dl _
          rintro _ rfl _ rfl _ rfl _ rfl _ rfl _ rfl _ rfl _ rfl _ rfl _ rfl _ rfl _ rfl _ rfl _ rfl _ rfl;iterate 26 intro _
          refine sw<|sk (cA not J) ?_
          exact f1
         ·intro _ p Dm _
          rintro _ rfl _ rfl _ rfl _ rfl _ rfl _ rfl _ rfl _ rfl _ rfl _ rfl _ rfl _ rfl _ rfl _ rfl _ rfl _ rfl;iterate 25 intro _
          refine sw<|sk (cA not J) ?_
          exact f1
         ·intro _ p Dn _
          rintro _ rfl _ rfl _ rfl _ rfl _ rfl _ rfl _ rfl _ rfl _ rfl _ rfl _ rfl _ rfl _ rfl _ rfl _ rfl _ rfl _ rfl;iterate 24 intro _
          refine sw<|sk (cA not J) ?_
          exact f1
         ·intro _ p Do _
          rintro _ rfl _ rfl _ rfl _ rfl _ rfl _ rfl _ rfl _ rfl _ rfl _ rfl _ rfl _ rfl _ rfl _ rfl _ rfl _ rfl _ rfl _ rfl;iterate 23 intro _
          refine sw<|su ?_
          exact f1
         ·intro _ p Dp _
          rintro _ rfl _ rfl _ rfl _ rfl _ rfl _ rfl _ rfl _ rfl _ rfl _ rfl _ rfl _ rfl _ rfl _ rfl _ rfl _ rfl _ rfl _ rfl _ rfl;iterate 22 intro _
          refine sw<|su ?_
          exact f1
         ·intro _ p Dq _
          rintro _ rfl _ rfl _ rfl _ rfl _ rfl _ rfl _ rfl _ rfl _ rfl _ rfl _ rfl _ rfl _ rfl _ rfl _ rfl _ rfl _ rfl _ rfl _ rfl _ rfl;iterate 21 intro _
          refine sw<|su ?_
          exact f1
         ·intro _ p Dr _
          rintro _ rfl _ rfl _ rfl _ rfl _ rfl _ rfl _ rfl _ rfl _ rfl _ rfl _ rfl _ rfl _ rfl _ rfl _ rfl _ rfl _ rfl _ rfl _ rfl _ rfl _ rfl;iterate 20 intro _
          refine sw<|sk (cA not J) ?_
          exact f1
         ·intro _ p Ds _
          rintro _ rfl _ rfl _ rfl _ rfl _ rfl _ rfl _ rfl _ rfl _ rfl _ rfl _ rfl _ rfl _ rfl _ rfl _ rfl _ rfl _ rfl _ rfl _ rfl _ rfl _ rfl _ rfl;iterate 19 intro _
          refine sw<|sk (cA not J) ?_
          exact f1
         ·intro _ p Dt _
          rintro _ rfl _ rfl _ rfl _ rfl _ rfl _ rfl _ rfl _ rfl _ rfl _ rfl _ rfl _ rfl _ rfl _ rfl _ rfl _ rfl _ rfl _ rfl _ rfl _ rfl _ rfl _ rfl _ rfl;iterate 18 intro _
          refine sw<|su ?_
          exact f1
         ·intro _ p Du _
          rintro _ rfl _ rfl _ rfl _ rfl _ rfl _ rfl _ rfl _ rfl _ rfl _ rfl _ rfl _ rfl _ rfl _ rfl _ rfl _ rfl _ rfl _ rfl _ rfl _ rfl _ rfl _ rfl _ rfl _ rfl;iterate 17 intro _
          refine sw<|su ?_
          exact f1
         ·intro _ p Dv _
          rintro _ rfl _ rfl _ rfl _ rfl _ rfl _ rfl _ rfl _ rfl _ rfl _ rfl _ rfl _ rfl _ rfl _ rfl _ rfl _ rfl _ rfl _ rfl _ rfl _ rfl _ rfl _ rfl _ rfl _ rfl _ rfl;iterate 16 intro _
          refine sw<|su ?_
          exact f1
         ·intro _ p Dw _
          rintro _ rfl _ rfl _ rfl _ rfl _ rfl _ rfl _ rfl _ rfl _ rfl _ rfl _ rfl _ rfl _ rfl _ rfl _ rfl _ rfl _ rfl _ rfl _ rfl _ rfl _ rfl _ rfl _ rfl _ rfl _ rfl _ rfl;iterate 15 intro _
          refine sw<|su ?_
          exact f1
         ·intro _ p Dx _
          rintro _ rfl _ rfl _ rfl _ rfl _ rfl _ rfl _ rfl _ rfl _ rfl _ rfl _ rfl _ rfl _ rfl _ rfl _ rfl _ rfl _ rfl _ rfl _ rfl _ rfl _ rfl _ rfl _ rfl;iterate 18 intro _
          refine sw<|su ?_
          exact f1
         ·intro _ p Dy _
          rintro _ rfl _ rfl _ rfl _ rfl _ rfl _ rfl _ rfl _ rfl _ rfl _ rfl _ rfl _ rfl _ rfl _ rfl _ rfl _ rfl _ rfl _ rfl _ rfl _ rfl _ rfl _ rfl _ rfl _ rfl _ rfl _ rfl _ rfl _ rfl;iterate 13 intro _
          refine sw<|su ?_
          exact f1
         ·intro _ p Dz _
          iterate 29 rintro _ rfl
          iterate 12 intro _
          refine sw<|sk (cA not J) ?_
          exact f1
         ·intro _ p D0 _
          iterate 30 rintro _ rfl
          iterate 11 intro _
          refine sw<|pf (vb false) (wS (cA not a3)) (cA not J) ?_
          exact f1
         ·intro _ p D1 _
          iterate 31 rintro _ rfl
          intro _ _ _ _ _ _ _ _ _ _
          refine sw<|pf (vb false) wN (cA not a3) ?_
          exact f1
         ·intro _ p D2 _
          iterate 32 rintro _ rfl
          intro _ _ _ _ _ _ _ _ _
          refine sw<|mw (vb false) ?_
          exact f1
         ·intro _ p D3 _
          iterate 33 rintro _ rfl
          intro _ _ _ _ _ _ _ _
          refine sw<|mv (vi ((ob d j f m).2.2)) (wS F1) ?_
          exact f1
         ·intro _ p D4 _
          iterate 34 rintro _ rfl
          intro _ _ _ _ _ _ _
          refine sw<|pu (vb (decide ((ob d j f m).2.2=0))) (wS F1) ?_
          exact f1
         ·intro _ p D5 _
          iterate 35 rintro _ rfl
          intro _ _ _ _ _ _
          refine sw<|mv (vb (decide ((ob d j f m).2.2=0))) (wS F1) ?_
          exact f1
         ·intro _ p D6 _
          iterate 36 rintro _ rfl
          intro _ _ _ _ _
          refine sw<|sk aE ?_
          exact f1
         ·intro _ p D7 _
          iterate 36 rintro _ rfl
          intro _ _ _ _ _
          refine sw<|sk aE ?_
          exact f1
         ·intro _ p D8 _
          iterate 36 rintro _ rfl
          intro _ _ _ _ _
          refine sw<|sk aE ?_
          exact f1
         ·intro _ p D9 _
          iterate 36 rintro _ rfl
          rintro _ _ rfl _ rfl _ _
          refine sw<|sk aE ?_
          exact f1
         ·intro _ p DA _
          iterate 36 rintro _ rfl
          rintro _ _ rfl _ rfl _ rfl _
          refine sw<|sk aE ?_
          exact f1
        ·intro _ p aX
         iterate 41 rintro _ rfl
         refine sw ?_
         iterate 2 refine sk aE ?_
         refine pf (vb false) (wS F1) aE ?_
         refine pf (vb false) wN F1 ?_
         refine n2<|cf F1<|y1<|mw (vs P ([false,false,false,false,false]:List PBl).length Q) ?_
         refine mw (vi ((Gt d (4+((m:Nat):Int))) % 5)) ?_
         have cF:=(gc (gc (gc (gc a2 y) r) s) aX)
         refine ix wN ((Gt d (4+((m:Nat):Int))) % 5) IA (Rd.of_own cF) ?_
         refine Ku Hh (g) ((((Gt d (4+((m:Nat):Int))) % 5)).toNat) 0 Hd (true) (vb true) [(vb true)] wN rfl rfl rfl (by first|rfl|simp|omega) rfl rfl (Kc rfl Lb) JH cF (by first|omega|(simp only [List.length_append,List.length_replicate,List.length_take,List.length_set,List.length_map];omega)) (by simp) (by simp) rfl ?_
         intro gi bA sR
         have sS:=(fb.extk aX).ext bA (fun k hk=>nT (z9 aO a0 af aj I H M D R) (uI ae k hk).1)
         refine uD<|rg<|uG ?_
         have sT:=(((fa.kp s).kp aX).ch bA (fun h=>by have:=(uI ae _ h).2;have:=nT (z2 a1 y) eZ;omega))
         refine lN (GH ((ob d b f m).1) bG bH bI bJ bK bL bM bN bO bP bQ bR) wN wb uC sT ?_
         have dr:=(((((cd.kp y).kp r).kp s).kp aX).ch bA (fun h=>by have:=(uI ae _ h).1;have:=nL aI (z5 I H M D R);omega))
         refine sv (GH ((ob d b f m).1) bG bH bI bJ bK bL bM bN bO bP bQ bR) wN uC dr ?_
         intro gj bT sU DB
         have sV:=sS.ext bT (fun k hk=>by subst hk;exact nT (z3 aO a0 af) an)
         refine uD<|uB<|rg<|uG ?_
         refine mw (vi ((m:Nat):Int)) ?_
         refine ar (((m:Nat):Int)+1) wN ?_
         refine aw (vi (((m:Nat):Int)+1)) ?_
         refine uD ?_
         have sW:=(OLv.ch (OLv.ch (OLv.kp (OLv.kp (OLv.kp cn r) s) aX) bA (fun g b6 b7 hk=>by have aJ:=(uI ae g hk).1;have gk:=(Nat.le_refl ay.heap.size);omega)) bT (fun g b6 b7 hk=>by have aJ:=nL aI (z3 I H M);omega))
         have iR:(f:List (PFrame))=f:=by rfl
         have gm:(f).length=(f).length:=by rw [← iR];try (first|rfl|simp only [List.length_set]|simp)
         have iS:=(gc (gc (gc (gc dV y) r) s) aX)
         have sX:=(FN (tC iS bA (fun g hg hlt hk=>Ii iS cF (by decide) g hg hk)) dr (by decide) bT)
         have gn:(j.Sn:List UInt8)=j.Sn:=by rfl
         have iT:(j.Sn).length=(j.Sn).length:=by rw [← gn];try (first|rfl|simp only [List.length_set]|simp)
         have iU:=(gc (gc (gc (gc dW y) r) s) aX)
         have sY:=(FN (tC iU bA (fun g hg hlt hk=>Ii iU cF (by decide) g hg hk)) dr (by decide) bT)
         have gp:(j.Old.Win.Bits:List Int)=j.Old.Win.Bits:=by rfl
         have iW:(j.Old.Win.Bits).length=(j.Old.Win.Bits).length:=by rw [← gp];try (first|rfl|simp only [List.length_set]|simp)
         have iX:=(gc (gc (gc (gc dX y) r) s) aX)
         have sZ:=(FN (tC iX bA (fun g hg hlt hk=>Ii iX cF (by decide) g hg hk)) dr (by decide) bT)
         have gq:(j.Next:List UInt8)=j.Next:=by rfl
         have iY:(j.Next).length=(j.Next).length:=by rw [← gq];try (first|rfl|simp only [List.length_set]|simp)
         have iZ:=(gc (gc (gc (gc dY y) r) s) aX)
         have ta:=(FN (tC iZ bA (fun g hg hlt hk=>Ii iZ cF (by decide) g hg hk)) dr (by decide) bT)
         have gr:(j.Cur.Key:List UInt8)=j.Cur.Key:=by rfl
         have ja:(j.Cur.Key).length=(j.Cur.Key).length:=by rw [← gr];try (first|rfl|simp only [List.length_set]|simp)
         have jb:=(gc (gc (gc (gc dZ y) r) s) aX)
         have tb:=(FN (tC jb bA (fun g hg hlt hk=>Ii jb cF (by decide) g hg hk)) dr (by decide) bT)
         have gs:(j.Cur.Win.Bits:List Int)=j.Cur.Win.Bits:=by rfl
         have jc:(j.Cur.Win.Bits).length=(j.Cur.Win.Bits).length:=by rw [← gs];try (first|rfl|simp only [List.length_set]|simp)
         have jd:=(gc (gc (gc (gc ea y) r) s) aX)
         have tc:=(FN (tC jd bA (fun g hg hlt hk=>Ii jd cF (by decide) g hg hk)) dr (by decide) bT)
         have gu:(j.Old.Key:List UInt8)=j.Old.Key:=by rfl
         have je:(j.Old.Key).length=(j.Old.Key).length:=by rw [← gu];try (first|rfl|simp only [List.length_set]|simp)
         have dz:=fun (E sz n:Nat) (v:Value) (K:List Value) (o:World.ownsRow O am.heap.size E sz v n K) (ai:World.ownsRow O am.heap.size E sz v n K)=>(tC (tC (gc (gc o s) aX) bA (fun g hg hlt hk=>by have b6:=(uI ai g hg).1;have b7:=(uI ae g hk).2;have aJ:=(z2 a1 y);omega)) bT (ne1 ai (nL aI (z8 I H M D R av a1 y))))
         have td:=(dz _ _ _ _ _ c7 c7)
         have jf:(((ob d b f m).1).Sn:List UInt8)=((ob d b f m).1).Sn:=by rfl
         have te:=(dz _ _ _ _ _ cD cD)
         have jg:(((((ob d b f m).1).Old).Win).Bits:List Int)=((ob d b f m).1).Old.Win.Bits:=by rfl
         have tf:=(dz _ _ _ _ _ cE cE)
         have jh:(((ob d b f m).1).Next:List UInt8)=((ob d b f m).1).Next:=by rfl
         have tg:=(dz _ _ _ _ _ c8 c8)
         have ji:((((ob d b f m).1).Cur).Key:List UInt8)=((ob d b f m).1).Cur.Key:=by rfl
         have th:=(dz _ _ _ _ _ c9 c9)
         have jj:(((((ob d b f m).1).Cur).Win).Bits:List Int)=((ob d b f m).1).Cur.Win.Bits:=by rfl
         have ti:=(dz _ _ _ _ _ cC cC)
         have jk:((((ob d b f m).1).Old).Key:List UInt8)=((ob d b f m).1).Old.Key:=by rfl
         have tj:=(tC sR bT (ne1 ae (nL aI (z5 I H M D R))))
         have tk:(((g).set ((((Gt d (4+((m:Nat):Int))) % 5)).toNat) true):List PBl)=((g).set ((((Gt d (4+((m:Nat):Int))) % 5)).toNat) true):=by rfl
         have tl:=((((((bc.kp y).kp r).kp s).kp aX).ch bA (fun h=>by have:=(uI ae _ h).1;have:=nL a7 (z6 aj I H M D R);omega)).ch bT (nN (nL a7 (an))))
         refine FX (w0:=b4) [(0,(vs ax d.length a6)),(3,(vp aP 0)),(4,(vp aQ 0)),(5,(.slice F (f).length G)),(10,(vs P ([false,false,false,false,false]:List PBl).length Q)),(11,(vi (((m+1):Nat):Int)))] ?_ ?_ ?_
         · exact ⟨rfl,rfl,rfl,(cA (fun m:Nat=>Value.slice F m G) gm),rfl,(cA (Value.int .i64) (show ((((m:Nat):Int)+1):Int)=(((m+1):Nat):Int) by omega)),trivial⟩
         · have d0:=z11 a0 af aj I H M D R av a1 y
           exact fun u=>⟨(m+1),((ob d b f m).1),((g).set ((((Gt d (4+((m:Nat):Int))) % 5)).toNat) true),j,f,u,F,G,ab3_1x,cb3_1x,ab3_11x,cb3_11x,ab3_14x,cb3_14x,ab3_3x,cb3_3x,ab3_6x,cb3_6x,ab3_8x,cb3_8x,bG,bH,bO,bP,bQ,bR,bI,bJ,bK,bL,bM,bN,rfl,sV,((((((((Ch.refl (fun k=>aM.heap.size≤k) ah).ext a1 (fun k hk=>hk)).extk y).extk r).extk s).extk aX).ext bA (fun k hk=>nT (z7 af aj I H M D R) (uI ae k hk).1)).ext bT (fun k hk=>by subst hk;exact nT af.size an)),(by omega),(by first|with_reducible exact Qt ak|(have hz:=(KD (z:=Ik) ak ce b8 b9 hmm (Gt d 3)).2.2;rw [← aU] at hz;exact hz)),(by first|exact cm|exact bE),(by first|exact aU|exact cs),⟨(by rw [← gm,← iR];exact sW),(by rw [← gm];first|exact eE|(simp only [List.length_append,List.length_take,List.length_replicate];omega))⟩,⟨(by rw [← iT,← gn];exact sX),(by rw [← iT];first|exact dj|(simp only [List.length_append,List.length_take,List.length_replicate];omega))⟩,⟨(by rw [← iW,← gp];exact sY),(by rw [← iW];first|exact dk|(simp only [List.length_append,List.length_take,List.length_replicate];omega))⟩,⟨(by rw [← iY,← gq];exact sZ),(by rw [← iY];first|exact dl|(simp only [List.length_append,List.length_take,List.length_replicate];omega))⟩,⟨(by rw [← ja,← gr];exact ta),(by rw [← ja];first|exact dm|(simp only [List.length_append,List.length_take,List.length_replicate];omega))⟩,⟨(by rw [← jc,← gs];exact tb),(by rw [← jc];first|exact dn|(simp only [List.length_append,List.length_take,List.length_replicate];omega))⟩,⟨(by rw [← je,← gu];exact tc),(by rw [← je];first|exact dp|(simp only [List.length_append,List.length_take,List.length_replicate];omega))⟩,(jf ▸ ⟨(tA td d0),eT⟩),(jg ▸ ⟨(tA te d0),eX⟩),(jh ▸ ⟨(tA tf d0),eY⟩),(ji ▸ ⟨(tA tg d0),eU⟩),(jj ▸ ⟨(tA th d0),eV⟩),(jk ▸ ⟨(tA ti d0),eW⟩),(by rw [← tk];exact tj),(by have hb:=tl;first|exact hb|(rw [gn,gp,gq,gr,gs,gu] at hb;exact hb)),(by have hb:=sU;first|exact hb|(rw [jf,jg,jh,ji,jj,jk] at hb;exact hb))⟩
         · show (20 - (((m+1):Nat):Int)).toNat < (20 - ((m:Nat):Int)).toNat;omega
       have DC:=dT aE
       refine Ga ([(99,[],[],(fun _ v _=>v=(vs P ([false,false,false,false,false]:List PBl).length Q))),(100,[],[],(fun _ v _=>v=(vi ((Gt d (4+((m:Nat):Int))) % 5)))),(101,[],[0,1],(fun _ v _=>v=(ve (vs P ([false,false,false,false,false]:List PBl).length Q) ((((Gt d (4+((m:Nat):Int))) % 5)).toNat*1)))),(102,[],[0,1,2],(fun _ v _=>v=(vb ((g).getD (((Gt d (4+((m:Nat):Int))) % 5)).toNat Hd)))),(103,[],[0,1,2,3],(fun _ v _=>v=(vb ((g).getD (((Gt d (4+((m:Nat):Int))) % 5)).toNat Hd)))),(104,[],[0,1,2,3,4],(fun _ v _=>v=(vi ((ob d b f m).2.2)))),(105,[],[0,1,2,3,4,5],(fun _ v _=>v=(vb (!(decide ((ob d b f m).2.2=3)))))),(106,[],[0,1,2,3,4,5,6],(fun _ v _=>v=(vb (!(decide ((ob d b f m).2.2=3)))))),(107,[],[0,1,2,3,4,5,6,7],(fun _ v _=>v=(vb (!(decide ((ob d b f m).2.2=3)))))),(108,[],[0,1,2,3,4,5,6,7,8],(fun _ v _=>v=(vs P ([false,false,false,false,false]:List PBl).length Q))),(109,[],[0,1,2,3,4,5,6,7,8],(fun _ v _=>v=(vi ((Gt d (4+((m:Nat):Int))) % 5)))),(110,[],[0,1,2,3,4,5,6,7,8,9,10],(fun _ v _=>v=(ve (vs P ([false,false,false,false,false]:List PBl).length Q) ((((Gt d (4+((m:Nat):Int))) % 5)).toNat*1)))),(111,[],[0,1,2,3,4,5,6,7,8,9,10,11],(fun _ v _=>v=(vb ((g).getD (((Gt d (4+((m:Nat):Int))) % 5)).toNat Hd)))),(112,[],[0,1,2,3,4,5,6,7,8,9,10,11,12],(fun _ v _=>v=(vb (!((g).getD (((Gt d (4+((m:Nat):Int))) % 5)).toNat Hd))))),(113,[],[0,1,2,3,4,5,6,7,8,9,10,11,12,13],(fun _ v _=>v=(vb (!((g).getD (((Gt d (4+((m:Nat):Int))) % 5)).toNat Hd))))),(114,[],[0,1,2,3,4,5,6,7,8,9,10,11,12,13,14],(fun _ v _=>v=U)),(115,[],[0,1,2,3,4,5,6,7,8,9,10,11,12,13,14,15],(fun _ v _=>v=U)),(116,[],[0,1,2,3,4,5,6,7,8,9,10,11,12,13,14,15,16],(fun _ v _=>v=U)),(117,[],[0,1,2,3,4,5,6,7,8,9,10,11,12,13,14,15,16,17],(fun _ v _=>v=U)),(118,[],[0,1,2,3,4,5,6,7,8,9,10,11,12,13,14,15,16,17,18],(fun _ v _=>v=U)),(119,[],[0,1,2,3,4,5,6,7,8,9,10,11,12,13,14,15,16,17,18,19],(fun _ v _=>v=U)),(120,[],[0,1,2,3,4,5,6,7,8,9,10,11,12,13,14,15,16,17,18,19,20],(fun _ v _=>v=U)),(121,[],[0,1,2,3,4,5,6,7,8,9,10,11,12,13,14,15,16,17,18,19,20,21],(fun _ v _=>v=U)),(122,[],[0,1,2,3,4,5,6,7,8,9,10,11,12,13,14,15,16,17,18,19,20,21,22],(fun _ v _=>v=U)),(123,[],[0,1,2,3,4,5,6,7,8,9,10,11,12,13,14,15,16,17,18,19,20,21,22,23],(fun _ v _=>v=U)),(124,[],[0,1,2,3,4,5,6,7,8,9,10,11,12,13,14,15,16,17,18,19,20,21,22,23,24],(fun _ v _=>v=U)),(125,[],[0,1,2,3,4,5,6,7,8,9,10,11,12,13,14,15,16,17,18,19,20,21,22,23,24,25],(fun _ v _=>v=U)),(126,[],[0,1,2,3,4,5,6,7,8,9,10,11,12,13,14,15,16,17,18,19,20,21,22],(fun _ v _=>v=U)),(127,[],[0,1,2,3,4,5,6,7,8,9,10,11,12,13,14,15,16,17,18,19,20,21,22,23,24,25,26,27],(fun _ v _=>v=U)),(128,[],[0,1,2,3,4,5,6,7,8,9,10,11,12,13,14,15,16,17,18,19,20,21,22,23,24,25,26,27,28],(fun _ v _=>v=U)),(129,[],[0,1,2,3,4,5,6,7,8,9,10,11,12,13,14,15,16,17,18,19,20,21,22,23,24,25,26,27,28,29],(fun _ v _=>v=(vb false))),(130,[],[0,1,2,3,4,5,6,7,8,9,10,11,12,13,14,15,16,17,18,19,20,21,22,23,24,25,26,27,28,29,30],(fun _ v _=>v=(vb false))),(131,[],[0,1,2,3,4,5,6,7,8,9,10,11,12,13,14,15,16,17,18,19,20,21,22,23,24,25,26,27,28,29,30,31],(fun _ v _=>v=(vb false))),(132,[],[0,1,2,3,4,5,6,7,8,9,10,11,12,13,14,15,16,17,18,19,20,21,22,23,24,25,26,27,28,29,30,31,32],(fun _ v _=>v=(vi ((ob d j f m).2.2)))),(133,[],[0,1,2,3,4,5,6,7,8,9,10,11,12,13,14,15,16,17,18,19,20,21,22,23,24,25,26,27,28,29,30,31,32,33],(fun _ v _=>v=(vb (decide ((ob d j f m).2.2=0))))),(134,[],[0,1,2,3,4,5,6,7,8,9,10,11,12,13,14,15,16,17,18,19,20,21,22,23,24,25,26,27,28,29,30,31,32,33,34],(fun _ v _=>v=(vb (decide ((ob d j f m).2.2=0))))),(135,[],[0,1,2,3,4,5,6,7,8,9,10,11,12,13,14,15,16,17,18,19,20,21,22,23,24,25,26,27,28,29,30,31,32,33,34,35],(fun _ v _=>v=(va [(vi j.Role),(vs ab3_1x (j.Sn).length cb3_1x),(vi j.Cur.N),(vs ab3_3x (j.Cur.Key).length cb3_3x),(vi j.Cur.Seq),(vi j.Cur.Win.Top),(vs ab3_6x (j.Cur.Win.Bits).length cb3_6x),(vi j.Old.N),(vs ab3_8x (j.Old.Key).length cb3_8x),(vi j.Old.Seq),(vi j.Old.Win.Top),(vs ab3_11x (j.Old.Win.Bits).length cb3_11x),(vb j.HasOld),(vi j.Until),(vs ab3_14x (j.Next).length cb3_14x)]))),(136,[],[0,1,2,3,4,5,6,7,8,9,10,11,12,13,14,15,16,17,18,19,20,21,22,23,24,25,26,27,28,29,30,31,32,33,34,35],(fun _ v _=>v=(vs F (f).length G))),(137,[],[0,1,2,3,4,5,6,7,8,9,10,11,12,13,14,15,16,17,18,19,20,21,22,23,24,25,26,27,28,29,30,31,32,33,34,35],(fun _ v _=>v=(vi ((Gt d (4+((m:Nat):Int))) % 5)))),(138,[],[0,1,2,3,4,5,6,7,8,9,10,11,12,13,14,15,16,17,18,19,20,21,22,23,24,25,26,27,28,29,30,31,32,33,34,35,37,38],(fun _ v _=>v=(ve (vs F (f).length G) ((((Gt d (4+((m:Nat):Int))) % 5)).toNat*11)))),(139,[],[0,1,2,3,4,5,6,7,8,9,10,11,12,13,14,15,16,17,18,19,20,21,22,23,24,25,26,27,28,29,30,31,32,33,34,35,37,38,39],(fun _ v _=>v=(va [(vi ((fx d f m).Kind)),(vi ((fx d f m).Id)),(vs cv (fx d f m).Cn.length cw),(vs cx (fx d f m).Sn.length cy),(vi ((fx d f m).Tick)),(vs cz (fx d f m).Cookie.length c0),(vs c1 (fx d f m).Proof.length c2),(vi ((fx d f m).Epoch)),(vi ((fx d f m).Seq)),(vs c3 (fx d f m).Body.length c4),(vs c5 (fx d f m).Tag.length c6)])))]:GV) (fun _ A=>Keep az A) [] GU rfl (by kernel_rfl) (by kernel_rfl) ?_ (fun _ _ h=>h) (fun _ _ _ _ h _ k=>h.trans k) trivial ?_ ?_ ?_
       ·exact ⟨hV,hE,⟨hV,hE,⟨hV,hE,⟨hV,hE,⟨hV,hE,⟨hV,hE,⟨hV,hE,⟨hV,hE,⟨hV,hE,⟨hV,hE,⟨hV,hE,⟨hV,hE,⟨hV,hE,⟨hV,hE,⟨hV,hE,⟨hV,hE,⟨hV,hE,⟨hV,hE,⟨hV,hE,⟨hV,hE,⟨hV,hE,⟨hV,hE,⟨hV,hE,⟨hV,hE,⟨hV,hE,⟨hV,hE,⟨hV,hE,⟨hV,hE,⟨hV,hE,⟨hV,hE,⟨hV,hE,⟨hV,hE,⟨hV,hE,⟨hV,hE,⟨hV,hE,⟨hV,hE,⟨hV,hE,⟨hV,hE,⟨hV,hE,⟨hV,hE,⟨hV,hE,trivial⟩⟩⟩⟩⟩⟩⟩⟩⟩⟩⟩⟩⟩⟩⟩⟩⟩⟩⟩⟩⟩⟩⟩⟩⟩⟩⟩⟩⟩⟩⟩⟩⟩⟩⟩⟩⟩⟩⟩⟩⟩
       ·exact trivial
       ·refine ⟨?_,⟨?_,⟨?_,⟨?_,⟨?_,⟨?_,⟨?_,⟨?_,⟨?_,⟨?_,⟨?_,⟨?_,⟨?_,⟨?_,⟨?_,⟨?_,⟨?_,⟨?_,⟨?_,⟨?_,⟨?_,⟨?_,⟨?_,⟨?_,⟨?_,⟨?_,⟨?_,⟨?_,⟨?_,⟨?_,⟨?_,⟨?_,⟨?_,⟨?_,⟨?_,⟨?_,⟨?_,⟨?_,⟨?_,⟨?_,⟨?_,trivial⟩⟩⟩⟩⟩⟩⟩⟩⟩⟩⟩⟩⟩⟩⟩⟩⟩⟩⟩⟩⟩⟩⟩⟩⟩⟩⟩⟩⟩⟩⟩⟩⟩⟩⟩⟩⟩⟩⟩⟩⟩
        ·intro _ p DD _
         iterate 41 intro _
         refine sw<|mw (vs P ([false,false,false,false,false]:List PBl).length Q) ?_
         exact f1
        ·intro _ p DE _
         iterate 41 intro _
         refine sw<|mw (vi ((Gt d (4+((m:Nat):Int))) % 5)) ?_
         exact f1
        ·intro _ p tm _
         rintro _ rfl _ rfl;iterate 39 intro _
         refine sw ?_
         have tn:=(gc (gc (gc (gc a2 y) r) s) tm)
         refine ix wN ((Gt d (4+((m:Nat):Int))) % 5) IA (Rd.of_own tn) ?_
         exact f1
        ·intro _ p tp _
         rintro _ rfl _ rfl _ rfl;iterate 38 intro _
         refine sw ?_
         have tq:=(gc (gc (gc (gc a2 y) r) s) tp)
         refine GW (vb ((g).getD (((Gt d (4+((m:Nat):Int))) % 5)).toNat Hd)) wN rfl rfl rfl rfl HX (Rd.of_own tq) ((Jq (i:=0) Hh Hd (by first|rfl|simp|omega) (by decide) (by first|omega|(simp <;> omega))).trans rfl) ?_
         exact f1
        ·intro _ p DF _
         rintro _ rfl _ rfl _ rfl _ rfl;iterate 37 intro _
         refine sw<|mw (vb ((g).getD (((Gt d (4+((m:Nat):Int))) % 5)).toNat Hd)) ?_
         exact f1
        ·intro _ p DG _
         rintro _ rfl _ rfl _ rfl _ rfl _ rfl;iterate 36 intro _
         refine sw<|mv (vi ((ob d b f m).2.2)) (wS J) ?_
         exact f1
        ·intro _ p DH _
         rintro _ rfl _ rfl _ rfl _ rfl _ rfl _ rfl;iterate 35 intro _
         refine sw<|pu (vb (!(decide ((ob d b f m).2.2=3)))) (wS J) ?_
         exact f1
        ·intro _ p DI _
         rintro _ rfl _ rfl _ rfl _ rfl _ rfl _ rfl _ rfl;iterate 34 intro _
         refine sw<|pk (vb (!(decide ((ob d b f m).2.2=3)))) wN J ?_
         exact f1
        ·intro _ p DJ _
         rintro _ rfl _ rfl _ rfl _ rfl _ rfl _ rfl _ rfl _ rfl;iterate 33 intro _
         refine sw<|mw (vb (!(decide ((ob d b f m).2.2=3)))) ?_
         exact f1
        ·intro _ p DK _
         rintro _ rfl _ rfl _ rfl _ rfl _ rfl _ rfl _ rfl _ rfl _ rfl;iterate 32 intro _
         refine sw<|mv (vs P ([false,false,false,false,false]:List PBl).length Q) (wS (cA not a3)) ?_
         exact f1
        ·intro _ p DL _
         rintro _ rfl _ rfl _ rfl _ rfl _ rfl _ rfl _ rfl _ rfl _ rfl;iterate 32 intro _
         refine sw<|mv (vi ((Gt d (4+((m:Nat):Int))) % 5)) (wS (cA not a3)) ?_
         exact f1
        ·intro _ p tr _
         rintro _ rfl _ rfl _ rfl _ rfl _ rfl _ rfl _ rfl _ rfl _ rfl _ rfl _ rfl;iterate 30 intro _
         refine sw ?_
         have ts:=(gc (gc (gc (gc a2 y) r) s) tr)
         refine ix (wS (cA not a3)) ((Gt d (4+((m:Nat):Int))) % 5) IA (Rd.of_own ts) ?_
         exact f1
        ·intro _ p tt _
         rintro _ rfl _ rfl _ rfl _ rfl _ rfl _ rfl _ rfl _ rfl _ rfl _ rfl _ rfl _ rfl;iterate 29 intro _
         refine sw ?_
         have tu:=(gc (gc (gc (gc a2 y) r) s) tt)
         refine GW (vb ((g).getD (((Gt d (4+((m:Nat):Int))) % 5)).toNat Hd)) (wS (cA not a3)) rfl rfl rfl rfl HX (Rd.of_own tu) ((Jq (i:=0) Hh Hd (by first|rfl|simp|omega) (by decide) (by first|omega|(simp <;> omega))).trans rfl) ?_
         exact f1
        ·intro _ p DM _
         rintro _ rfl _ rfl _ rfl _ rfl _ rfl _ rfl _ rfl _ rfl _ rfl _ rfl _ rfl _ rfl _ rfl;iterate 28 intro _
         refine sw<|pu (vb (!((g).getD (((Gt d (4+((m:Nat):Int))) % 5)).toNat Hd))) (wS (cA not a3)) ?_
         exact f1
        ·intro _ p DN _
         rintro _ rfl _ rfl _ rfl _ rfl _ rfl _ rfl _ rfl _ rfl _ rfl _ rfl _ rfl _ rfl _ rfl _ rfl;iterate 27 intro _
         refine sw<|mv (vb (!((g).getD (((Gt d (4+((m:Nat):Int))) % 5)).toNat Hd))) (wS (cA not a3)) ?_
         exact f1
        ·intro _ p DO _
         rintro _ rfl _ rfl _ rfl _ rfl _ rfl _ rfl _ rfl _ rfl _ rfl _ rfl _ rfl _ rfl _ rfl _ rfl _ rfl;iterate 26 intro _
         refine sw<|sk (cA not J) ?_
         exact f1
        ·intro _ p DP _
         rintro _ rfl _ rfl _ rfl _ rfl _ rfl _ rfl _ rfl _ rfl _ rfl _ rfl _ rfl _ rfl _ rfl _ rfl _ rfl _ rfl;iterate 25 intro _
         refine sw<|sk (cA not J) ?_
         exact f1
        ·intro _ p DQ _
         rintro _ rfl _ rfl _ rfl _ rfl _ rfl _ rfl _ rfl _ rfl _ rfl _ rfl _ rfl _ rfl _ rfl _ rfl _ rfl _ rfl _ rfl;iterate 24 intro _
         refine sw<|sk (cA not J) ?_
         exact f1
        ·intro _ p DR _
         rintro _ rfl _ rfl _ rfl _ rfl _ rfl _ rfl _ rfl _ rfl _ rfl _ rfl _ rfl _ rfl _ rfl _ rfl _ rfl _ rfl _ rfl _ rfl;iterate 23 intro _
         refine sw<|su ?_
         exact f1
        ·intro _ p DS _
         rintro _ rfl _ rfl _ rfl _ rfl _ rfl _ rfl _ rfl _ rfl _ rfl _ rfl _ rfl _ rfl _ rfl _ rfl _ rfl _ rfl _ rfl _ rfl _ rfl;iterate 22 intro _
         refine sw<|su ?_
         exact f1
        ·intro _ p DT _
         rintro _ rfl _ rfl _ rfl _ rfl _ rfl _ rfl _ rfl _ rfl _ rfl _ rfl _ rfl _ rfl _ rfl _ rfl _ rfl _ rfl _ rfl _ rfl _ rfl _ rfl;iterate 21 intro _
         refine sw<|su ?_
         exact f1
        ·intro _ p DU _
         rintro _ rfl _ rfl _ rfl _ rfl _ rfl _ rfl _ rfl _ rfl _ rfl _ rfl _ rfl _ rfl _ rfl _ rfl _ rfl _ rfl _ rfl _ rfl _ rfl _ rfl _ rfl;iterate 20 intro _
         refine sw<|sk (cA not J) ?_
         exact f1
        ·intro _ p DV _
         rintro _ rfl _ rfl _ rfl _ rfl _ rfl _ rfl _ rfl _ rfl _ rfl _ rfl _ rfl _ rfl _ rfl _ rfl _ rfl _ rfl _ rfl _ rfl _ rfl _ rfl _ rfl _ rfl;iterate 19 intro _
         refine sw<|sk (cA not J) ?_
         exact f1
        ·intro _ p DW _
         rintro _ rfl _ rfl _ rfl _ rfl _ rfl _ rfl _ rfl _ rfl _ rfl _ rfl _ rfl _ rfl _ rfl _ rfl _ rfl _ rfl _ rfl _ rfl _ rfl _ rfl _ rfl _ rfl _ rfl;iterate 18 intro _
         refine sw<|su ?_
         exact f1
        ·intro _ p DX _
         rintro _ rfl _ rfl _ rfl _ rfl _ rfl _ rfl _ rfl _ rfl _ rfl _ rfl _ rfl _ rfl _ rfl _ rfl _ rfl _ rfl _ rfl _ rfl _ rfl _ rfl _ rfl _ rfl _ rfl _ rfl;iterate 17 intro _
         refine sw<|su ?_
         exact f1
        ·intro _ p DY _
         rintro _ rfl _ rfl _ rfl _ rfl _ rfl _ rfl _ rfl _ rfl _ rfl _ rfl _ rfl _ rfl _ rfl _ rfl _ rfl _ rfl _ rfl _ rfl _ rfl _ rfl _ rfl _ rfl _ rfl _ rfl _ rfl;iterate 16 intro _
         refine sw<|su ?_
         exact f1
        ·intro _ p DZ _
         rintro _ rfl _ rfl _ rfl _ rfl _ rfl _ rfl _ rfl _ rfl _ rfl _ rfl _ rfl _ rfl _ rfl _ rfl _ rfl _ rfl _ rfl _ rfl _ rfl _ rfl _ rfl _ rfl _ rfl _ rfl _ rfl _ rfl;iterate 15 intro _
         refine sw<|su ?_
         exact f1
        ·intro _ p Ea _
         rintro _ rfl _ rfl _ rfl _ rfl _ rfl _ rfl _ rfl _ rfl _ rfl _ rfl _ rfl _ rfl _ rfl _ rfl _ rfl _ rfl _ rfl _ rfl _ rfl _ rfl _ rfl _ rfl _ rfl;iterate 18 intro _
         refine sw<|su ?_
         exact f1
        ·intro _ p Eb _
         rintro _ rfl _ rfl _ rfl _ rfl _ rfl _ rfl _ rfl _ rfl _ rfl _ rfl _ rfl _ rfl _ rfl _ rfl _ rfl _ rfl _ rfl _ rfl _ rfl _ rfl _ rfl _ rfl _ rfl _ rfl _ rfl _ rfl _ rfl _ rfl;iterate 13 intro _
         refine sw<|su ?_
         exact f1
        ·intro _ p Ec _
         iterate 29 rintro _ rfl
         iterate 12 intro _
         refine sw<|sk (cA not J) ?_
         exact f1
        ·intro _ p Ed _
         iterate 30 rintro _ rfl
         iterate 11 intro _
         refine sw<|pf (vb false) (wS (cA not a3)) (cA not J) ?_
         exact f1
        ·intro _ p Ee _
         iterate 31 rintro _ rfl
         intro _ _ _ _ _ _ _ _ _ _
         refine sw<|pf (vb false) wN (cA not a3) ?_
         exact f1
        ·intro _ p Ef _
         iterate 32 rintro _ rfl
         intro _ _ _ _ _ _ _ _ _
         refine sw<|mw (vb false) ?_
         exact f1
        ·intro _ p Eg _
         iterate 33 rintro _ rfl
         intro _ _ _ _ _ _ _ _
         refine sw<|mv (vi ((ob d j f m).2.2)) (wS F1) ?_
         exact f1
        ·intro _ p Eh _
         iterate 34 rintro _ rfl
         intro _ _ _ _ _ _ _
         refine sw<|pu (vb (decide ((ob d j f m).2.2=0))) (wS F1) ?_
         exact f1
        ·intro _ p Ei _
         iterate 35 rintro _ rfl
         intro _ _ _ _ _ _
         refine sw<|mv (vb (decide ((ob d j f m).2.2=0))) (wS F1) ?_
         exact f1
        ·intro _ p tv _
         iterate 36 rintro _ rfl
         intro _ _ _ _ _
         refine sw ?_
         have tw:=((((bc.kp y).kp r).kp s).kp tv)
         refine lN [(vi j.Role),(vs ab3_1x (j.Sn).length cb3_1x),(vi j.Cur.N),(vs ab3_3x (j.Cur.Key).length cb3_3x),(vi j.Cur.Seq),(vi j.Cur.Win.Top),(vs ab3_6x (j.Cur.Win.Bits).length cb3_6x),(vi j.Old.N),(vs ab3_8x (j.Old.Key).length cb3_8x),(vi j.Old.Seq),(vi j.Old.Win.Top),(vs ab3_11x (j.Old.Win.Bits).length cb3_11x),(vb j.HasOld),(vi j.Until),(vs ab3_14x (j.Next).length cb3_14x)] (wS aE) wb uC tw ?_
         exact f1
        ·intro _ p Ej _
         iterate 36 rintro _ rfl
         intro _ _ _ _ _
         refine sw<|mv (vs F (f).length G) (wS aE) ?_
         exact f1
        ·intro _ p Ek _
         iterate 36 rintro _ rfl
         intro _ _ _ _ _
         refine sw<|mv (vi ((Gt d (4+((m:Nat):Int))) % 5)) (wS aE) ?_
         exact f1
        ·intro _ p tx _
         iterate 36 rintro _ rfl
         rintro _ _ rfl _ rfl _ _
         refine sw ?_
         have ty:=(OLv.kp (OLv.kp (OLv.kp cn r) s) tx)
         obtain ⟨Em,tz⟩:=RLv.row (OLv.rl ty)
         refine ix (wS aE) ((Gt d (4+((m:Nat):Int))) % 5) Kl tz ?_
         exact f1
        ·intro _ p t0 _
         iterate 36 rintro _ rfl
         rintro _ _ rfl _ rfl _ rfl _
         refine sw<|Kv [(vi ((fx d f m).Kind)),(vi ((fx d f m).Id)),(vs cv (fx d f m).Cn.length cw),(vs cx (fx d f m).Sn.length cy),(vi ((fx d f m).Tick)),(vs cz (fx d f m).Cookie.length c0),(vs c1 (fx d f m).Proof.length c2),(vi ((fx d f m).Epoch)),(vi ((fx d f m).Seq)),(vs c3 (fx d f m).Body.length c4),(vs c5 (fx d f m).Tag.length c6)] (wS aE) rfl rfl rfl rfl Gg FD (((eF.kp r).kp s).kp t0) (by first|omega|(simp <;> omega)) ((MO (off:=0) (n:=11) eG (by first|rfl|simp|omega) (by decide)).trans rfl) ?_
         exact f1
       ·intro _ p a4
        iterate 41 rintro _ rfl
        refine sw ?_
        have jl:=(gc (gc (gc (gc dV y) r) s) a4)
        have jm:=(gc (gc (gc (gc dY y) r) s) a4)
        have jn:=(gc (gc (gc (gc dZ y) r) s) a4)
        have jo:=(gc (gc (gc (gc ea y) r) s) a4)
        have jp:=(gc (gc (gc (gc dW y) r) s) a4)
        have jq:=(gc (gc (gc (gc dX y) r) s) a4)
        have t1:=(gc (gc (gc eH r) s) a4)
        have t2:=(gc (gc (gc eJ r) s) a4)
        have tF:=(gc (gc (gc eL r) s) a4)
        have tG:=(gc (gc (gc eN r) s) a4)
        have tH:=(gc (gc (gc eP r) s) a4)
        have tI:=(gc (gc (gc eR r) s) a4)
        refine cl (wS aE) (MD p _ j (KI (Rd.of_own jl) dj (Rd.of_own jm) dm (Rd.of_own jn) dn (Rd.of_own jo) dp (Rd.of_own jp) dk (Rd.of_own jq) dl) _ (fx d f m) (IN (Rd.of_own t1) eI (Rd.of_own t2) eK (Rd.of_own tF) eM (Rd.of_own tG) eO (Rd.of_own tH) eQ (Rd.of_own tI) eS)) ?_
        rintro _ gi ⟨aY,rfl⟩
        refine pu (vb (!(Hq j (fx d f m)))) (wS aE) ?_
        refine pk (vb (!(Hq j (fx d f m)))) (wS F1) aE ?_
        refine pf (vb (!(Hq j (fx d f m)))) wN F1 ?_
        refine n2 ?_
        rcases bf (Hq j (fx d f m)) with gv|gv
        ·exact Bool.noConfusion ((show (Hq j (fx d f m))=true from decide_eq_true (by rw [cm];exact Qz ak hmm (by rw [← cm];exact dT aE))).symm.trans gv)
        refine cf (cA not gv)<|y1<|mw (vs P ([false,false,false,false,false]:List PBl).length Q) ?_
        refine mw (vi ((Gt d (4+((m:Nat):Int))) % 5)) ?_
        have cG:=(gc (gc (gc (gc (gc a2 y) r) s) a4) aY)
        refine ix wN ((Gt d (4+((m:Nat):Int))) % 5) IA (Rd.of_own cG) ?_
        refine Ku Hh (g) ((((Gt d (4+((m:Nat):Int))) % 5)).toNat) 0 Hd (true) (vb true) [(vb true)] wN rfl rfl rfl (by first|rfl|simp|omega) rfl rfl (Kc rfl Lb) JH cG (by first|omega|(simp only [List.length_append,List.length_replicate,List.length_take,List.length_set,List.length_map];omega)) (by simp) (by simp) rfl ?_
        intro gj bB tJ
        have tK:=((fb.extk a4).extk aY).ext bB (fun k hk=>nT (z9 aO a0 af aj I H M D R) (uI ae k hk).1)
        refine uD<|rg<|uG ?_
        have tL:=((((fa.kp s).kp a4).kp aY).ch bB (fun h=>by have:=(uI ae _ h).2;have:=nT (z2 a1 y) eZ;omega))
        refine lN (GH ((ob d b f m).1) bG bH bI bJ bK bL bM bN bO bP bQ bR) wN wb uC tL ?_
        have ds:=((((((cd.kp y).kp r).kp s).kp a4).kp aY).ch bB (fun h=>by have:=(uI ae _ h).1;have:=nL aI (z5 I H M D R);omega))
        refine sv (GH ((ob d b f m).1) bG bH bI bJ bK bL bM bN bO bP bQ bR) wN uC ds ?_
        intro tM bU tN En
        have tO:=tK.ext bU (fun k hk=>by subst hk;exact nT (z3 aO a0 af) an)
        refine uD<|uB<|rg<|uG ?_
        refine mw (vi ((m:Nat):Int)) ?_
        refine ar (((m:Nat):Int)+1) wN ?_
        refine aw (vi (((m:Nat):Int)+1)) ?_
        refine uD ?_
        have tP:=(OLv.ch (OLv.ch (OLv.kp (OLv.kp (OLv.kp (OLv.kp cn r) s) a4) aY) bB (fun g b6 b7 hk=>by have aJ:=(uI ae g hk).1;have gk:=(Nat.le_refl ay.heap.size);omega)) bU (fun g b6 b7 hk=>by have aJ:=nL aI (z3 I H M);omega))
        have jr:(f:List (PFrame))=f:=by rfl
        have gw:(f).length=(f).length:=by rw [← jr];try (first|rfl|simp only [List.length_set]|simp)
        have js:=(gc jl aY)
        have tQ:=(FN (tC js bB (fun g hg hlt hk=>Ii js cG (by decide) g hg hk)) ds (by decide) bU)
        have gx:(j.Sn:List UInt8)=j.Sn:=by rfl
        have jt:(j.Sn).length=(j.Sn).length:=by rw [← gx];try (first|rfl|simp only [List.length_set]|simp)
        have ju:=(gc jp aY)
        have tR:=(FN (tC ju bB (fun g hg hlt hk=>Ii ju cG (by decide) g hg hk)) ds (by decide) bU)
        have gy:(j.Old.Win.Bits:List Int)=j.Old.Win.Bits:=by rfl
        have jv:(j.Old.Win.Bits).length=(j.Old.Win.Bits).length:=by rw [← gy];try (first|rfl|simp only [List.length_set]|simp)
        have jw:=(gc jq aY)
        have tS:=(FN (tC jw bB (fun g hg hlt hk=>Ii jw cG (by decide) g hg hk)) ds (by decide) bU)
        have gz:(j.Next:List UInt8)=j.Next:=by rfl
        have jx:(j.Next).length=(j.Next).length:=by rw [← gz];try (first|rfl|simp only [List.length_set]|simp)
        have jy:=(gc jm aY)
        have tT:=(FN (tC jy bB (fun g hg hlt hk=>Ii jy cG (by decide) g hg hk)) ds (by decide) bU)
        have g0:(j.Cur.Key:List UInt8)=j.Cur.Key:=by rfl
        have jz:(j.Cur.Key).length=(j.Cur.Key).length:=by rw [← g0];try (first|rfl|simp only [List.length_set]|simp)
        have j0:=(gc jn aY)
        have tU:=(FN (tC j0 bB (fun g hg hlt hk=>Ii j0 cG (by decide) g hg hk)) ds (by decide) bU)
        have g1:(j.Cur.Win.Bits:List Int)=j.Cur.Win.Bits:=by rfl
        have j1:(j.Cur.Win.Bits).length=(j.Cur.Win.Bits).length:=by rw [← g1];try (first|rfl|simp only [List.length_set]|simp)
        have j2:=(gc jo aY)
        have tV:=(FN (tC j2 bB (fun g hg hlt hk=>Ii j2 cG (by decide) g hg hk)) ds (by decide) bU)
        have g2:(j.Old.Key:List UInt8)=j.Old.Key:=by rfl
        have j3:(j.Old.Key).length=(j.Old.Key).length:=by rw [← g2];try (first|rfl|simp only [List.length_set]|simp)
        have d1:=fun (E sz n:Nat) (v:Value) (K:List Value) (o:World.ownsRow O am.heap.size E sz v n K) (ai:World.ownsRow O am.heap.size E sz v n K)=>(tC (tC (gc (gc (gc o s) a4) aY) bB (fun g hg hlt hk=>by have b6:=(uI ai g hg).1;have b7:=(uI ae g hk).2;have aJ:=(z2 a1 y);omega)) bU (ne1 ai (nL aI (z8 I H M D R av a1 y))))
        have tW:=(d1 _ _ _ _ _ c7 c7)
        have j4:(((ob d b f m).1).Sn:List UInt8)=((ob d b f m).1).Sn:=by rfl
        have tX:=(d1 _ _ _ _ _ cD cD)
        have j5:(((((ob d b f m).1).Old).Win).Bits:List Int)=((ob d b f m).1).Old.Win.Bits:=by rfl
        have tY:=(d1 _ _ _ _ _ cE cE)
        have j6:(((ob d b f m).1).Next:List UInt8)=((ob d b f m).1).Next:=by rfl
        have tZ:=(d1 _ _ _ _ _ c8 c8)
        have j7:((((ob d b f m).1).Cur).Key:List UInt8)=((ob d b f m).1).Cur.Key:=by rfl
        have ua:=(d1 _ _ _ _ _ c9 c9)
        have j8:(((((ob d b f m).1).Cur).Win).Bits:List Int)=((ob d b f m).1).Cur.Win.Bits:=by rfl
        have ub:=(d1 _ _ _ _ _ cC cC)
        have j9:((((ob d b f m).1).Old).Key:List UInt8)=((ob d b f m).1).Old.Key:=by rfl
        have uc:=(tC tJ bU (ne1 ae (nL aI (z5 I H M D R))))
        have ud:(((g).set ((((Gt d (4+((m:Nat):Int))) % 5)).toNat) true):List PBl)=((g).set ((((Gt d (4+((m:Nat):Int))) % 5)).toNat) true):=by rfl
        have ue:=(((((((bc.kp y).kp r).kp s).kp a4).kp aY).ch bB (fun h=>by have:=(uI ae _ h).1;have:=nL a7 (z6 aj I H M D R);omega)).ch bU (nN (nL a7 (an))))
        refine FX (w0:=b4) [(0,(vs ax d.length a6)),(3,(vp aP 0)),(4,(vp aQ 0)),(5,(.slice F (f).length G)),(10,(vs P ([false,false,false,false,false]:List PBl).length Q)),(11,(vi (((m+1):Nat):Int)))] ?_ ?_ ?_
        · exact ⟨rfl,rfl,rfl,(cA (fun m:Nat=>Value.slice F m G) gw),rfl,(cA (Value.int .i64) (show ((((m:Nat):Int)+1):Int)=(((m+1):Nat):Int) by omega)),trivial⟩
        · have d2:=z11 a0 af aj I H M D R av a1 y
          exact fun u=>⟨(m+1),((ob d b f m).1),((g).set ((((Gt d (4+((m:Nat):Int))) % 5)).toNat) true),j,f,u,F,G,ab3_1x,cb3_1x,ab3_11x,cb3_11x,ab3_14x,cb3_14x,ab3_3x,cb3_3x,ab3_6x,cb3_6x,ab3_8x,cb3_8x,bG,bH,bO,bP,bQ,bR,bI,bJ,bK,bL,bM,bN,rfl,tO,(((((((((Ch.refl (fun k=>aM.heap.size≤k) ah).ext a1 (fun k hk=>hk)).extk y).extk r).extk s).extk a4).extk aY).ext bB (fun k hk=>nT (z7 af aj I H M D R) (uI ae k hk).1)).ext bU (fun k hk=>by subst hk;exact nT af.size an)),(by omega),(by first|with_reducible exact Qt ak|(have hz:=(KD (z:=Ik) ak ce b8 b9 hmm (Gt d 3)).2.2;rw [← aU] at hz;exact hz)),(by first|exact cm|exact bE),(by first|exact aU|exact cs),⟨(by rw [← gw,← jr];exact tP),(by rw [← gw];first|exact eE|(simp only [List.length_append,List.length_take,List.length_replicate];omega))⟩,⟨(by rw [← jt,← gx];exact tQ),(by rw [← jt];first|exact dj|(simp only [List.length_append,List.length_take,List.length_replicate];omega))⟩,⟨(by rw [← jv,← gy];exact tR),(by rw [← jv];first|exact dk|(simp only [List.length_append,List.length_take,List.length_replicate];omega))⟩,⟨(by rw [← jx,← gz];exact tS),(by rw [← jx];first|exact dl|(simp only [List.length_append,List.length_take,List.length_replicate];omega))⟩,⟨(by rw [← jz,← g0];exact tT),(by rw [← jz];first|exact dm|(simp only [List.length_append,List.length_take,List.length_replicate];omega))⟩,⟨(by rw [← j1,← g1];exact tU),(by rw [← j1];first|exact dn|(simp only [List.length_append,List.length_take,List.length_replicate];omega))⟩,⟨(by rw [← j3,← g2];exact tV),(by rw [← j3];first|exact dp|(simp only [List.length_append,List.length_take,List.length_replicate];omega))⟩,(j4 ▸ ⟨(tA tW d2),eT⟩),(j5 ▸ ⟨(tA tX d2),eX⟩),(j6 ▸ ⟨(tA tY d2),eY⟩),(j7 ▸ ⟨(tA tZ d2),eU⟩),(j8 ▸ ⟨(tA ua d2),eV⟩),(j9 ▸ ⟨(tA ub d2),eW⟩),(by rw [← ud];exact uc),(by have hb:=ue;first|exact hb|(rw [gx,gy,gz,g0,g1,g2] at hb;exact hb)),(by have hb:=tN;first|exact hb|(rw [j4,j5,j6,j7,j8,j9] at hb;exact hb))⟩
        · show (20 - (((m+1):Nat):Int)).toNat < (20 - ((m:Nat):Int)).toNat;omega
      rcases bf (decide ((ob d b f m).2.2=0)) with bW|bW
      ·have Eo:=dF bW
       (obtain ⟨jA,dq⟩:=(KD (z:=Ik) ak ce b8 b9 hmm (Gt d 3)).2.1 J;exact Bool.noConfusion ((show (decide ((ob d b f m).2.2=0))=true by simp only [ob,fx,aU,dq,List.length_cons,List.length_nil,List.getD_cons_zero,Sv b8 b9,decide_true] <;> rfl).symm.trans bW))
      have Ep:=dT bW
      rcases bf (decide ((((ob d b f m).2.1).length:Int)=2)) with aH|aH
      ·have Er:=dF aH
       (obtain ⟨jA,dq⟩:=(KD (z:=Ik) ak ce b8 b9 hmm (Gt d 3)).2.1 J;exact Bool.noConfusion ((show (decide ((((ob d b f m).2.1).length:Int)=2))=true by simp only [ob,fx,aU,dq,List.length_cons,List.length_nil,List.getD_cons_zero,Sv b8 b9,decide_true] <;> rfl).symm.trans aH))
      have Es:=dT aH
      rcases bf (decide (((((ob d b f m).2.1).getD 0 0).toNat:Int)=((Gt d (4+((m:Nat):Int))) % 5))) with aZ|aZ
      ·have Et:=dF aZ
       (obtain ⟨jA,dq⟩:=(KD (z:=Ik) ak ce b8 b9 hmm (Gt d 3)).2.1 J;exact Bool.noConfusion ((show (decide (((((ob d b f m).2.1).getD 0 0).toNat:Int)=((Gt d (4+((m:Nat):Int))) % 5)))=true by simp only [ob,fx,aU,dq,List.length_cons,List.length_nil,List.getD_cons_zero,Sv b8 b9,decide_true] <;> rfl).symm.trans aZ))
      have Eu:=dT aZ
      rcases bf (decide ((ob d j f m).2.2=0)) with aF|aF
      ·have Ev:=dF aF
       refine Ga ([(99,[],[],(fun _ v _=>v=(vs P ([false,false,false,false,false]:List PBl).length Q))),(100,[],[],(fun _ v _=>v=(vi ((Gt d (4+((m:Nat):Int))) % 5)))),(101,[],[0,1],(fun _ v _=>v=(ve (vs P ([false,false,false,false,false]:List PBl).length Q) ((((Gt d (4+((m:Nat):Int))) % 5)).toNat*1)))),(102,[],[0,1,2],(fun _ v _=>v=(vb ((g).getD (((Gt d (4+((m:Nat):Int))) % 5)).toNat Hd)))),(103,[],[0,1,2,3],(fun _ v _=>v=(vb ((g).getD (((Gt d (4+((m:Nat):Int))) % 5)).toNat Hd)))),(104,[],[0,1,2,3,4],(fun _ v _=>v=U)),(105,[],[0,1,2,3,4,5],(fun _ v _=>v=U)),(106,[],[0,1,2,3,4,5,6],(fun _ v _=>v=(vb false))),(107,[],[0,1,2,3,4,5,6,7],(fun _ v _=>v=(vb false))),(108,[],[0,1,2,3,4,5,6,7,8],(fun _ v _=>v=(vs P ([false,false,false,false,false]:List PBl).length Q))),(109,[],[0,1,2,3,4,5,6,7,8],(fun _ v _=>v=(vi ((Gt d (4+((m:Nat):Int))) % 5)))),(110,[],[0,1,2,3,4,5,6,7,8,9,10],(fun _ v _=>v=(ve (vs P ([false,false,false,false,false]:List PBl).length Q) ((((Gt d (4+((m:Nat):Int))) % 5)).toNat*1)))),(111,[],[0,1,2,3,4,5,6,7,8,9,10,11],(fun _ v _=>v=(vb ((g).getD (((Gt d (4+((m:Nat):Int))) % 5)).toNat Hd)))),(112,[],[0,1,2,3,4,5,6,7,8,9,10,11,12],(fun _ v _=>v=(vb (!((g).getD (((Gt d (4+((m:Nat):Int))) % 5)).toNat Hd))))),(113,[],[0,1,2,3,4,5,6,7,8,9,10,11,12,13],(fun _ v _=>v=(vb (!((g).getD (((Gt d (4+((m:Nat):Int))) % 5)).toNat Hd))))),(114,[],[0,1,2,3,4,5,6,7,8,9,10,11,12,13,14],(fun _ v _=>v=(vi ((ob d b f m).2.2)))),(115,[],[0,1,2,3,4,5,6,7,8,9,10,11,12,13,14,15],(fun _ v _=>v=(vb (!(decide ((ob d b f m).2.2=0)))))),(116,[],[0,1,2,3,4,5,6,7,8,9,10,11,12,13,14,15,16],(fun _ v _=>v=(vb (!(decide ((ob d b f m).2.2=0)))))),(117,[],[0,1,2,3,4,5,6,7,8,9,10,11,12,13,14,15,16,17],(fun _ v _=>v=(vs cg ((ob d b f m).2.1).length ci))),(118,[],[0,1,2,3,4,5,6,7,8,9,10,11,12,13,14,15,16,17,18],(fun _ v _=>v=(vi (((ob d b f m).2.1).length:Int)))),(119,[],[0,1,2,3,4,5,6,7,8,9,10,11,12,13,14,15,16,17,18,19],(fun _ v _=>v=(vb (!(decide ((((ob d b f m).2.1).length:Int)=2)))))),(120,[],[0,1,2,3,4,5,6,7,8,9,10,11,12,13,14,15,16,17,18,19,20],(fun _ v _=>v=(vb (!(decide ((((ob d b f m).2.1).length:Int)=2)))))),(121,[],[0,1,2,3,4,5,6,7,8,9,10,11,12,13,14,15,16,17,18,19,20,21],(fun _ v _=>v=(vb (!(decide ((((ob d b f m).2.1).length:Int)=2)))))),(122,[],[0,1,2,3,4,5,6,7,8,9,10,11,12,13,14,15,16,17,18,19,20,21,22],(fun _ v _=>v=(vs cg ((ob d b f m).2.1).length ci))),(123,[],[0,1,2,3,4,5,6,7,8,9,10,11,12,13,14,15,16,17,18,19,20,21,22,23],(fun _ v _=>v=(ve (vs cg ((ob d b f m).2.1).length ci) ((0:Int).toNat*1)))),(124,[],[0,1,2,3,4,5,6,7,8,9,10,11,12,13,14,15,16,17,18,19,20,21,22,23,24],(fun _ v _=>v=(v8 ((((ob d b f m).2.1).getD 0 0).toNat:Int)))),(125,[],[0,1,2,3,4,5,6,7,8,9,10,11,12,13,14,15,16,17,18,19,20,21,22,23,24,25],(fun _ v _=>v=(vi ((((ob d b f m).2.1).getD 0 0).toNat:Int)))),(126,[],[0,1,2,3,4,5,6,7,8,9,10,11,12,13,14,15,16,17,18,19,20,21,22],(fun _ v _=>v=(vi ((Gt d (4+((m:Nat):Int))) % 5)))),(127,[],[0,1,2,3,4,5,6,7,8,9,10,11,12,13,14,15,16,17,18,19,20,21,22,23,24,25,26,27],(fun _ v _=>v=(vb (!(decide (((((ob d b f m).2.1).getD 0 0).toNat:Int)=((Gt d (4+((m:Nat):Int))) % 5))))))),(128,[],[0,1,2,3,4,5,6,7,8,9,10,11,12,13,14,15,16,17,18,19,20,21,22,23,24,25,26,27,28],(fun _ v _=>v=(vb (!(decide (((((ob d b f m).2.1).getD 0 0).toNat:Int)=((Gt d (4+((m:Nat):Int))) % 5))))))),(129,[],[0,1,2,3,4,5,6,7,8,9,10,11,12,13,14,15,16,17,18,19,20,21,22,23,24,25,26,27,28,29],(fun _ v _=>v=(vb (!(decide (((((ob d b f m).2.1).getD 0 0).toNat:Int)=((Gt d (4+((m:Nat):Int))) % 5))))))),(130,[],[0,1,2,3,4,5,6,7,8,9,10,11,12,13,14,15,16,17,18,19,20,21,22,23,24,25,26,27,28,29,30],(fun _ v _=>v=(vb (!(decide (((((ob d b f m).2.1).getD 0 0).toNat:Int)=((Gt d (4+((m:Nat):Int))) % 5))))))),(131,[],[0,1,2,3,4,5,6,7,8,9,10,11,12,13,14,15,16,17,18,19,20,21,22,23,24,25,26,27,28,29,30,31],(fun _ v _=>v=(vb (!(decide (((((ob d b f m).2.1).getD 0 0).toNat:Int)=((Gt d (4+((m:Nat):Int))) % 5))))))),(132,[],[0,1,2,3,4,5,6,7,8,9,10,11,12,13,14,15,16,17,18,19,20,21,22,23,24,25,26,27,28,29,30,31,32],(fun _ v _=>v=(vi ((ob d j f m).2.2)))),(133,[],[0,1,2,3,4,5,6,7,8,9,10,11,12,13,14,15,16,17,18,19,20,21,22,23,24,25,26,27,28,29,30,31,32,33],(fun _ v _=>v=(vb (decide ((ob d j f m).2.2=0))))),(134,[],[0,1,2,3,4,5,6,7,8,9,10,11,12,13,14,15,16,17,18,19,20,21,22,23,24,25,26,27,28,29,30,31,32,33,34],(fun _ v _=>v=(vb (decide ((ob d j f m).2.2=0))))),(135,[],[0,1,2,3,4,5,6,7,8,9,10,11,12,13,14,15,16,17,18,19,20,21,22,23,24,25,26,27,28,29,30,31,32,33,34,35],(fun _ v _=>v=U)),(136,[],[0,1,2,3,4,5,6,7,8,9,10,11,12,13,14,15,16,17,18,19,20,21,22,23,24,25,26,27,28,29,30,31,32,33,34,35],(fun _ v _=>v=U)),(137,[],[0,1,2,3,4,5,6,7,8,9,10,11,12,13,14,15,16,17,18,19,20,21,22,23,24,25,26,27,28,29,30,31,32,33,34,35],(fun _ v _=>v=U)),(138,[],[0,1,2,3,4,5,6,7,8,9,10,11,12,13,14,15,16,17,18,19,20,21,22,23,24,25,26,27,28,29,30,31,32,33,34,35,37,38],(fun _ v _=>v=U)),(139,[],[0,1,2,3,4,5,6,7,8,9,10,11,12,13,14,15,16,17,18,19,20,21,22,23,24,25,26,27,28,29,30,31,32,33,34,35,37,38,39],(fun _ v _=>v=U))]:GV) (fun _ A=>Keep az A) [] GU rfl (by kernel_rfl) (by kernel_rfl) ?_ (fun _ _ h=>h) (fun _ _ _ _ h _ k=>h.trans k) trivial ?_ ?_ ?_
       ·exact ⟨hV,hE,⟨hV,hE,⟨hV,hE,⟨hV,hE,⟨hV,hE,⟨hV,hE,⟨hV,hE,⟨hV,hE,⟨hV,hE,⟨hV,hE,⟨hV,hE,⟨hV,hE,⟨hV,hE,⟨hV,hE,⟨hV,hE,⟨hV,hE,⟨hV,hE,⟨hV,hE,⟨hV,hE,⟨hV,hE,⟨hV,hE,⟨hV,hE,⟨hV,hE,⟨hV,hE,⟨hV,hE,⟨hV,hE,⟨hV,hE,⟨hV,hE,⟨hV,hE,⟨hV,hE,⟨hV,hE,⟨hV,hE,⟨hV,hE,⟨hV,hE,⟨hV,hE,⟨hV,hE,⟨hV,hE,⟨hV,hE,⟨hV,hE,⟨hV,hE,⟨hV,hE,trivial⟩⟩⟩⟩⟩⟩⟩⟩⟩⟩⟩⟩⟩⟩⟩⟩⟩⟩⟩⟩⟩⟩⟩⟩⟩⟩⟩⟩⟩⟩⟩⟩⟩⟩⟩⟩⟩⟩⟩⟩⟩
       ·exact trivial
       ·refine ⟨?_,⟨?_,⟨?_,⟨?_,⟨?_,⟨?_,⟨?_,⟨?_,⟨?_,⟨?_,⟨?_,⟨?_,⟨?_,⟨?_,⟨?_,⟨?_,⟨?_,⟨?_,⟨?_,⟨?_,⟨?_,⟨?_,⟨?_,⟨?_,⟨?_,⟨?_,⟨?_,⟨?_,⟨?_,⟨?_,⟨?_,⟨?_,⟨?_,⟨?_,⟨?_,⟨?_,⟨?_,⟨?_,⟨?_,⟨?_,⟨?_,trivial⟩⟩⟩⟩⟩⟩⟩⟩⟩⟩⟩⟩⟩⟩⟩⟩⟩⟩⟩⟩⟩⟩⟩⟩⟩⟩⟩⟩⟩⟩⟩⟩⟩⟩⟩⟩⟩⟩⟩⟩⟩
        ·intro _ p Ew _
         iterate 41 intro _
         refine sw<|mw (vs P ([false,false,false,false,false]:List PBl).length Q) ?_
         exact f1
        ·intro _ p Ex _
         iterate 41 intro _
         refine sw<|mw (vi ((Gt d (4+((m:Nat):Int))) % 5)) ?_
         exact f1
        ·intro _ p uf _
         rintro _ rfl _ rfl;iterate 39 intro _
         refine sw ?_
         have ug:=(gc (gc (gc (gc a2 y) r) s) uf)
         refine ix wN ((Gt d (4+((m:Nat):Int))) % 5) IA (Rd.of_own ug) ?_
         exact f1
        ·intro _ p uh _
         rintro _ rfl _ rfl _ rfl;iterate 38 intro _
         refine sw ?_
         have ui:=(gc (gc (gc (gc a2 y) r) s) uh)
         refine GW (vb ((g).getD (((Gt d (4+((m:Nat):Int))) % 5)).toNat Hd)) wN rfl rfl rfl rfl HX (Rd.of_own ui) ((Jq (i:=0) Hh Hd (by first|rfl|simp|omega) (by decide) (by first|omega|(simp <;> omega))).trans rfl) ?_
         exact f1
        ·intro _ p Ey _
         rintro _ rfl _ rfl _ rfl _ rfl;iterate 37 intro _
         refine sw<|mw (vb ((g).getD (((Gt d (4+((m:Nat):Int))) % 5)).toNat Hd)) ?_
         exact f1
        ·intro _ p Ez _
         rintro _ rfl _ rfl _ rfl _ rfl _ rfl;iterate 36 intro _
         refine sw<|sk J ?_
         exact f1
        ·intro _ p E0 _
         rintro _ rfl _ rfl _ rfl _ rfl _ rfl _ rfl;iterate 35 intro _
         refine sw<|sk J ?_
         exact f1
        ·intro _ p E1 _
         rintro _ rfl _ rfl _ rfl _ rfl _ rfl _ rfl _ rfl;iterate 34 intro _
         refine sw<|pf (vb false) wN J ?_
         exact f1
        ·intro _ p E2 _
         rintro _ rfl _ rfl _ rfl _ rfl _ rfl _ rfl _ rfl _ rfl;iterate 33 intro _
         refine sw<|mw (vb false) ?_
         exact f1
        ·intro _ p E3 _
         rintro _ rfl _ rfl _ rfl _ rfl _ rfl _ rfl _ rfl _ rfl _ rfl;iterate 32 intro _
         refine sw<|mv (vs P ([false,false,false,false,false]:List PBl).length Q) (wS F1) ?_
         exact f1
        ·intro _ p E4 _
         rintro _ rfl _ rfl _ rfl _ rfl _ rfl _ rfl _ rfl _ rfl _ rfl;iterate 32 intro _
         refine sw<|mv (vi ((Gt d (4+((m:Nat):Int))) % 5)) (wS F1) ?_
         exact f1
        ·intro _ p uj _
         rintro _ rfl _ rfl _ rfl _ rfl _ rfl _ rfl _ rfl _ rfl _ rfl _ rfl _ rfl;iterate 30 intro _
         refine sw ?_
         have uk:=(gc (gc (gc (gc a2 y) r) s) uj)
         refine ix (wS F1) ((Gt d (4+((m:Nat):Int))) % 5) IA (Rd.of_own uk) ?_
         exact f1
        ·intro _ p ul _
         rintro _ rfl _ rfl _ rfl _ rfl _ rfl _ rfl _ rfl _ rfl _ rfl _ rfl _ rfl _ rfl;iterate 29 intro _
         refine sw ?_
         have um:=(gc (gc (gc (gc a2 y) r) s) ul)
         refine GW (vb ((g).getD (((Gt d (4+((m:Nat):Int))) % 5)).toNat Hd)) (wS F1) rfl rfl rfl rfl HX (Rd.of_own um) ((Jq (i:=0) Hh Hd (by first|rfl|simp|omega) (by decide) (by first|omega|(simp <;> omega))).trans rfl) ?_
         exact f1
        ·intro _ p E5 _
         rintro _ rfl _ rfl _ rfl _ rfl _ rfl _ rfl _ rfl _ rfl _ rfl _ rfl _ rfl _ rfl _ rfl;iterate 28 intro _
         refine sw<|pu (vb (!((g).getD (((Gt d (4+((m:Nat):Int))) % 5)).toNat Hd))) (wS F1) ?_
         exact f1
        ·intro _ p E6 _
         rintro _ rfl _ rfl _ rfl _ rfl _ rfl _ rfl _ rfl _ rfl _ rfl _ rfl _ rfl _ rfl _ rfl _ rfl;iterate 27 intro _
         refine sw<|mv (vb (!((g).getD (((Gt d (4+((m:Nat):Int))) % 5)).toNat Hd))) (wS F1) ?_
         exact f1
        ·intro _ p E7 _
         rintro _ rfl _ rfl _ rfl _ rfl _ rfl _ rfl _ rfl _ rfl _ rfl _ rfl _ rfl _ rfl _ rfl _ rfl _ rfl;iterate 26 intro _
         refine sw<|mv (vi ((ob d b f m).2.2)) (wS (cA not J)) ?_
         exact f1
        ·intro _ p E8 _
         rintro _ rfl _ rfl _ rfl _ rfl _ rfl _ rfl _ rfl _ rfl _ rfl _ rfl _ rfl _ rfl _ rfl _ rfl _ rfl _ rfl;iterate 25 intro _
         refine sw<|pu (vb (!(decide ((ob d b f m).2.2=0)))) (wS (cA not J)) ?_
         exact f1
        ·intro _ p E9 _
         rintro _ rfl _ rfl _ rfl _ rfl _ rfl _ rfl _ rfl _ rfl _ rfl _ rfl _ rfl _ rfl _ rfl _ rfl _ rfl _ rfl _ rfl;iterate 24 intro _
         refine sw<|mv (vb (!(decide ((ob d b f m).2.2=0)))) (wS (cA not J)) ?_
         exact f1
        ·intro _ p EA _
         rintro _ rfl _ rfl _ rfl _ rfl _ rfl _ rfl _ rfl _ rfl _ rfl _ rfl _ rfl _ rfl _ rfl _ rfl _ rfl _ rfl _ rfl _ rfl;iterate 23 intro _
         refine sw<|mv (vs cg ((ob d b f m).2.1).length ci) (wS (cA not bW)) ?_
         exact f1
        ·intro _ p un _
         rintro _ rfl _ rfl _ rfl _ rfl _ rfl _ rfl _ rfl _ rfl _ rfl _ rfl _ rfl _ rfl _ rfl _ rfl _ rfl _ rfl _ rfl _ rfl _ rfl;iterate 22 intro _
         refine sw ?_
         have uo:=fun (E sz n:Nat) (v:Value) (K:List Value) (o:World.ownsRow O am.heap.size E sz v n K) (ai:World.ownsRow O am.heap.size E sz v n K)=>(gc (gc o s) un)
         have up:=(uo _ _ _ _ _ bS bS)
         refine ln (wS (cA not bW)) tD (Rd.of_own up) ?_
         exact f1
        ·intro _ p EB _
         rintro _ rfl _ rfl _ rfl _ rfl _ rfl _ rfl _ rfl _ rfl _ rfl _ rfl _ rfl _ rfl _ rfl _ rfl _ rfl _ rfl _ rfl _ rfl _ rfl _ rfl;iterate 21 intro _
         refine sw<|pu (vb (!(decide ((((ob d b f m).2.1).length:Int)=2)))) (wS (cA not bW)) ?_
         exact f1
        ·intro _ p EC _
         rintro _ rfl _ rfl _ rfl _ rfl _ rfl _ rfl _ rfl _ rfl _ rfl _ rfl _ rfl _ rfl _ rfl _ rfl _ rfl _ rfl _ rfl _ rfl _ rfl _ rfl _ rfl;iterate 20 intro _
         refine sw<|pf (vb (!(decide ((((ob d b f m).2.1).length:Int)=2)))) (wS (cA not J)) (cA not bW) ?_
         exact f1
        ·intro _ p ED _
         rintro _ rfl _ rfl _ rfl _ rfl _ rfl _ rfl _ rfl _ rfl _ rfl _ rfl _ rfl _ rfl _ rfl _ rfl _ rfl _ rfl _ rfl _ rfl _ rfl _ rfl _ rfl _ rfl;iterate 19 intro _
         refine sw<|mv (vb (!(decide ((((ob d b f m).2.1).length:Int)=2)))) (wS (cA not J)) ?_
         exact f1
        ·intro _ p EE _
         rintro _ rfl _ rfl _ rfl _ rfl _ rfl _ rfl _ rfl _ rfl _ rfl _ rfl _ rfl _ rfl _ rfl _ rfl _ rfl _ rfl _ rfl _ rfl _ rfl _ rfl _ rfl _ rfl _ rfl;iterate 18 intro _
         refine sw<|mv (vs cg ((ob d b f m).2.1).length ci) (wS (cA not aH)) ?_
         exact f1
        ·intro _ p uq _
         rintro _ rfl _ rfl _ rfl _ rfl _ rfl _ rfl _ rfl _ rfl _ rfl _ rfl _ rfl _ rfl _ rfl _ rfl _ rfl _ rfl _ rfl _ rfl _ rfl _ rfl _ rfl _ rfl _ rfl _ rfl;iterate 17 intro _
         refine sw ?_
         have ur:=fun (E sz n:Nat) (v:Value) (K:List Value) (o:World.ownsRow O am.heap.size E sz v n K) (ai:World.ownsRow O am.heap.size E sz v n K)=>(gc (gc o s) uq)
         have us:=(ur _ _ _ _ _ bS bS)
         refine ix (wS (cA not aH)) 0 tD (Rd.of_own us) ?_
         exact f1
        ·intro _ p ut _
         rintro _ rfl _ rfl _ rfl _ rfl _ rfl _ rfl _ rfl _ rfl _ rfl _ rfl _ rfl _ rfl _ rfl _ rfl _ rfl _ rfl _ rfl _ rfl _ rfl _ rfl _ rfl _ rfl _ rfl _ rfl _ rfl;iterate 16 intro _
         refine sw ?_
         have uu:=fun (E sz n:Nat) (v:Value) (K:List Value) (o:World.ownsRow O am.heap.size E sz v n K) (ai:World.ownsRow O am.heap.size E sz v n K)=>(gc (gc o s) ut)
         have uv:=(uu _ _ _ _ _ bS bS)
         refine eb (x:=(ob d b f m).2.1) 0 (wS (cA not aH)) HI (Rd.of_own uv) ?_
         exact f1
        ·intro _ p EF _
         rintro _ rfl _ rfl _ rfl _ rfl _ rfl _ rfl _ rfl _ rfl _ rfl _ rfl _ rfl _ rfl _ rfl _ rfl _ rfl _ rfl _ rfl _ rfl _ rfl _ rfl _ rfl _ rfl _ rfl _ rfl _ rfl _ rfl;iterate 15 intro _
         refine sw<|ar ((((ob d b f m).2.1).getD 0 0).toNat:Int) (wS (cA not aH)) ?_
         exact f1
        ·intro _ p EG _
         rintro _ rfl _ rfl _ rfl _ rfl _ rfl _ rfl _ rfl _ rfl _ rfl _ rfl _ rfl _ rfl _ rfl _ rfl _ rfl _ rfl _ rfl _ rfl _ rfl _ rfl _ rfl _ rfl _ rfl;iterate 18 intro _
         refine sw<|mv (vi ((Gt d (4+((m:Nat):Int))) % 5)) (wS (cA not aH)) ?_
         exact f1
        ·intro _ p EH _
         rintro _ rfl _ rfl _ rfl _ rfl _ rfl _ rfl _ rfl _ rfl _ rfl _ rfl _ rfl _ rfl _ rfl _ rfl _ rfl _ rfl _ rfl _ rfl _ rfl _ rfl _ rfl _ rfl _ rfl _ rfl _ rfl _ rfl _ rfl _ rfl;iterate 13 intro _
         refine sw<|pu (vb (!(decide (((((ob d b f m).2.1).getD 0 0).toNat:Int)=((Gt d (4+((m:Nat):Int))) % 5))))) (wS (cA not aH)) ?_
         exact f1
        ·intro _ p EI _
         iterate 29 rintro _ rfl
         iterate 12 intro _
         refine sw<|pf (vb (!(decide (((((ob d b f m).2.1).getD 0 0).toNat:Int)=((Gt d (4+((m:Nat):Int))) % 5))))) (wS (cA not J)) (cA not aH) ?_
         exact f1
        ·intro _ p EJ _
         iterate 30 rintro _ rfl
         iterate 11 intro _
         refine sw<|pk (vb (!(decide (((((ob d b f m).2.1).getD 0 0).toNat:Int)=((Gt d (4+((m:Nat):Int))) % 5))))) (wS F1) (cA not J) ?_
         exact f1
        ·intro _ p EK _
         iterate 31 rintro _ rfl
         intro _ _ _ _ _ _ _ _ _ _
         refine sw<|pf (vb (!(decide (((((ob d b f m).2.1).getD 0 0).toNat:Int)=((Gt d (4+((m:Nat):Int))) % 5))))) wN F1 ?_
         exact f1
        ·intro _ p EL _
         iterate 32 rintro _ rfl
         intro _ _ _ _ _ _ _ _ _
         refine sw<|mw (vb (!(decide (((((ob d b f m).2.1).getD 0 0).toNat:Int)=((Gt d (4+((m:Nat):Int))) % 5))))) ?_
         exact f1
        ·intro _ p EM _
         iterate 33 rintro _ rfl
         intro _ _ _ _ _ _ _ _
         refine sw<|mv (vi ((ob d j f m).2.2)) (wS (cA not aZ)) ?_
         exact f1
        ·intro _ p EN _
         iterate 34 rintro _ rfl
         intro _ _ _ _ _ _ _
         refine sw<|pu (vb (decide ((ob d j f m).2.2=0))) (wS (cA not aZ)) ?_
         exact f1
        ·intro _ p EO _
         iterate 35 rintro _ rfl
         intro _ _ _ _ _ _
         refine sw<|mv (vb (decide ((ob d j f m).2.2=0))) (wS (cA not aZ)) ?_
         exact f1
        ·intro _ p EP _
         iterate 36 rintro _ rfl
         intro _ _ _ _ _
         refine sw<|sk aF ?_
         exact f1
        ·intro _ p EQ _
         iterate 36 rintro _ rfl
         intro _ _ _ _ _
         refine sw<|sk aF ?_
         exact f1
        ·intro _ p ER _
         iterate 36 rintro _ rfl
         intro _ _ _ _ _
         refine sw<|sk aF ?_
         exact f1
        ·intro _ p ES _
         iterate 36 rintro _ rfl
         rintro _ _ rfl _ rfl _ _
         refine sw<|sk aF ?_
         exact f1
        ·intro _ p ET _
         iterate 36 rintro _ rfl
         rintro _ _ rfl _ rfl _ rfl _
         refine sw<|sk aF ?_
         exact f1
       ·intro _ p ba
        iterate 41 rintro _ rfl
        refine sw ?_
        iterate 2 refine sk aF ?_
        refine pf (vb false) (wS (cA not aZ)) aF ?_
        refine pf (vb false) wN (cA not aZ) ?_
        refine n2<|cf F1<|y1<|mw (vs P ([false,false,false,false,false]:List PBl).length Q) ?_
        refine mw (vi ((Gt d (4+((m:Nat):Int))) % 5)) ?_
        have cH:=(gc (gc (gc (gc a2 y) r) s) ba)
        refine ix wN ((Gt d (4+((m:Nat):Int))) % 5) IA (Rd.of_own cH) ?_
        refine Ku Hh (g) ((((Gt d (4+((m:Nat):Int))) % 5)).toNat) 0 Hd (true) (vb true) [(vb true)] wN rfl rfl rfl (by first|rfl|simp|omega) rfl rfl (Kc rfl Lb) JH cH (by first|omega|(simp only [List.length_append,List.length_replicate,List.length_take,List.length_set,List.length_map];omega)) (by simp) (by simp) rfl ?_
        intro gi bC uw
        have ux:=(fb.extk ba).ext bC (fun k hk=>nT (z9 aO a0 af aj I H M D R) (uI ae k hk).1)
        refine uD<|rg<|uG ?_
        have uy:=(((fa.kp s).kp ba).ch bC (fun h=>by have:=(uI ae _ h).2;have:=nT (z2 a1 y) eZ;omega))
        refine lN (GH ((ob d b f m).1) bG bH bI bJ bK bL bM bN bO bP bQ bR) wN wb uC uy ?_
        have dt:=(((((cd.kp y).kp r).kp s).kp ba).ch bC (fun h=>by have:=(uI ae _ h).1;have:=nL aI (z5 I H M D R);omega))
        refine sv (GH ((ob d b f m).1) bG bH bI bJ bK bL bM bN bO bP bQ bR) wN uC dt ?_
        intro gj bX uz EU
        have u0:=ux.ext bX (fun k hk=>by subst hk;exact nT (z3 aO a0 af) an)
        refine uD<|uB<|rg<|uG ?_
        refine mw (vi ((m:Nat):Int)) ?_
        refine ar (((m:Nat):Int)+1) wN ?_
        refine aw (vi (((m:Nat):Int)+1)) ?_
        refine uD ?_
        have u1:=(OLv.ch (OLv.ch (OLv.kp (OLv.kp (OLv.kp cn r) s) ba) bC (fun g b6 b7 hk=>by have aJ:=(uI ae g hk).1;have gk:=(Nat.le_refl ay.heap.size);omega)) bX (fun g b6 b7 hk=>by have aJ:=nL aI (z3 I H M);omega))
        have jC:(f:List (PFrame))=f:=by rfl
        have g3:(f).length=(f).length:=by rw [← jC];try (first|rfl|simp only [List.length_set]|simp)
        have jD:=(gc (gc (gc (gc dV y) r) s) ba)
        have u2:=(FN (tC jD bC (fun g hg hlt hk=>Ii jD cH (by decide) g hg hk)) dt (by decide) bX)
        have g4:(j.Sn:List UInt8)=j.Sn:=by rfl
        have jE:(j.Sn).length=(j.Sn).length:=by rw [← g4];try (first|rfl|simp only [List.length_set]|simp)
        have jF:=(gc (gc (gc (gc dW y) r) s) ba)
        have u3:=(FN (tC jF bC (fun g hg hlt hk=>Ii jF cH (by decide) g hg hk)) dt (by decide) bX)
        have g5:(j.Old.Win.Bits:List Int)=j.Old.Win.Bits:=by rfl
        have jG:(j.Old.Win.Bits).length=(j.Old.Win.Bits).length:=by rw [← g5];try (first|rfl|simp only [List.length_set]|simp)
        have jH:=(gc (gc (gc (gc dX y) r) s) ba)
        have u4:=(FN (tC jH bC (fun g hg hlt hk=>Ii jH cH (by decide) g hg hk)) dt (by decide) bX)
        have g6:(j.Next:List UInt8)=j.Next:=by rfl
        have jI:(j.Next).length=(j.Next).length:=by rw [← g6];try (first|rfl|simp only [List.length_set]|simp)
        have jJ:=(gc (gc (gc (gc dY y) r) s) ba)
        have u5:=(FN (tC jJ bC (fun g hg hlt hk=>Ii jJ cH (by decide) g hg hk)) dt (by decide) bX)
        have g7:(j.Cur.Key:List UInt8)=j.Cur.Key:=by rfl
        have jK:(j.Cur.Key).length=(j.Cur.Key).length:=by rw [← g7];try (first|rfl|simp only [List.length_set]|simp)
        have jL:=(gc (gc (gc (gc dZ y) r) s) ba)
        have u6:=(FN (tC jL bC (fun g hg hlt hk=>Ii jL cH (by decide) g hg hk)) dt (by decide) bX)
        have g8:(j.Cur.Win.Bits:List Int)=j.Cur.Win.Bits:=by rfl
        have jM:(j.Cur.Win.Bits).length=(j.Cur.Win.Bits).length:=by rw [← g8];try (first|rfl|simp only [List.length_set]|simp)
        have jN:=(gc (gc (gc (gc ea y) r) s) ba)
        have u7:=(FN (tC jN bC (fun g hg hlt hk=>Ii jN cH (by decide) g hg hk)) dt (by decide) bX)
        have g9:(j.Old.Key:List UInt8)=j.Old.Key:=by rfl
        have jO:(j.Old.Key).length=(j.Old.Key).length:=by rw [← g9];try (first|rfl|simp only [List.length_set]|simp)
        have d3:=fun (E sz n:Nat) (v:Value) (K:List Value) (o:World.ownsRow O am.heap.size E sz v n K) (ai:World.ownsRow O am.heap.size E sz v n K)=>(tC (tC (gc (gc o s) ba) bC (fun g hg hlt hk=>by have b6:=(uI ai g hg).1;have b7:=(uI ae g hk).2;have aJ:=(z2 a1 y);omega)) bX (ne1 ai (nL aI (z8 I H M D R av a1 y))))
        have u8:=(d3 _ _ _ _ _ c7 c7)
        have jP:(((ob d b f m).1).Sn:List UInt8)=((ob d b f m).1).Sn:=by rfl
        have u9:=(d3 _ _ _ _ _ cD cD)
        have jQ:(((((ob d b f m).1).Old).Win).Bits:List Int)=((ob d b f m).1).Old.Win.Bits:=by rfl
        have uO:=(d3 _ _ _ _ _ cE cE)
        have jR:(((ob d b f m).1).Next:List UInt8)=((ob d b f m).1).Next:=by rfl
        have uR:=(d3 _ _ _ _ _ c8 c8)
        have jS:((((ob d b f m).1).Cur).Key:List UInt8)=((ob d b f m).1).Cur.Key:=by rfl
        have uS:=(d3 _ _ _ _ _ c9 c9)
        have jT:(((((ob d b f m).1).Cur).Win).Bits:List Int)=((ob d b f m).1).Cur.Win.Bits:=by rfl
        have uT:=(d3 _ _ _ _ _ cC cC)
        have jU:((((ob d b f m).1).Old).Key:List UInt8)=((ob d b f m).1).Old.Key:=by rfl
        have uU:=(tC uw bX (ne1 ae (nL aI (z5 I H M D R))))
        have uV:(((g).set ((((Gt d (4+((m:Nat):Int))) % 5)).toNat) true):List PBl)=((g).set ((((Gt d (4+((m:Nat):Int))) % 5)).toNat) true):=by rfl
        have uW:=((((((bc.kp y).kp r).kp s).kp ba).ch bC (fun h=>by have:=(uI ae _ h).1;have:=nL a7 (z6 aj I H M D R);omega)).ch bX (nN (nL a7 (an))))
        refine FX (w0:=b4) [(0,(vs ax d.length a6)),(3,(vp aP 0)),(4,(vp aQ 0)),(5,(.slice F (f).length G)),(10,(vs P ([false,false,false,false,false]:List PBl).length Q)),(11,(vi (((m+1):Nat):Int)))] ?_ ?_ ?_
        · exact ⟨rfl,rfl,rfl,(cA (fun m:Nat=>Value.slice F m G) g3),rfl,(cA (Value.int .i64) (show ((((m:Nat):Int)+1):Int)=(((m+1):Nat):Int) by omega)),trivial⟩
        · have d4:=z11 a0 af aj I H M D R av a1 y
          exact fun u=>⟨(m+1),((ob d b f m).1),((g).set ((((Gt d (4+((m:Nat):Int))) % 5)).toNat) true),j,f,u,F,G,ab3_1x,cb3_1x,ab3_11x,cb3_11x,ab3_14x,cb3_14x,ab3_3x,cb3_3x,ab3_6x,cb3_6x,ab3_8x,cb3_8x,bG,bH,bO,bP,bQ,bR,bI,bJ,bK,bL,bM,bN,rfl,u0,((((((((Ch.refl (fun k=>aM.heap.size≤k) ah).ext a1 (fun k hk=>hk)).extk y).extk r).extk s).extk ba).ext bC (fun k hk=>nT (z7 af aj I H M D R) (uI ae k hk).1)).ext bX (fun k hk=>by subst hk;exact nT af.size an)),(by omega),(by first|with_reducible exact Qt ak|(have hz:=(KD (z:=Ik) ak ce b8 b9 hmm (Gt d 3)).2.2;rw [← aU] at hz;exact hz)),(by first|exact cm|exact bE),(by first|exact aU|exact cs),⟨(by rw [← g3,← jC];exact u1),(by rw [← g3];first|exact eE|(simp only [List.length_append,List.length_take,List.length_replicate];omega))⟩,⟨(by rw [← jE,← g4];exact u2),(by rw [← jE];first|exact dj|(simp only [List.length_append,List.length_take,List.length_replicate];omega))⟩,⟨(by rw [← jG,← g5];exact u3),(by rw [← jG];first|exact dk|(simp only [List.length_append,List.length_take,List.length_replicate];omega))⟩,⟨(by rw [← jI,← g6];exact u4),(by rw [← jI];first|exact dl|(simp only [List.length_append,List.length_take,List.length_replicate];omega))⟩,⟨(by rw [← jK,← g7];exact u5),(by rw [← jK];first|exact dm|(simp only [List.length_append,List.length_take,List.length_replicate];omega))⟩,⟨(by rw [← jM,← g8];exact u6),(by rw [← jM];first|exact dn|(simp only [List.length_append,List.length_take,List.length_replicate];omega))⟩,⟨(by rw [← jO,← g9];exact u7),(by rw [← jO];first|exact dp|(simp only [List.length_append,List.length_take,List.length_replicate];omega))⟩,(jP ▸ ⟨(tA u8 d4),eT⟩),(jQ ▸ ⟨(tA u9 d4),eX⟩),(jR ▸ ⟨(tA uO d4),eY⟩),(jS ▸ ⟨(tA uR d4),eU⟩),(jT ▸ ⟨(tA uS d4),eV⟩),(jU ▸ ⟨(tA uT d4),eW⟩),(by rw [← uV];exact uU),(by have hb:=uW;first|exact hb|(rw [g4,g5,g6,g7,g8,g9] at hb;exact hb)),(by have hb:=uz;first|exact hb|(rw [jP,jQ,jR,jS,jT,jU] at hb;exact hb))⟩
        · show (20 - (((m+1):Nat):Int)).toNat < (20 - ((m:Nat):Int)).toNat;omega
      have EV:=dT aF
      refine Ga ([(99,[],[],(fun _ v _=>v=(vs P ([false,false,false,false,false]:List PBl).length Q))),(100,[],[],(fun _ v _=>v=(vi ((Gt d (4+((m:Nat):Int))) % 5)))),(101,[],[0,1],(fun _ v _=>v=(ve (vs P ([false,false,false,false,false]:List PBl).length Q) ((((Gt d (4+((m:Nat):Int))) % 5)).toNat*1)))),(102,[],[0,1,2],(fun _ v _=>v=(vb ((g).getD (((Gt d (4+((m:Nat):Int))) % 5)).toNat Hd)))),(103,[],[0,1,2,3],(fun _ v _=>v=(vb ((g).getD (((Gt d (4+((m:Nat):Int))) % 5)).toNat Hd)))),(104,[],[0,1,2,3,4],(fun _ v _=>v=U)),(105,[],[0,1,2,3,4,5],(fun _ v _=>v=U)),(106,[],[0,1,2,3,4,5,6],(fun _ v _=>v=(vb false))),(107,[],[0,1,2,3,4,5,6,7],(fun _ v _=>v=(vb false))),(108,[],[0,1,2,3,4,5,6,7,8],(fun _ v _=>v=(vs P ([false,false,false,false,false]:List PBl).length Q))),(109,[],[0,1,2,3,4,5,6,7,8],(fun _ v _=>v=(vi ((Gt d (4+((m:Nat):Int))) % 5)))),(110,[],[0,1,2,3,4,5,6,7,8,9,10],(fun _ v _=>v=(ve (vs P ([false,false,false,false,false]:List PBl).length Q) ((((Gt d (4+((m:Nat):Int))) % 5)).toNat*1)))),(111,[],[0,1,2,3,4,5,6,7,8,9,10,11],(fun _ v _=>v=(vb ((g).getD (((Gt d (4+((m:Nat):Int))) % 5)).toNat Hd)))),(112,[],[0,1,2,3,4,5,6,7,8,9,10,11,12],(fun _ v _=>v=(vb (!((g).getD (((Gt d (4+((m:Nat):Int))) % 5)).toNat Hd))))),(113,[],[0,1,2,3,4,5,6,7,8,9,10,11,12,13],(fun _ v _=>v=(vb (!((g).getD (((Gt d (4+((m:Nat):Int))) % 5)).toNat Hd))))),(114,[],[0,1,2,3,4,5,6,7,8,9,10,11,12,13,14],(fun _ v _=>v=(vi ((ob d b f m).2.2)))),(115,[],[0,1,2,3,4,5,6,7,8,9,10,11,12,13,14,15],(fun _ v _=>v=(vb (!(decide ((ob d b f m).2.2=0)))))),(116,[],[0,1,2,3,4,5,6,7,8,9,10,11,12,13,14,15,16],(fun _ v _=>v=(vb (!(decide ((ob d b f m).2.2=0)))))),(117,[],[0,1,2,3,4,5,6,7,8,9,10,11,12,13,14,15,16,17],(fun _ v _=>v=(vs cg ((ob d b f m).2.1).length ci))),(118,[],[0,1,2,3,4,5,6,7,8,9,10,11,12,13,14,15,16,17,18],(fun _ v _=>v=(vi (((ob d b f m).2.1).length:Int)))),(119,[],[0,1,2,3,4,5,6,7,8,9,10,11,12,13,14,15,16,17,18,19],(fun _ v _=>v=(vb (!(decide ((((ob d b f m).2.1).length:Int)=2)))))),(120,[],[0,1,2,3,4,5,6,7,8,9,10,11,12,13,14,15,16,17,18,19,20],(fun _ v _=>v=(vb (!(decide ((((ob d b f m).2.1).length:Int)=2)))))),(121,[],[0,1,2,3,4,5,6,7,8,9,10,11,12,13,14,15,16,17,18,19,20,21],(fun _ v _=>v=(vb (!(decide ((((ob d b f m).2.1).length:Int)=2)))))),(122,[],[0,1,2,3,4,5,6,7,8,9,10,11,12,13,14,15,16,17,18,19,20,21,22],(fun _ v _=>v=(vs cg ((ob d b f m).2.1).length ci))),(123,[],[0,1,2,3,4,5,6,7,8,9,10,11,12,13,14,15,16,17,18,19,20,21,22,23],(fun _ v _=>v=(ve (vs cg ((ob d b f m).2.1).length ci) ((0:Int).toNat*1)))),(124,[],[0,1,2,3,4,5,6,7,8,9,10,11,12,13,14,15,16,17,18,19,20,21,22,23,24],(fun _ v _=>v=(v8 ((((ob d b f m).2.1).getD 0 0).toNat:Int)))),(125,[],[0,1,2,3,4,5,6,7,8,9,10,11,12,13,14,15,16,17,18,19,20,21,22,23,24,25],(fun _ v _=>v=(vi ((((ob d b f m).2.1).getD 0 0).toNat:Int)))),(126,[],[0,1,2,3,4,5,6,7,8,9,10,11,12,13,14,15,16,17,18,19,20,21,22],(fun _ v _=>v=(vi ((Gt d (4+((m:Nat):Int))) % 5)))),(127,[],[0,1,2,3,4,5,6,7,8,9,10,11,12,13,14,15,16,17,18,19,20,21,22,23,24,25,26,27],(fun _ v _=>v=(vb (!(decide (((((ob d b f m).2.1).getD 0 0).toNat:Int)=((Gt d (4+((m:Nat):Int))) % 5))))))),(128,[],[0,1,2,3,4,5,6,7,8,9,10,11,12,13,14,15,16,17,18,19,20,21,22,23,24,25,26,27,28],(fun _ v _=>v=(vb (!(decide (((((ob d b f m).2.1).getD 0 0).toNat:Int)=((Gt d (4+((m:Nat):Int))) % 5))))))),(129,[],[0,1,2,3,4,5,6,7,8,9,10,11,12,13,14,15,16,17,18,19,20,21,22,23,24,25,26,27,28,29],(fun _ v _=>v=(vb (!(decide (((((ob d b f m).2.1).getD 0 0).toNat:Int)=((Gt d (4+((m:Nat):Int))) % 5))))))),(130,[],[0,1,2,3,4,5,6,7,8,9,10,11,12,13,14,15,16,17,18,19,20,21,22,23,24,25,26,27,28,29,30],(fun _ v _=>v=(vb (!(decide (((((ob d b f m).2.1).getD 0 0).toNat:Int)=((Gt d (4+((m:Nat):Int))) % 5))))))),(131,[],[0,1,2,3,4,5,6,7,8,9,10,11,12,13,14,15,16,17,18,19,20,21,22,23,24,25,26,27,28,29,30,31],(fun _ v _=>v=(vb (!(decide (((((ob d b f m).2.1).getD 0 0).toNat:Int)=((Gt d (4+((m:Nat):Int))) % 5))))))),(132,[],[0,1,2,3,4,5,6,7,8,9,10,11,12,13,14,15,16,17,18,19,20,21,22,23,24,25,26,27,28,29,30,31,32],(fun _ v _=>v=(vi ((ob d j f m).2.2)))),(133,[],[0,1,2,3,4,5,6,7,8,9,10,11,12,13,14,15,16,17,18,19,20,21,22,23,24,25,26,27,28,29,30,31,32,33],(fun _ v _=>v=(vb (decide ((ob d j f m).2.2=0))))),(134,[],[0,1,2,3,4,5,6,7,8,9,10,11,12,13,14,15,16,17,18,19,20,21,22,23,24,25,26,27,28,29,30,31,32,33,34],(fun _ v _=>v=(vb (decide ((ob d j f m).2.2=0))))),(135,[],[0,1,2,3,4,5,6,7,8,9,10,11,12,13,14,15,16,17,18,19,20,21,22,23,24,25,26,27,28,29,30,31,32,33,34,35],(fun _ v _=>v=(va [(vi j.Role),(vs ab3_1x (j.Sn).length cb3_1x),(vi j.Cur.N),(vs ab3_3x (j.Cur.Key).length cb3_3x),(vi j.Cur.Seq),(vi j.Cur.Win.Top),(vs ab3_6x (j.Cur.Win.Bits).length cb3_6x),(vi j.Old.N),(vs ab3_8x (j.Old.Key).length cb3_8x),(vi j.Old.Seq),(vi j.Old.Win.Top),(vs ab3_11x (j.Old.Win.Bits).length cb3_11x),(vb j.HasOld),(vi j.Until),(vs ab3_14x (j.Next).length cb3_14x)]))),(136,[],[0,1,2,3,4,5,6,7,8,9,10,11,12,13,14,15,16,17,18,19,20,21,22,23,24,25,26,27,28,29,30,31,32,33,34,35],(fun _ v _=>v=(vs F (f).length G))),(137,[],[0,1,2,3,4,5,6,7,8,9,10,11,12,13,14,15,16,17,18,19,20,21,22,23,24,25,26,27,28,29,30,31,32,33,34,35],(fun _ v _=>v=(vi ((Gt d (4+((m:Nat):Int))) % 5)))),(138,[],[0,1,2,3,4,5,6,7,8,9,10,11,12,13,14,15,16,17,18,19,20,21,22,23,24,25,26,27,28,29,30,31,32,33,34,35,37,38],(fun _ v _=>v=(ve (vs F (f).length G) ((((Gt d (4+((m:Nat):Int))) % 5)).toNat*11)))),(139,[],[0,1,2,3,4,5,6,7,8,9,10,11,12,13,14,15,16,17,18,19,20,21,22,23,24,25,26,27,28,29,30,31,32,33,34,35,37,38,39],(fun _ v _=>v=(va [(vi ((fx d f m).Kind)),(vi ((fx d f m).Id)),(vs cv (fx d f m).Cn.length cw),(vs cx (fx d f m).Sn.length cy),(vi ((fx d f m).Tick)),(vs cz (fx d f m).Cookie.length c0),(vs c1 (fx d f m).Proof.length c2),(vi ((fx d f m).Epoch)),(vi ((fx d f m).Seq)),(vs c3 (fx d f m).Body.length c4),(vs c5 (fx d f m).Tag.length c6)])))]:GV) (fun _ A=>Keep az A) [] GU rfl (by kernel_rfl) (by kernel_rfl) ?_ (fun _ _ h=>h) (fun _ _ _ _ h _ k=>h.trans k) trivial ?_ ?_ ?_
      ·exact ⟨hV,hE,⟨hV,hE,⟨hV,hE,⟨hV,hE,⟨hV,hE,⟨hV,hE,⟨hV,hE,⟨hV,hE,⟨hV,hE,⟨hV,hE,⟨hV,hE,⟨hV,hE,⟨hV,hE,⟨hV,hE,⟨hV,hE,⟨hV,hE,⟨hV,hE,⟨hV,hE,⟨hV,hE,⟨hV,hE,⟨hV,hE,⟨hV,hE,⟨hV,hE,⟨hV,hE,⟨hV,hE,⟨hV,hE,⟨hV,hE,⟨hV,hE,⟨hV,hE,⟨hV,hE,⟨hV,hE,⟨hV,hE,⟨hV,hE,⟨hV,hE,⟨hV,hE,⟨hV,hE,⟨hV,hE,⟨hV,hE,⟨hV,hE,⟨hV,hE,⟨hV,hE,trivial⟩⟩⟩⟩⟩⟩⟩⟩⟩⟩⟩⟩⟩⟩⟩⟩⟩⟩⟩⟩⟩⟩⟩⟩⟩⟩⟩⟩⟩⟩⟩⟩⟩⟩⟩⟩⟩⟩⟩⟩⟩
      ·exact trivial
      ·refine ⟨?_,⟨?_,⟨?_,⟨?_,⟨?_,⟨?_,⟨?_,⟨?_,⟨?_,⟨?_,⟨?_,⟨?_,⟨?_,⟨?_,⟨?_,⟨?_,⟨?_,⟨?_,⟨?_,⟨?_,⟨?_,⟨?_,⟨?_,⟨?_,⟨?_,⟨?_,⟨?_,⟨?_,⟨?_,⟨?_,⟨?_,⟨?_,⟨?_,⟨?_,⟨?_,⟨?_,⟨?_,⟨?_,⟨?_,⟨?_,⟨?_,trivial⟩⟩⟩⟩⟩⟩⟩⟩⟩⟩⟩⟩⟩⟩⟩⟩⟩⟩⟩⟩⟩⟩⟩⟩⟩⟩⟩⟩⟩⟩⟩⟩⟩⟩⟩⟩⟩⟩⟩⟩⟩
       ·intro _ p EW _
        iterate 41 intro _
        refine sw<|mw (vs P ([false,false,false,false,false]:List PBl).length Q) ?_
        exact f1
       ·intro _ p EX _
        iterate 41 intro _
        refine sw<|mw (vi ((Gt d (4+((m:Nat):Int))) % 5)) ?_
        exact f1
       ·intro _ p uX _
        rintro _ rfl _ rfl;iterate 39 intro _
        refine sw ?_
        have uY:=(gc (gc (gc (gc a2 y) r) s) uX)
        refine ix wN ((Gt d (4+((m:Nat):Int))) % 5) IA (Rd.of_own uY) ?_
        exact f1
       ·intro _ p uZ _
        rintro _ rfl _ rfl _ rfl;iterate 38 intro _
        refine sw ?_
        have vc:=(gc (gc (gc (gc a2 y) r) s) uZ)
        refine GW (vb ((g).getD (((Gt d (4+((m:Nat):Int))) % 5)).toNat Hd)) wN rfl rfl rfl rfl HX (Rd.of_own vc) ((Jq (i:=0) Hh Hd (by first|rfl|simp|omega) (by decide) (by first|omega|(simp <;> omega))).trans rfl) ?_
        exact f1
       ·intro _ p EY _
        rintro _ rfl _ rfl _ rfl _ rfl;iterate 37 intro _
        refine sw<|mw (vb ((g).getD (((Gt d (4+((m:Nat):Int))) % 5)).toNat Hd)) ?_
        exact f1
       ·intro _ p EZ _
        rintro _ rfl _ rfl _ rfl _ rfl _ rfl;iterate 36 intro _
        refine sw<|sk J ?_
        exact f1
       ·intro _ p Fa _
        rintro _ rfl _ rfl _ rfl _ rfl _ rfl _ rfl;iterate 35 intro _
        refine sw<|sk J ?_
        exact f1
       ·intro _ p Fb _
        rintro _ rfl _ rfl _ rfl _ rfl _ rfl _ rfl _ rfl;iterate 34 intro _
        refine sw<|pf (vb false) wN J ?_
        exact f1
       ·intro _ p Fc _
        rintro _ rfl _ rfl _ rfl _ rfl _ rfl _ rfl _ rfl _ rfl;iterate 33 intro _
        refine sw<|mw (vb false) ?_
        exact f1
       ·intro _ p Fd _
        rintro _ rfl _ rfl _ rfl _ rfl _ rfl _ rfl _ rfl _ rfl _ rfl;iterate 32 intro _
        refine sw<|mv (vs P ([false,false,false,false,false]:List PBl).length Q) (wS F1) ?_
        exact f1
       ·intro _ p Fe _
        rintro _ rfl _ rfl _ rfl _ rfl _ rfl _ rfl _ rfl _ rfl _ rfl;iterate 32 intro _
        refine sw<|mv (vi ((Gt d (4+((m:Nat):Int))) % 5)) (wS F1) ?_
        exact f1
       ·intro _ p vd _
        rintro _ rfl _ rfl _ rfl _ rfl _ rfl _ rfl _ rfl _ rfl _ rfl _ rfl _ rfl;iterate 30 intro _
        refine sw ?_
        have vf:=(gc (gc (gc (gc a2 y) r) s) vd)
        refine ix (wS F1) ((Gt d (4+((m:Nat):Int))) % 5) IA (Rd.of_own vf) ?_
        exact f1
       ·intro _ p vg _
        rintro _ rfl _ rfl _ rfl _ rfl _ rfl _ rfl _ rfl _ rfl _ rfl _ rfl _ rfl _ rfl;iterate 29 intro _
        refine sw ?_
        have vh:=(gc (gc (gc (gc a2 y) r) s) vg)
        refine GW (vb ((g).getD (((Gt d (4+((m:Nat):Int))) % 5)).toNat Hd)) (wS F1) rfl rfl rfl rfl HX (Rd.of_own vh) ((Jq (i:=0) Hh Hd (by first|rfl|simp|omega) (by decide) (by first|omega|(simp <;> omega))).trans rfl) ?_
        exact f1
       ·intro _ p Ff _
        rintro _ rfl _ rfl _ rfl _ rfl _ rfl _ rfl _ rfl _ rfl _ rfl _ rfl _ rfl _ rfl _ rfl;iterate 28 intro _
        refine sw<|pu (vb (!((g).getD (((Gt d (4+((m:Nat):Int))) % 5)).toNat Hd))) (wS F1) ?_
        exact f1
       ·intro _ p Fg _
        rintro _ rfl _ rfl _ rfl _ rfl _ rfl _ rfl _ rfl _ rfl _ rfl _ rfl _ rfl _ rfl _ rfl _ rfl;iterate 27 intro _
        refine sw<|mv (vb (!((g).getD (((Gt d (4+((m:Nat):Int))) % 5)).toNat Hd))) (wS F1) ?_
        exact f1
       ·intro _ p Fh _
        rintro _ rfl _ rfl _ rfl _ rfl _ rfl _ rfl _ rfl _ rfl _ rfl _ rfl _ rfl _ rfl _ rfl _ rfl _ rfl;iterate 26 intro _
        refine sw<|mv (vi ((ob d b f m).2.2)) (wS (cA not J)) ?_
        exact f1
       ·intro _ p Fi _
        rintro _ rfl _ rfl _ rfl _ rfl _ rfl _ rfl _ rfl _ rfl _ rfl _ rfl _ rfl _ rfl _ rfl _ rfl _ rfl _ rfl;iterate 25 intro _
        refine sw<|pu (vb (!(decide ((ob d b f m).2.2=0)))) (wS (cA not J)) ?_
        exact f1
       ·intro _ p Fj _
        rintro _ rfl _ rfl _ rfl _ rfl _ rfl _ rfl _ rfl _ rfl _ rfl _ rfl _ rfl _ rfl _ rfl _ rfl _ rfl _ rfl _ rfl;iterate 24 intro _
        refine sw<|mv (vb (!(decide ((ob d b f m).2.2=0)))) (wS (cA not J)) ?_
        exact f1
       ·intro _ p Fk _
        rintro _ rfl _ rfl _ rfl _ rfl _ rfl _ rfl _ rfl _ rfl _ rfl _ rfl _ rfl _ rfl _ rfl _ rfl _ rfl _ rfl _ rfl _ rfl;iterate 23 intro _
        refine sw<|mv (vs cg ((ob d b f m).2.1).length ci) (wS (cA not bW)) ?_
        exact f1
       ·intro _ p vj _
        rintro _ rfl _ rfl _ rfl _ rfl _ rfl _ rfl _ rfl _ rfl _ rfl _ rfl _ rfl _ rfl _ rfl _ rfl _ rfl _ rfl _ rfl _ rfl _ rfl;iterate 22 intro _
        refine sw ?_
        have vk:=fun (E sz n:Nat) (v:Value) (K:List Value) (o:World.ownsRow O am.heap.size E sz v n K) (ai:World.ownsRow O am.heap.size E sz v n K)=>(gc (gc o s) vj)
        have vl:=(vk _ _ _ _ _ bS bS)
        refine ln (wS (cA not bW)) tD (Rd.of_own vl) ?_
        exact f1
       ·intro _ p Fl _
        rintro _ rfl _ rfl _ rfl _ rfl _ rfl _ rfl _ rfl _ rfl _ rfl _ rfl _ rfl _ rfl _ rfl _ rfl _ rfl _ rfl _ rfl _ rfl _ rfl _ rfl;iterate 21 intro _
        refine sw<|pu (vb (!(decide ((((ob d b f m).2.1).length:Int)=2)))) (wS (cA not bW)) ?_
        exact f1
       ·intro _ p Fm _
        rintro _ rfl _ rfl _ rfl _ rfl _ rfl _ rfl _ rfl _ rfl _ rfl _ rfl _ rfl _ rfl _ rfl _ rfl _ rfl _ rfl _ rfl _ rfl _ rfl _ rfl _ rfl;iterate 20 intro _
        refine sw<|pf (vb (!(decide ((((ob d b f m).2.1).length:Int)=2)))) (wS (cA not J)) (cA not bW) ?_
        exact f1
       ·intro _ p Fo _
        rintro _ rfl _ rfl _ rfl _ rfl _ rfl _ rfl _ rfl _ rfl _ rfl _ rfl _ rfl _ rfl _ rfl _ rfl _ rfl _ rfl _ rfl _ rfl _ rfl _ rfl _ rfl _ rfl;iterate 19 intro _
        refine sw<|mv (vb (!(decide ((((ob d b f m).2.1).length:Int)=2)))) (wS (cA not J)) ?_
        exact f1
       ·intro _ p Fp _
        rintro _ rfl _ rfl _ rfl _ rfl _ rfl _ rfl _ rfl _ rfl _ rfl _ rfl _ rfl _ rfl _ rfl _ rfl _ rfl _ rfl _ rfl _ rfl _ rfl _ rfl _ rfl _ rfl _ rfl;iterate 18 intro _
        refine sw<|mv (vs cg ((ob d b f m).2.1).length ci) (wS (cA not aH)) ?_
        exact f1
       ·intro _ p vm _
        rintro _ rfl _ rfl _ rfl _ rfl _ rfl _ rfl _ rfl _ rfl _ rfl _ rfl _ rfl _ rfl _ rfl _ rfl _ rfl _ rfl _ rfl _ rfl _ rfl _ rfl _ rfl _ rfl _ rfl _ rfl;iterate 17 intro _
        refine sw ?_
        have vn:=fun (E sz n:Nat) (v:Value) (K:List Value) (o:World.ownsRow O am.heap.size E sz v n K) (ai:World.ownsRow O am.heap.size E sz v n K)=>(gc (gc o s) vm)
        have vo:=(vn _ _ _ _ _ bS bS)
        refine ix (wS (cA not aH)) 0 tD (Rd.of_own vo) ?_
        exact f1
       ·intro _ p vq _
        rintro _ rfl _ rfl _ rfl _ rfl _ rfl _ rfl _ rfl _ rfl _ rfl _ rfl _ rfl _ rfl _ rfl _ rfl _ rfl _ rfl _ rfl _ rfl _ rfl _ rfl _ rfl _ rfl _ rfl _ rfl _ rfl;iterate 16 intro _
        refine sw ?_
        have vr:=fun (E sz n:Nat) (v:Value) (K:List Value) (o:World.ownsRow O am.heap.size E sz v n K) (ai:World.ownsRow O am.heap.size E sz v n K)=>(gc (gc o s) vq)
        have vt:=(vr _ _ _ _ _ bS bS)
        refine eb (x:=(ob d b f m).2.1) 0 (wS (cA not aH)) HI (Rd.of_own vt) ?_
        exact f1
       ·intro _ p Fq _
        rintro _ rfl _ rfl _ rfl _ rfl _ rfl _ rfl _ rfl _ rfl _ rfl _ rfl _ rfl _ rfl _ rfl _ rfl _ rfl _ rfl _ rfl _ rfl _ rfl _ rfl _ rfl _ rfl _ rfl _ rfl _ rfl _ rfl;iterate 15 intro _
        refine sw<|ar ((((ob d b f m).2.1).getD 0 0).toNat:Int) (wS (cA not aH)) ?_
        exact f1
       ·intro _ p Fr _
        rintro _ rfl _ rfl _ rfl _ rfl _ rfl _ rfl _ rfl _ rfl _ rfl _ rfl _ rfl _ rfl _ rfl _ rfl _ rfl _ rfl _ rfl _ rfl _ rfl _ rfl _ rfl _ rfl _ rfl;iterate 18 intro _
        refine sw<|mv (vi ((Gt d (4+((m:Nat):Int))) % 5)) (wS (cA not aH)) ?_
        exact f1
       ·intro _ p Fs _
        rintro _ rfl _ rfl _ rfl _ rfl _ rfl _ rfl _ rfl _ rfl _ rfl _ rfl _ rfl _ rfl _ rfl _ rfl _ rfl _ rfl _ rfl _ rfl _ rfl _ rfl _ rfl _ rfl _ rfl _ rfl _ rfl _ rfl _ rfl _ rfl;iterate 13 intro _
        refine sw<|pu (vb (!(decide (((((ob d b f m).2.1).getD 0 0).toNat:Int)=((Gt d (4+((m:Nat):Int))) % 5))))) (wS (cA not aH)) ?_
        exact f1
       ·intro _ p Ft _
        iterate 29 rintro _ rfl
        iterate 12 intro _
        refine sw<|pf (vb (!(decide (((((ob d b f m).2.1).getD 0 0).toNat:Int)=((Gt d (4+((m:Nat):Int))) % 5))))) (wS (cA not J)) (cA not aH) ?_
        exact f1
       ·intro _ p Fu _
        iterate 30 rintro _ rfl
        iterate 11 intro _
        refine sw<|pk (vb (!(decide (((((ob d b f m).2.1).getD 0 0).toNat:Int)=((Gt d (4+((m:Nat):Int))) % 5))))) (wS F1) (cA not J) ?_
        exact f1
       ·intro _ p Fv _
        iterate 31 rintro _ rfl
        intro _ _ _ _ _ _ _ _ _ _
        refine sw<|pf (vb (!(decide (((((ob d b f m).2.1).getD 0 0).toNat:Int)=((Gt d (4+((m:Nat):Int))) % 5))))) wN F1 ?_
        exact f1
       ·intro _ p Fw _
        iterate 32 rintro _ rfl
        intro _ _ _ _ _ _ _ _ _
        refine sw<|mw (vb (!(decide (((((ob d b f m).2.1).getD 0 0).toNat:Int)=((Gt d (4+((m:Nat):Int))) % 5))))) ?_
        exact f1
       ·intro _ p Fx _
        iterate 33 rintro _ rfl
        intro _ _ _ _ _ _ _ _
        refine sw<|mv (vi ((ob d j f m).2.2)) (wS (cA not aZ)) ?_
        exact f1
       ·intro _ p Fy _
        iterate 34 rintro _ rfl
        intro _ _ _ _ _ _ _
        refine sw<|pu (vb (decide ((ob d j f m).2.2=0))) (wS (cA not aZ)) ?_
        exact f1
       ·intro _ p Fz _
        iterate 35 rintro _ rfl
        intro _ _ _ _ _ _
        refine sw<|mv (vb (decide ((ob d j f m).2.2=0))) (wS (cA not aZ)) ?_
        exact f1
       ·intro _ p vu _
        iterate 36 rintro _ rfl
        intro _ _ _ _ _
        refine sw ?_
        have vv:=((((bc.kp y).kp r).kp s).kp vu)
        refine lN [(vi j.Role),(vs ab3_1x (j.Sn).length cb3_1x),(vi j.Cur.N),(vs ab3_3x (j.Cur.Key).length cb3_3x),(vi j.Cur.Seq),(vi j.Cur.Win.Top),(vs ab3_6x (j.Cur.Win.Bits).length cb3_6x),(vi j.Old.N),(vs ab3_8x (j.Old.Key).length cb3_8x),(vi j.Old.Seq),(vi j.Old.Win.Top),(vs ab3_11x (j.Old.Win.Bits).length cb3_11x),(vb j.HasOld),(vi j.Until),(vs ab3_14x (j.Next).length cb3_14x)] (wS aF) wb uC vv ?_
        exact f1
       ·intro _ p F0 _
        iterate 36 rintro _ rfl
        intro _ _ _ _ _
        refine sw<|mv (vs F (f).length G) (wS aF) ?_
        exact f1
       ·intro _ p F2 _
        iterate 36 rintro _ rfl
        intro _ _ _ _ _
        refine sw<|mv (vi ((Gt d (4+((m:Nat):Int))) % 5)) (wS aF) ?_
        exact f1
       ·intro _ p vw _
        iterate 36 rintro _ rfl
        rintro _ _ rfl _ rfl _ _
        refine sw ?_
        have vx:=(OLv.kp (OLv.kp (OLv.kp cn r) s) vw)
        obtain ⟨F3,vy⟩:=RLv.row (OLv.rl vx)
        refine ix (wS aF) ((Gt d (4+((m:Nat):Int))) % 5) Kl vy ?_
        exact f1
       ·intro _ p vz _
        iterate 36 rintro _ rfl
        rintro _ _ rfl _ rfl _ rfl _
        refine sw<|Kv [(vi ((fx d f m).Kind)),(vi ((fx d f m).Id)),(vs cv (fx d f m).Cn.length cw),(vs cx (fx d f m).Sn.length cy),(vi ((fx d f m).Tick)),(vs cz (fx d f m).Cookie.length c0),(vs c1 (fx d f m).Proof.length c2),(vi ((fx d f m).Epoch)),(vi ((fx d f m).Seq)),(vs c3 (fx d f m).Body.length c4),(vs c5 (fx d f m).Tag.length c6)] (wS aF) rfl rfl rfl rfl Gg FD (((eF.kp r).kp s).kp vz) (by first|omega|(simp <;> omega)) ((MO (off:=0) (n:=11) eG (by first|rfl|simp|omega) (by decide)).trans rfl) ?_
        exact f1
      ·intro _ p a5
       iterate 41 rintro _ rfl
       refine sw ?_
       have jV:=(gc (gc (gc (gc dV y) r) s) a5)
       have jW:=(gc (gc (gc (gc dY y) r) s) a5)
       have jX:=(gc (gc (gc (gc dZ y) r) s) a5)
       have jY:=(gc (gc (gc (gc ea y) r) s) a5)
       have jZ:=(gc (gc (gc (gc dW y) r) s) a5)
       have ka:=(gc (gc (gc (gc dX y) r) s) a5)
       have v0:=(gc (gc (gc eH r) s) a5)
       have v1:=(gc (gc (gc eJ r) s) a5)
       have v2:=(gc (gc (gc eL r) s) a5)
       have v3:=(gc (gc (gc eN r) s) a5)
       have v4:=(gc (gc (gc eP r) s) a5)
       have v5:=(gc (gc (gc eR r) s) a5)
       refine cl (wS aF) (MD p _ j (KI (Rd.of_own jV) dj (Rd.of_own jW) dm (Rd.of_own jX) dn (Rd.of_own jY) dp (Rd.of_own jZ) dk (Rd.of_own ka) dl) _ (fx d f m) (IN (Rd.of_own v0) eI (Rd.of_own v1) eK (Rd.of_own v2) eM (Rd.of_own v3) eO (Rd.of_own v4) eQ (Rd.of_own v5) eS)) ?_
       rintro _ gi ⟨bb,rfl⟩
       refine pu (vb (!(Hq j (fx d f m)))) (wS aF) ?_
       refine pk (vb (!(Hq j (fx d f m)))) (wS (cA not aZ)) aF ?_
       refine pf (vb (!(Hq j (fx d f m)))) wN (cA not aZ) ?_
       refine n2 ?_
       rcases bf (Hq j (fx d f m)) with gA|gA
       ·exact Bool.noConfusion ((show (Hq j (fx d f m))=true from decide_eq_true (by rw [cm];exact Qz ak hmm (by rw [← cm];exact dT aF))).symm.trans gA)
       refine cf (cA not gA)<|y1<|mw (vs P ([false,false,false,false,false]:List PBl).length Q) ?_
       refine mw (vi ((Gt d (4+((m:Nat):Int))) % 5)) ?_
       have cI:=(gc (gc (gc (gc (gc a2 y) r) s) a5) bb)
       refine ix wN ((Gt d (4+((m:Nat):Int))) % 5) IA (Rd.of_own cI) ?_
       refine Ku Hh (g) ((((Gt d (4+((m:Nat):Int))) % 5)).toNat) 0 Hd (true) (vb true) [(vb true)] wN rfl rfl rfl (by first|rfl|simp|omega) rfl rfl (Kc rfl Lb) JH cI (by first|omega|(simp only [List.length_append,List.length_replicate,List.length_take,List.length_set,List.length_map];omega)) (by simp) (by simp) rfl ?_
       intro gj bD v6
       have v7:=((fb.extk a5).extk bb).ext bD (fun k hk=>nT (z9 aO a0 af aj I H M D R) (uI ae k hk).1)
       refine uD<|rg<|uG ?_
       have v9:=((((fa.kp s).kp a5).kp bb).ch bD (fun h=>by have:=(uI ae _ h).2;have:=nT (z2 a1 y) eZ;omega))
       refine lN (GH ((ob d b f m).1) bG bH bI bJ bK bL bM bN bO bP bQ bR) wN wb uC v9 ?_
       have du:=((((((cd.kp y).kp r).kp s).kp a5).kp bb).ch bD (fun h=>by have:=(uI ae _ h).1;have:=nL aI (z5 I H M D R);omega))
       refine sv (GH ((ob d b f m).1) bG bH bI bJ bK bL bM bN bO bP bQ bR) wN uC du ?_
       intro tM bY vA F4
       have vB:=v7.ext bY (fun k hk=>by subst hk;exact nT (z3 aO a0 af) an)
       refine uD<|uB<|rg<|uG ?_
       refine mw (vi ((m:Nat):Int)) ?_
       refine ar (((m:Nat):Int)+1) wN ?_
       refine aw (vi (((m:Nat):Int)+1)) ?_
       refine uD ?_
       have vC:=(OLv.ch (OLv.ch (OLv.kp (OLv.kp (OLv.kp (OLv.kp cn r) s) a5) bb) bD (fun g b6 b7 hk=>by have aJ:=(uI ae g hk).1;have gk:=(Nat.le_refl ay.heap.size);omega)) bY (fun g b6 b7 hk=>by have aJ:=nL aI (z3 I H M);omega))
       have kb:(f:List (PFrame))=f:=by rfl
       have gB:(f).length=(f).length:=by rw [← kb];try (first|rfl|simp only [List.length_set]|simp)
       have kc:=(gc jV bb)
       have vD:=(FN (tC kc bD (fun g hg hlt hk=>Ii kc cI (by decide) g hg hk)) du (by decide) bY)
       have gC:(j.Sn:List UInt8)=j.Sn:=by rfl
       have kd:(j.Sn).length=(j.Sn).length:=by rw [← gC];try (first|rfl|simp only [List.length_set]|simp)
       have ke:=(gc jZ bb)
       have vE:=(FN (tC ke bD (fun g hg hlt hk=>Ii ke cI (by decide) g hg hk)) du (by decide) bY)
       have gD:(j.Old.Win.Bits:List Int)=j.Old.Win.Bits:=by rfl
       have kf:(j.Old.Win.Bits).length=(j.Old.Win.Bits).length:=by rw [← gD];try (first|rfl|simp only [List.length_set]|simp)
       have kg:=(gc ka bb)
       have vF:=(FN (tC kg bD (fun g hg hlt hk=>Ii kg cI (by decide) g hg hk)) du (by decide) bY)
       have gE:(j.Next:List UInt8)=j.Next:=by rfl
       have kh:(j.Next).length=(j.Next).length:=by rw [← gE];try (first|rfl|simp only [List.length_set]|simp)
       have ki:=(gc jW bb)
       have vG:=(FN (tC ki bD (fun g hg hlt hk=>Ii ki cI (by decide) g hg hk)) du (by decide) bY)
       have gF:(j.Cur.Key:List UInt8)=j.Cur.Key:=by rfl
       have kj:(j.Cur.Key).length=(j.Cur.Key).length:=by rw [← gF];try (first|rfl|simp only [List.length_set]|simp)
       have kk:=(gc jX bb)
       have vH:=(FN (tC kk bD (fun g hg hlt hk=>Ii kk cI (by decide) g hg hk)) du (by decide) bY)
       have gG:(j.Cur.Win.Bits:List Int)=j.Cur.Win.Bits:=by rfl
       have kl:(j.Cur.Win.Bits).length=(j.Cur.Win.Bits).length:=by rw [← gG];try (first|rfl|simp only [List.length_set]|simp)
       have km:=(gc jY bb)
       have vI:=(FN (tC km bD (fun g hg hlt hk=>Ii km cI (by decide) g hg hk)) du (by decide) bY)
       have gH:(j.Old.Key:List UInt8)=j.Old.Key:=by rfl
       have kn:(j.Old.Key).length=(j.Old.Key).length:=by rw [← gH];try (first|rfl|simp only [List.length_set]|simp)
       have d5:=fun (E sz n:Nat) (v:Value) (K:List Value) (o:World.ownsRow O am.heap.size E sz v n K) (ai:World.ownsRow O am.heap.size E sz v n K)=>(tC (tC (gc (gc (gc o s) a5) bb) bD (fun g hg hlt hk=>by have b6:=(uI ai g hg).1;have b7:=(uI ae g hk).2;have aJ:=(z2 a1 y);omega)) bY (ne1 ai (nL aI (z8 I H M D R av a1 y))))
       have vJ:=(d5 _ _ _ _ _ c7 c7)
       have ko:(((ob d b f m).1).Sn:List UInt8)=((ob d b f m).1).Sn:=by rfl
       have vK:=(d5 _ _ _ _ _ cD cD)
       have kq:(((((ob d b f m).1).Old).Win).Bits:List Int)=((ob d b f m).1).Old.Win.Bits:=by rfl
       have vL:=(d5 _ _ _ _ _ cE cE)
       have kr:(((ob d b f m).1).Next:List UInt8)=((ob d b f m).1).Next:=by rfl
       have vM:=(d5 _ _ _ _ _ c8 c8)
       have ks:((((ob d b f m).1).Cur).Key:List UInt8)=((ob d b f m).1).Cur.Key:=by rfl
       have vN:=(d5 _ _ _ _ _ c9 c9)
       have kt:(((((ob d b f m).1).Cur).Win).Bits:List Int)=((ob d b f m).1).Cur.Win.Bits:=by rfl
       have vO:=(d5 _ _ _ _ _ cC cC)
       have ku:((((ob d b f m).1).Old).Key:List UInt8)=((ob d b f m).1).Old.Key:=by rfl
       have vP:=(tC v6 bY (ne1 ae (nL aI (z5 I H M D R))))
       have vQ:(((g).set ((((Gt d (4+((m:Nat):Int))) % 5)).toNat) true):List PBl)=((g).set ((((Gt d (4+((m:Nat):Int))) % 5)).toNat) true):=by rfl
       have vR:=(((((((bc.kp y).kp r).kp s).kp a5).kp bb).ch bD (fun h=>by have:=(uI ae _ h).1;have:=nL a7 (z6 aj I H M D R);omega)).ch bY (nN (nL a7 (an))))
       refine FX (w0:=b4) [(0,(vs ax d.length a6)),(3,(vp aP 0)),(4,(vp aQ 0)),(5,(.slice F (f).length G)),(10,(vs P ([false,false,false,false,false]:List PBl).length Q)),(11,(vi (((m+1):Nat):Int)))] ?_ ?_ ?_
       · exact ⟨rfl,rfl,rfl,(cA (fun m:Nat=>Value.slice F m G) gB),rfl,(cA (Value.int .i64) (show ((((m:Nat):Int)+1):Int)=(((m+1):Nat):Int) by omega)),trivial⟩
       · have d6:=z11 a0 af aj I H M D R av a1 y
         exact fun u=>⟨(m+1),((ob d b f m).1),((g).set ((((Gt d (4+((m:Nat):Int))) % 5)).toNat) true),j,f,u,F,G,ab3_1x,cb3_1x,ab3_11x,cb3_11x,ab3_14x,cb3_14x,ab3_3x,cb3_3x,ab3_6x,cb3_6x,ab3_8x,cb3_8x,bG,bH,bO,bP,bQ,bR,bI,bJ,bK,bL,bM,bN,rfl,vB,(((((((((Ch.refl (fun k=>aM.heap.size≤k) ah).ext a1 (fun k hk=>hk)).extk y).extk r).extk s).extk a5).extk bb).ext bD (fun k hk=>nT (z7 af aj I H M D R) (uI ae k hk).1)).ext bY (fun k hk=>by subst hk;exact nT af.size an)),(by omega),(by first|with_reducible exact Qt ak|(have hz:=(KD (z:=Ik) ak ce b8 b9 hmm (Gt d 3)).2.2;rw [← aU] at hz;exact hz)),(by first|exact cm|exact bE),(by first|exact aU|exact cs),⟨(by rw [← gB,← kb];exact vC),(by rw [← gB];first|exact eE|(simp only [List.length_append,List.length_take,List.length_replicate];omega))⟩,⟨(by rw [← kd,← gC];exact vD),(by rw [← kd];first|exact dj|(simp only [List.length_append,List.length_take,List.length_replicate];omega))⟩,⟨(by rw [← kf,← gD];exact vE),(by rw [← kf];first|exact dk|(simp only [List.length_append,List.length_take,List.length_replicate];omega))⟩,⟨(by rw [← kh,← gE];exact vF),(by rw [← kh];first|exact dl|(simp only [List.length_append,List.length_take,List.length_replicate];omega))⟩,⟨(by rw [← kj,← gF];exact vG),(by rw [← kj];first|exact dm|(simp only [List.length_append,List.length_take,List.length_replicate];omega))⟩,⟨(by rw [← kl,← gG];exact vH),(by rw [← kl];first|exact dn|(simp only [List.length_append,List.length_take,List.length_replicate];omega))⟩,⟨(by rw [← kn,← gH];exact vI),(by rw [← kn];first|exact dp|(simp only [List.length_append,List.length_take,List.length_replicate];omega))⟩,(ko ▸ ⟨(tA vJ d6),eT⟩),(kq ▸ ⟨(tA vK d6),eX⟩),(kr ▸ ⟨(tA vL d6),eY⟩),(ks ▸ ⟨(tA vM d6),eU⟩),(kt ▸ ⟨(tA vN d6),eV⟩),(ku ▸ ⟨(tA vO d6),eW⟩),(by rw [← vQ];exact vP),(by have hb:=vR;first|exact hb|(rw [gC,gD,gE,gF,gG,gH] at hb;exact hb)),(by have hb:=vA;first|exact hb|(rw [ko,kq,kr,ks,kt,ku] at hb;exact hb))⟩
       · show (20 - (((m+1):Nat):Int)).toNat < (20 - ((m:Nat):Int)).toNat;omega
 refine mw (vs ax d.length a6) ?_
 refine cl wN (Vd eu _ d (FV (d7.from0 gX) (by omega)) 2 (by omega)) ?_
 rintro _ ew ⟨cq,rfl⟩
 have kv:=gX.extk cq
 have F5:=PO d 2
 refine Ig (Gt d 2) 2 wN rfl rfl (by kernel_rfl) (by first|omega|assumption) ?_
 refine pu (vb (decide (((Gt d 2) % 2)=1))) wN ?_
 refine n2 ?_
 rcases bf (decide (((Gt d 2) % 2)=1)) with ed|ed
 ·have F6:=dF ed
  refine cf ed<|FR<|rg ?_
  have bZ:=fun (E sz n:Nat) (v:Value) (K:List Value) (o:World.ownsRow aM C.heap.size E sz v n K) (ai:World.ownsRow aM C.heap.size E sz v n K)=>(gc (tC (tC (gc (gc o af) aj) I (ne2 ai (cr))) H (ne2 ai (nT af.size an))) cq)
  have vS:=(bZ _ _ _ _ _ ef ef)
  have kx:(((B).1).Sn:List UInt8)=((B).1).Sn:=by rfl
  have vT:=(bZ _ _ _ _ _ ek ek)
  have ky:(((((B).1).Old).Win).Bits:List Int)=((B).1).Old.Win.Bits:=by rfl
  have vU:=(bZ _ _ _ _ _ em em)
  have kz:(((B).1).Next:List UInt8)=((B).1).Next:=by rfl
  have vV:=(bZ _ _ _ _ _ eg eg)
  have k1:((((B).1).Cur).Key:List UInt8)=((B).1).Cur.Key:=by rfl
  have vW:=(bZ _ _ _ _ _ eh eh)
  have k2:(((((B).1).Cur).Win).Bits:List Int)=((B).1).Cur.Win.Bits:=by rfl
  have vX:=(bZ _ _ _ _ _ ej ej)
  have k3:((((B).1).Old).Key:List UInt8)=((B).1).Old.Key:=by rfl
  have vY:=(bZ _ _ _ _ _ en en)
  have k4:(((B).2).Sn:List UInt8)=((B).2).Sn:=by rfl
  have vZ:=(bZ _ _ _ _ _ es es)
  have k5:(((((B).2).Old).Win).Bits:List Int)=((B).2).Old.Win.Bits:=by rfl
  have wa:=(bZ _ _ _ _ _ et et)
  have k6:(((B).2).Next:List UInt8)=((B).2).Next:=by rfl
  have wc:=(bZ _ _ _ _ _ eo eo)
  have k7:((((B).2).Cur).Key:List UInt8)=((B).2).Cur.Key:=by rfl
  have wd:=(bZ _ _ _ _ _ ep ep)
  have k8:(((((B).2).Cur).Win).Bits:List Int)=((B).2).Cur.Win.Bits:=by rfl
  have we:=(bZ _ _ _ _ _ er er)
  have k9:((((B).2).Old).Key:List UInt8)=((B).2).Old.Key:=by rfl
  have wf:=((gV.ch H (nN (nL a7 (an)))).kp cq)
  have wg:=(gW.kp cq)
  exact Kk [(0,(vs ax d.length a6)),(2,(vb false)),(3,(vp aP 0)),(4,(vp aQ 0))] ⟨rfl,rfl,rfl,rfl,trivial⟩ fun u=>gZ _ _ ⟨((B).1),((B).2),u,cJ,cK,cR,cS,cT,cU,cL,cM,cN,cO,cP,cQ,cV,cW,dd,de,df,dg,cX,cY,cZ,da,db,dc,rfl,kv,((Ch.refl (fun k=>aM.heap.size≤k) eu).extk cq),(by first|exact (KC (Rh (by assumption)) (by assumption)).1|exact (KC (Rh (by assumption)) (by assumption)).2),(kx ▸ ⟨vS,gJ⟩),(ky ▸ ⟨vT,gN⟩),(kz ▸ ⟨vU,gO⟩),(k1 ▸ ⟨vV,gK⟩),(k2 ▸ ⟨vW,gL⟩),(k3 ▸ ⟨vX,gM⟩),(k4 ▸ ⟨vY,gP⟩),(k5 ▸ ⟨vZ,gT⟩),(k6 ▸ ⟨wa,gU⟩),(k7 ▸ ⟨wc,gQ⟩),(k8 ▸ ⟨wd,gR⟩),(k9 ▸ ⟨we,gS⟩),(by have hb:=wf;first|exact hb|(rw [kx,ky,kz,k1,k2,k3] at hb;exact hb)),(by have hb:=wg;first|exact hb|(rw [k4,k5,k6,k7,k8,k9] at hb;exact hb))⟩
 have F7:=dT ed
 refine ct ed<|uG ?_
 have kA:=(gW.kp cq)
 refine lN (GH ((B).2) cV cW cX cY cZ da db dc dd de df dg) wN wb uC kA ?_
 have kB:=((gV.ch H (nN (nL a7 (an)))).kp cq)
 refine lN (GH ((B).1) cJ cK cL cM cN cO cP cQ cR cS cT cU) wN wb uC kB ?_
 refine sv (GH ((B).2) cV cW cX cY cZ da db dc dd de df dg) wN uC kB ?_
 intro dv fc wh F8
 have wi:=kv.ext fc (fun k hk=>by subst hk;exact nT (z2 aO a0) cr)
 have wk:=(kA.ch fc (Ne.symm (nN (nL a7 (an)))))
 refine sv (GH ((B).1) cJ cK cL cM cN cO cP cQ cR cS cT cU) wN uC wk ?_
 intro ay fd wl F9
 have wm:=wi.ext fd (fun k hk=>by subst hk;exact nT (z3 aO a0 af) an)
 refine n2 ?_
 have ca:=fun (E sz n:Nat) (v:Value) (K:List Value) (o:World.ownsRow aM C.heap.size E sz v n K) (ai:World.ownsRow aM C.heap.size E sz v n K)=>(tC (tC (gc (tC (tC (gc (gc o af) aj) I (ne2 ai (cr))) H (ne2 ai (nT af.size an))) cq) fc (ne2 ai (cr))) fd (ne2 ai (nT af.size an)))
 have wn:=(ca _ _ _ _ _ en en)
 have kC:(((B).2).Sn:List UInt8)=((B).2).Sn:=by rfl
 have wo:=(ca _ _ _ _ _ es es)
 have kD:(((((B).2).Old).Win).Bits:List Int)=((B).2).Old.Win.Bits:=by rfl
 have wp:=(ca _ _ _ _ _ et et)
 have kE:(((B).2).Next:List UInt8)=((B).2).Next:=by rfl
 have wq:=(ca _ _ _ _ _ eo eo)
 have kF:((((B).2).Cur).Key:List UInt8)=((B).2).Cur.Key:=by rfl
 have ws:=(ca _ _ _ _ _ ep ep)
 have kG:(((((B).2).Cur).Win).Bits:List Int)=((B).2).Cur.Win.Bits:=by rfl
 have wt:=(ca _ _ _ _ _ er er)
 have kH:((((B).2).Old).Key:List UInt8)=((B).2).Old.Key:=by rfl
 have wu:=(ca _ _ _ _ _ ef ef)
 have kI:(((B).1).Sn:List UInt8)=((B).1).Sn:=by rfl
 have wv:=(ca _ _ _ _ _ ek ek)
 have kJ:(((((B).1).Old).Win).Bits:List Int)=((B).1).Old.Win.Bits:=by rfl
 have ww:=(ca _ _ _ _ _ em em)
 have kK:(((B).1).Next:List UInt8)=((B).1).Next:=by rfl
 have wx:=(ca _ _ _ _ _ eg eg)
 have kL:((((B).1).Cur).Key:List UInt8)=((B).1).Cur.Key:=by rfl
 have wy:=(ca _ _ _ _ _ eh eh)
 have kM:(((((B).1).Cur).Win).Bits:List Int)=((B).1).Cur.Win.Bits:=by rfl
 have wz:=(ca _ _ _ _ _ ej ej)
 have kN:((((B).1).Old).Key:List UInt8)=((B).1).Old.Key:=by rfl
 have w0:=(wh.ch fd (nN (nL a7 (an))))
 exact Kk [(0,(vs ax d.length a6)),(2,(vb false)),(3,(vp aP 0)),(4,(vp aQ 0))] ⟨rfl,rfl,rfl,rfl,trivial⟩ fun u=>gZ _ _ ⟨((B).2),((B).1),u,cV,cW,dd,de,df,dg,cX,cY,cZ,da,db,dc,cJ,cK,cR,cS,cT,cU,cL,cM,cN,cO,cP,cQ,rfl,wm,((((Ch.refl (fun k=>aM.heap.size≤k) eu).extk cq).ext fc (fun k hk=>by subst hk;exact cr)).ext fd (fun k hk=>by subst hk;exact nT af.size an)),(by first|exact (KC (Rh (by assumption)) (by assumption)).1|exact (KC (Rh (by assumption)) (by assumption)).2),(kC ▸ ⟨wn,gP⟩),(kD ▸ ⟨wo,gT⟩),(kE ▸ ⟨wp,gU⟩),(kF ▸ ⟨wq,gQ⟩),(kG ▸ ⟨ws,gR⟩),(kH ▸ ⟨wt,gS⟩),(kI ▸ ⟨wu,gJ⟩),(kJ ▸ ⟨wv,gN⟩),(kK ▸ ⟨ww,gO⟩),(kL ▸ ⟨wx,gK⟩),(kM ▸ ⟨wy,gL⟩),(kN ▸ ⟨wz,gM⟩),(by have hb:=w0;first|exact hb|(rw [kC,kD,kE,kF,kG,kH] at hb;exact hb)),(by have hb:=wl;first|exact hb|(rw [kI,kJ,kK,kL,kM,kN] at hb;exact hb))⟩
end Go.Proofs.YtacoceibbheccaaGreat.K
