import Derived.Test.YtacoceibbheccaaGreatCore
import Derived.Test.YtacoceibbheccaaGreatProg
import Derived.Test.YtacoceibbheccaaGreatHeld
import Derived.Test.YtacoceibbheccaaGreatFun
import Derived.Test.YtacoceibbheccaaGreatFunZ
import Derived.Test.YtacoceibbheccaaGreatSqz
import Derived.Test.YtacoceibbheccaaGreatHash
import Derived.Test.YtacoceibbheccaaGreatCur
import Derived.Test.YtacoceibbheccaaGreatDrawW
import Derived.Test.YtacoceibbheccaaGreatAead
namespace Go.Proofs.YtacoceibbheccaaGreat.K
open Go.RowKit
set_option linter.unusedVariables false
set_option linter.unusedSimpArgs false
set_option maxRecDepth 100000
set_option maxHeartbeats 4000000
def JY (x:PWin):Int:=(x.Bits.length:Int)
def In (x:PEp):Int:=(x.Key.length:Int)+JY x.Win
def LE (x:PChan):Int:=(x.Sn.length:Int)+In x.Cur+In x.Old+(x.Next.length:Int)
def HM (x:PChan) (k:Int):PChan:={Role:=x.Role,Sn:=JC k x.Sn.length,Cur:={N:=x.Cur.N,Key:=JC (k+(x.Sn.length:Int)) x.Cur.Key.length,Seq:=x.Cur.Seq,Win:={Top:=x.Cur.Win.Top,Bits:=JU ((k+(x.Sn.length:Int))+(x.Cur.Key.length:Int)) x.Cur.Win.Bits.length:PWin}:PEp},Old:={N:=x.Old.N,Key:=JC ((k+(x.Sn.length:Int))+In x.Cur) x.Old.Key.length,Seq:=x.Old.Seq,Win:={Top:=x.Old.Win.Top,Bits:=JU (((k+(x.Sn.length:Int))+In x.Cur)+(x.Old.Key.length:Int)) x.Old.Win.Bits.length:PWin}:PEp},HasOld:=x.HasOld,Until:=x.Until,Next:=JC (((k+(x.Sn.length:Int))+In x.Cur)+In x.Old) x.Next.length:PChan}
abbrev GH (x:PChan) (a:Option Addr) (b:Nat) (d:Option Addr) (e:Nat) (f:Option Addr) (g:Nat) (h:Option Addr) (i:Nat) (j:Option Addr) (k:Nat) (l:Option Addr) (m:Nat):List Value:=[vi x.Role,vs a x.Sn.length b,vi x.Cur.N,vs d x.Cur.Key.length e,vi x.Cur.Seq,vi x.Cur.Win.Top,vs f x.Cur.Win.Bits.length g,vi x.Old.N,vs h x.Old.Key.length i,vi x.Old.Seq,vi x.Old.Win.Top,vs j x.Old.Win.Bits.length k,vb x.HasOld,vi x.Until,vs l x.Next.length m]
def Mv (x:PEp) (k:Int):PEp:={N:=x.N,Key:=JC k x.Key.length,Seq:=x.Seq,Win:={Top:=x.Win.Top,Bits:=JU (k+(x.Key.length:Int)) x.Win.Bits.length:PWin}:PEp}
abbrev Gx (x:PEp) (a:Option Addr) (b:Nat) (d:Option Addr) (e:Nat):List Value:=[vi x.N,vs a x.Key.length b,vi x.Seq,vi x.Win.Top,vs d x.Win.Bits.length e]
def MQ (x:PWin) (k:Int):PWin:={Top:=x.Top,Bits:=JU k x.Bits.length:PWin}
abbrev HQ (x:PWin) (a:Option Addr) (b:Nat):List Value:=[vi x.Top,vs a x.Bits.length b]
theorem tD:SlTy Tryz.prog 22 5 1 1 (v8 0):=Ub Tryz.underlying22 (by kernel_rfl) rfl rfl
def Ro (w:World) (v:Value) (x:(PChan)):Prop:=∃ (a:Option Addr) (b:Nat) (d:Option Addr) (e:Nat) (f:Option Addr) (g:Nat) (h:Option Addr) (i:Nat) (j:Option Addr) (k:Nat) (l:Option Addr) (m:Nat),v=.agg #[.int .i64 x.Role,.slice a x.Sn.length b,.int .i64 x.Cur.N,.slice d x.Cur.Key.length e,.int .i64 x.Cur.Seq,.int .i64 x.Cur.Win.Top,.slice f x.Cur.Win.Bits.length g,.int .i64 x.Old.N,.slice h x.Old.Key.length i,.int .i64 x.Old.Seq,.int .i64 x.Old.Win.Top,.slice j x.Old.Win.Bits.length k,.bool x.HasOld,.int .i64 x.Until,.slice l x.Next.length m]∧Rd w 1 (.slice a x.Sn.length b) x.Sn.length (x.Sn.map bV)∧x.Sn.length≤1073741824∧Rd w 1 (.slice d x.Cur.Key.length e) x.Cur.Key.length (x.Cur.Key.map bV)∧x.Cur.Key.length≤1073741824∧Rd w 1 (.slice f x.Cur.Win.Bits.length g) x.Cur.Win.Bits.length (x.Cur.Win.Bits.map iV)∧x.Cur.Win.Bits.length≤1073741824∧Rd w 1 (.slice h x.Old.Key.length i) x.Old.Key.length (x.Old.Key.map bV)∧x.Old.Key.length≤1073741824∧Rd w 1 (.slice j x.Old.Win.Bits.length k) x.Old.Win.Bits.length (x.Old.Win.Bits.map iV)∧x.Old.Win.Bits.length≤1073741824∧Rd w 1 (.slice l x.Next.length m) x.Next.length (x.Next.map bV)∧x.Next.length≤1073741824
theorem mkR_38 {w:World} {x:PChan} {k:Int} {a:Option Addr} {b:Nat} {d:Option Addr} {e:Nat} {f:Option Addr} {g:Nat} {h:Option Addr} {i:Nat} {j:Option Addr} {l:Nat} {m:Option Addr} {o:Nat} (p:Rd w 1 (.slice a x.Sn.length b) x.Sn.length ((JC k x.Sn.length).map bV)) (q:x.Sn.length≤1073741824) (r:Rd w 1 (.slice d x.Cur.Key.length e) x.Cur.Key.length ((JC (k+(x.Sn.length:Int)) x.Cur.Key.length).map bV)) (s:x.Cur.Key.length≤1073741824) (t:Rd w 1 (.slice f x.Cur.Win.Bits.length g) x.Cur.Win.Bits.length ((JU ((k+(x.Sn.length:Int))+(x.Cur.Key.length:Int)) x.Cur.Win.Bits.length).map iV)) (u:x.Cur.Win.Bits.length≤1073741824) (v:Rd w 1 (.slice h x.Old.Key.length i) x.Old.Key.length ((JC ((k+(x.Sn.length:Int))+In x.Cur) x.Old.Key.length).map bV)) (y:x.Old.Key.length≤1073741824) (A:Rd w 1 (.slice j x.Old.Win.Bits.length l) x.Old.Win.Bits.length ((JU (((k+(x.Sn.length:Int))+In x.Cur)+(x.Old.Key.length:Int)) x.Old.Win.Bits.length).map iV)) (B:x.Old.Win.Bits.length≤1073741824) (C:Rd w 1 (.slice m x.Next.length o) x.Next.length ((JC (((k+(x.Sn.length:Int))+In x.Cur)+In x.Old) x.Next.length).map bV)) (D:x.Next.length≤1073741824):Ro w (va (GH x a b d e f g h i j l m o)) (HM x k):=⟨_,_,_,_,_,_,_,_,_,_,_,_,by simp only [HM,GB,GA];try rfl,by simpa only [HM,GB,GA] using p,by simpa only [HM,GB,GA] using q,by simpa only [HM,GB,GA] using r,by simpa only [HM,GB,GA] using s,by simpa only [HM,GB,GA] using t,by simpa only [HM,GB,GA] using u,by simpa only [HM,GB,GA] using v,by simpa only [HM,GB,GA] using y,by simpa only [HM,GB,GA] using A,by simpa only [HM,GB,GA] using B,by simpa only [HM,GB,GA] using C,by simpa only [HM,GB,GA] using D⟩
theorem mkR_38_b {x:PChan} (a:x.Sn.length≤1073741824) (b:x.Cur.Key.length≤1073741824) (d:x.Cur.Win.Bits.length≤1073741824) (e:x.Old.Key.length≤1073741824) (f:x.Old.Win.Bits.length≤1073741824) (g:x.Next.length≤1073741824):0≤LE x∧LE x≤6442450944:=by
  simp only [LE,In,JY]
  omega
def Pn (w:World) (v:Value) (x:(PEp)):Prop:=∃ (a:Option Addr) (b:Nat) (d:Option Addr) (e:Nat),v=.agg #[.int .i64 x.N,.slice a x.Key.length b,.int .i64 x.Seq,.int .i64 x.Win.Top,.slice d x.Win.Bits.length e]∧Rd w 1 (.slice a x.Key.length b) x.Key.length (x.Key.map bV)∧x.Key.length≤1073741824∧Rd w 1 (.slice d x.Win.Bits.length e) x.Win.Bits.length (x.Win.Bits.map iV)∧x.Win.Bits.length≤1073741824
theorem mkR_36 {w:World} {x:PEp} {k:Int} {a:Option Addr} {b:Nat} {d:Option Addr} {e:Nat} (f:Rd w 1 (.slice a x.Key.length b) x.Key.length ((JC k x.Key.length).map bV)) (g:x.Key.length≤1073741824) (h:Rd w 1 (.slice d x.Win.Bits.length e) x.Win.Bits.length ((JU (k+(x.Key.length:Int)) x.Win.Bits.length).map iV)) (i:x.Win.Bits.length≤1073741824):Pn w (va (Gx x a b d e)) (Mv x k):=⟨_,_,_,_,by simp only [Mv,GB,GA];try rfl,by simpa only [Mv,GB,GA] using f,by simpa only [Mv,GB,GA] using g,by simpa only [Mv,GB,GA] using h,by simpa only [Mv,GB,GA] using i⟩
theorem mkR_36_b {x:PEp} (a:x.Key.length≤1073741824) (b:x.Win.Bits.length≤1073741824):0≤In x∧In x≤2147483648:=by
  simp only [In,JY]
  omega
def PS (w:World) (v:Value) (x:(PWin)):Prop:=∃ (a:Option Addr) (b:Nat),v=.agg #[.int .i64 x.Top,.slice a x.Bits.length b]∧Rd w 1 (.slice a x.Bits.length b) x.Bits.length (x.Bits.map iV)∧x.Bits.length≤1073741824
theorem mkR_34 {w:World} {x:PWin} {k:Int} {a:Option Addr} {b:Nat} (d:Rd w 1 (.slice a x.Bits.length b) x.Bits.length ((JU k x.Bits.length).map iV)) (e:x.Bits.length≤1073741824):PS w (va (HQ x a b)) (MQ x k):=⟨_,_,by simp only [MQ,GB,GA];try rfl,by simpa only [MQ,GB,GA] using d,by simpa only [MQ,GB,GA] using e⟩
theorem mkR_34_b {x:PWin} (a:x.Bits.length≤1073741824):0≤JY x∧JY x≤1073741824:=by
  simp only [JY]
  omega
def Vj (w:World) (v:Value) (x:(List UInt8)):Prop:=∃ (a:Option Addr) (b:Nat),v=.slice a x.length b∧Rd w 1 (.slice a x.length b) x.length (x.map bV)∧x.length≤9223372036854775807
def O_4 (w:World) (lo:Nat) (v:Value) (x:(Bool)):Prop:=v=.bool x
def RR (a:List UInt8):(Bool):=decide (1048576 < (a.length:Int))
theorem Vc (b:World) (d:Value) (a:List UInt8) (h:Vj b d a) :Fn Tryz.prog 20 #[d] b (fun v e=>Keep b e∧O_4 e b.heap.size v (RR a)):=by
 obtain ⟨f,g,rfl,i,k⟩:=h
 refine FI (n:=6) [(vs f a.length g)] Tryz.func20 rfl rfl ?_
 refine sr<|aw (vb false) ?_
 refine nx<|mw (vs f a.length g) ?_
 refine ln wN tD i ?_
 refine pu (vb (decide (1048576 < (a.length:Int)))) wN ?_
 refine aw (vb (decide (1048576 < (a.length:Int)))) ?_
 refine n3<|rt (vb (decide (1048576 < (a.length:Int)))) ?_
 refine ⟨Ch.refl _ _,?_⟩
 have j:RR a=decide (1048576 < (a.length:Int)):=by rfl
 rw [j]
 exact rfl
theorem Rh {x:List UInt8} (h:RR x=false):x.length≤1048576:=by
  have:=dF h
  omega

theorem HI:∀ w,(isAgg 5).run Tryz.prog w=.ok false w:=fun w=>by kernel_rfl
def HP (w:World) (v:Value) (x:(List UInt8)):Prop:=∃ (a:Option Addr) (b:Nat),v=.slice a x.length b∧Rd w 1 (.slice a x.length b) x.length (x.map bV)∧x.length≤1073741824
theorem Ty (d:World) (p:Value) (b:List UInt8) (E:HP d p b) :Fn Tryz.prog 59 #[p] d (fun v l=>∃ g,Keep d l∧d.heap.size≤g∧v=vp g 0∧∀ (a:Option Addr) (c:Nat),p=.slice a b.length c→MJ l g 110 a c b):=by
 obtain ⟨e,f,rfl,h,w⟩:=E
 refine FI (n:=32) [(vs e b.length f)] Tryz.func59 rfl rfl ?_
 refine sr<|aw (.pointer none) ?_
 refine nx<|mw (vs e b.length f) ?_
 refine ln wN tD h ?_
 refine ar (127812+(b.length:Int)) wN ?_
 refine aw (vi (127812+(b.length:Int))) ?_
 refine n4<|aw (vi 0) ?_
 refine uD<|rg<|uJ<|Ge [(0,(vs e b.length f)),(2,(.pointer none)),(3,(vi (127812+(b.length:Int)))),(4,(vi ((0:Nat):Int)))] ⟨rfl,rfl,rfl,(cA (Value.int .i64) (show (0:Int)=((0:Nat):Int) by omega)),trivial⟩ (fun e' l=>∃ (k:Nat) (q:Int) (y:Env),e'=pt y [(0,(vs e b.length f)),(2,(.pointer none)),(3,(vi q)),(4,(vi ((k:Nat):Int)))]∧Ch (fun k=>d.heap.size≤k) d l∧Ch (fun k=>d.heap.size≤k) d l∧k≤b.length∧0≤q∧q≤1073869636) (fun e' _=>b.length - ((intOf (e' 4))).toNat) ?_ ?_
 ·exact fun u=>⟨0,(127812+(b.length:Int)),u,rfl,(Ch.base d),(Ch.refl (fun k=>d.heap.size≤k) d),(by omega),(by omega),(by omega)⟩
 ·rintro _ F ⟨k,q,y,rfl,j,m,L,M,N⟩
  have O:(b.getD k 0).toNat < 256:=UInt8.toNat_lt _
  refine uK<|sr<|mw (vi ((k:Nat):Int)) ?_
  refine mw (vs e b.length f) ?_
  refine ln wN tD (h.from0 j) ?_
  refine pu (vb (decide (((k:Nat):Int) < (b.length:Int)))) wN ?_
  refine mw (vb (decide (((k:Nat):Int) < (b.length:Int)))) ?_
  rcases bf (decide (((k:Nat):Int) < (b.length:Int))) with i|i
  ·have P:=dF i
   iterate 2 refine sk i ?_
   refine pf (vb false) wN i ?_
   refine n2<|cf F1<|Gn<|uA<|uA<|wr<|rg<|sr<|mw (vs e b.length f) ?_
   refine mw (vi q) ?_
   refine pu (va [(vs e b.length f),(vi 0),(vi q)]) wN ?_
   refine bx [(vs e b.length f),(vi 0),(vi q)] wN ?_
   intro r G A Q H I
   have B:=j.extk H
   refine aw (vp r 0) ?_
   refine n3<|rt (vp r 0) ?_
   refine ⟨r,B.keep0,(nT m.size A),rfl,fun a c hv=>?_⟩
   cases hv
   exact ⟨_,_,I,(h.from0 B),w,(by omega),(fun s z hz=>nN (nL (Od h s z hz) (nT m.size A)))⟩
  have R:=dT i
  refine mv (vi ((k:Nat):Int)) (wS i) ?_
  refine pu (vb (decide (((k:Nat):Int) < 4000))) (wS i) ?_
  refine pk (vb (decide (((k:Nat):Int) < 4000))) wN i ?_
  refine n2 ?_
  rcases bf (decide (((k:Nat):Int) < 4000)) with o|o
  ·have S:=dF o
   refine cf o<|Gn<|uA<|uA<|wr<|rg<|sr<|mw (vs e b.length f) ?_
   refine mw (vi q) ?_
   refine pu (va [(vs e b.length f),(vi 0),(vi q)]) wN ?_
   refine bx [(vs e b.length f),(vi 0),(vi q)] wN ?_
   intro t G C T J K
   have D:=j.extk J
   refine aw (vp t 0) ?_
   refine n3<|rt (vp t 0) ?_
   refine ⟨t,D.keep0,(nT m.size C),rfl,fun a c hv=>?_⟩
   cases hv
   exact ⟨_,_,K,(h.from0 D),w,(by omega),(fun s z hz=>nN (nL (Od h s z hz) (nT m.size C)))⟩
  have V:=dT o
  refine ct o<|FR<|rg<|uK<|uJ<|uG ?_
  refine mw (vi q) ?_
  refine ar (q*137) wN ?_
  refine mw (vs e b.length f) ?_
  refine mw (vi ((k:Nat):Int)) ?_
  refine ix wN ((k:Nat):Int) tD (h.from0 j) ?_
  refine eb (x:=b) k wN HI (h.from0 j) ?_
  refine ar ((b.getD k 0).toNat:Int) wN ?_
  refine ar ((q*137)+((b.getD k 0).toNat:Int)) wN ?_
  refine ar (((q*137)+((b.getD k 0).toNat:Int))+11) wN ?_
  refine Im (((q*137)+((b.getD k 0).toNat:Int))+11) 1073741823 1073741824 30 wN rfl rfl (by decide) (by decide) (by decide) (by kernel_rfl) ?_
  refine aw (vi ((((q*137)+((b.getD k 0).toNat:Int))+11) % 1073741824)) ?_
  refine uD<|uB<|rg<|uG ?_
  refine mw (vi ((k:Nat):Int)) ?_
  refine ar (((k:Nat):Int)+1) wN ?_
  refine aw (vi (((k:Nat):Int)+1)) ?_
  refine uD<|FX (w0:=F) [(0,(vs e b.length f)),(2,(.pointer none)),(3,(vi ((((q*137)+((b.getD k 0).toNat:Int))+11) % 1073741824))),(4,(vi (((k+1):Nat):Int)))] ?_ ?_ ?_
  · exact ⟨rfl,rfl,rfl,(cA (Value.int .i64) (show ((((k:Nat):Int)+1):Int)=(((k+1):Nat):Int) by omega)),trivial⟩
  · exact fun u=>⟨(k+1),((((q*137)+((b.getD k 0).toNat:Int))+11) % 1073741824),u,rfl,j,((Ch.refl (fun k=>d.heap.size≤k) d).ext m (fun k hk=>hk)),(by omega),(by omega),(by omega)⟩
  · show b.length - ((((k+1):Nat):Int)).toNat < b.length - (((k:Nat):Int)).toNat;omega

theorem tE:∀ w,(isAgg 3).run Tryz.prog w=.ok false w:=fun w=>by kernel_rfl
theorem GI:∀ w,(sizeOf 3).run Tryz.prog w=.ok 1 w:=fun w=>by kernel_rfl
theorem GU:Tryz.prog.follows .mixedOrders=true:=by kernel_rfl
theorem uH:∀ w,(isAgg 22).run Tryz.prog w=.ok false w:=fun w=>by kernel_rfl
def O_3 (w:World) (lo:Nat) (v:Value) (x:(Int)):Prop:=v=.int .i64 x
theorem KM (m:World) (g:Nat) (ca:Option Addr) (cc:Nat) (cb:List UInt8) (w:MJ m g 110 ca cc cb) :Fn Tryz.prog 137 #[(vp g 0)] m (fun v f=>∃ x:(Int),Ch (fun k=>k=g) m f∧MJ f g 110 ca cc cb∧O_3 f m.heap.size v x∧(0≤x∧x≤255)):=by
 obtain ⟨ci,chh,hcb,hcr,hcl,hci,hcn⟩:=w
 have hgl:=Blk.lt hcb
 refine FI (n:=58) [(vp g 0)] Tryz.func137 rfl rfl ?_
 have aa:(cb.getD ci.toNat 0).toNat < 256:=UInt8.toNat_lt _
 refine sr<|aw (vi 0) ?_
 refine nx<|mw (vp g 0) ?_
 refine mw (vp g 0) ?_
 refine pu (vp g 0) wN ?_
 refine pu (vp g 2) wN ?_
 refine ld (vi chh) wN tE hcb ?_
 refine Qb (IntKind.i64.wrap (chh*6364136223846793005)) wN rfl rfl (by kernel_rfl) ?_
 intro y
 refine Qb (IntKind.i64.wrap (y+1442695040888963407)) wN rfl rfl (by kernel_rfl) ?_
 intro a
 refine pu (vp g 0) wN ?_
 refine pu (vp g 2) wN ?_
 refine st (vi a) [(vi a)] [(vs ca cb.length cc),(vi ci),(vi a)] wN GI hcb ?_
 intro A B i ab
 have C:=ChG.ext (Ch.refl (fun k=>k=g) m) B (fun k hk=>.inl hk)
 refine uD<|rg<|uK<|Ga ([(13,[],[],(fun _ v _=>v=(vp g 0))),(14,[],[0],(fun _ v _=>v=(vp g 0))),(15,[],[0,1],(fun _ v _=>v=(vp g 2))),(16,[],[0,1,2],(fun _ v _=>v=(vi a))),(17,[],[0,1,2,3],(fun _ v _=>v=(vi (a / (2:Int) ^ ((33:Int)).toNat)))),(18,[],[],(fun _ v _=>v=(vp g 0))),(19,[],[5],(fun _ v _=>v=(vp g 0))),(20,[],[5,6],(fun _ v _=>v=(vp g 2))),(21,[],[5,6,7],(fun _ v _=>v=(vi a))),(22,[],[5,6,7,8],(fun _ v _=>v=(vi (a / (2:Int) ^ ((47:Int)).toNat))))]:GV) (fun _ f=>Keep A f) [] GU rfl (by kernel_rfl) (by kernel_rfl) ?_ (fun _ _ h=>h) (fun _ _ _ _ h _ k=>h.trans k) trivial ?_ ?_ ?_
 ·exact ⟨hV,hE,⟨hV,hE,⟨hV,hE,⟨hV,hE,⟨hV,hE,⟨hV,hE,⟨hV,hE,⟨hV,hE,⟨hV,hE,⟨hV,hE,trivial⟩⟩⟩⟩⟩⟩⟩⟩⟩⟩
 ·exact trivial
 ·refine ⟨?_,⟨?_,⟨?_,⟨?_,⟨?_,⟨?_,⟨?_,⟨?_,⟨?_,⟨?_,trivial⟩⟩⟩⟩⟩⟩⟩⟩⟩⟩
  ·intro _ d ac _
   rintro _ _ _ _ _ _ _ _ _ _
   refine sw<|mw (vp g 0) ?_
   exact f1
  ·intro _ d ad _
   rintro _ rfl _ _ _ _ _ _ _ _ _
   refine sw<|pu (vp g 0) wN ?_
   exact f1
  ·intro _ d ae _
   rintro _ rfl _ rfl _ _ _ _ _ _ _ _
   refine sw<|pu (vp g 2) wN ?_
   exact f1
  ·intro _ d D _
   rintro _ rfl _ rfl _ rfl _ _ _ _ _ _ _
   refine sw ?_
   have E:=(i.kp D)
   refine ld (vi a) wN tE E ?_
   exact f1
  ·intro _ d af _
   rintro _ rfl _ rfl _ rfl _ rfl _ _ _ _ _ _
   refine sw<|KV a (33:Int) wN rfl rfl rfl rfl rfl (by omega) (by omega) ?_
   exact f1
  ·intro _ d ah _
   rintro _ _ _ _ _ _ _ _ _ _
   refine sw<|mw (vp g 0) ?_
   exact f1
  ·intro _ d ai _
   rintro _ _ _ _ _ _ rfl _ _ _ _
   refine sw<|pu (vp g 0) wN ?_
   exact f1
  ·intro _ d aj _
   rintro _ _ _ _ _ _ rfl _ rfl _ _ _
   refine sw<|pu (vp g 2) wN ?_
   exact f1
  ·intro _ d F _
   rintro _ _ _ _ _ _ rfl _ rfl _ rfl _ _
   refine sw ?_
   have G:=(i.kp F)
   refine ld (vi a) wN tE G ?_
   exact f1
  ·intro _ d ak _
   rintro _ _ _ _ _ _ rfl _ rfl _ rfl _ rfl _
   refine sw<|KV a (47:Int) wN rfl rfl rfl rfl rfl (by omega) (by omega) ?_
   exact f1
 ·intro _ d j
  have r:=ChG.extk C j
  iterate 10 rintro _ rfl
  refine sw<|Te (a / (2:Int) ^ ((33:Int)).toNat) (a / (2:Int) ^ ((47:Int)).toNat) wN rfl rfl (by kernel_rfl) ?_
  refine Im (Ry (a / (2:Int) ^ ((33:Int)).toNat) (a / (2:Int) ^ ((47:Int)).toNat)) 255 256 8 wN rfl rfl (by decide) (by decide) (by decide) (by kernel_rfl) ?_
  refine aw (vi ((Ry (a / (2:Int) ^ ((33:Int)).toNat) (a / (2:Int) ^ ((47:Int)).toNat)) % 256)) ?_
  refine uD<|rg<|uK<|uK<|Ga ([(25,[],[],(fun _ v _=>v=(vp g 0))),(26,[],[0],(fun _ v _=>v=(vp g 0))),(27,[],[0,1],(fun _ v _=>v=(vp g 1))),(28,[],[0,1,2],(fun _ v _=>v=(vi ci))),(29,[],[],(fun _ v _=>v=(vp g 0))),(30,[],[4],(fun _ v _=>v=(vp g 0))),(31,[],[4,5],(fun _ v _=>v=(vp g 0))),(32,[],[4,5,6],(fun _ v _=>v=(vs ca cb.length cc))),(33,[],[4,5,6,7],(fun _ v _=>v=(vi (cb.length:Int))))]:GV) (fun _ f=>Keep d f) [] GU rfl (by kernel_rfl) (by kernel_rfl) ?_ (fun _ _ h=>h) (fun _ _ _ _ h _ k=>h.trans k) trivial ?_ ?_ ?_
  ·exact ⟨hV,hE,⟨hV,hE,⟨hV,hE,⟨hV,hE,⟨hV,hE,⟨hV,hE,⟨hV,hE,⟨hV,hE,⟨hV,hE,trivial⟩⟩⟩⟩⟩⟩⟩⟩⟩
  ·exact trivial
  ·refine ⟨?_,⟨?_,⟨?_,⟨?_,⟨?_,⟨?_,⟨?_,⟨?_,⟨?_,trivial⟩⟩⟩⟩⟩⟩⟩⟩⟩
   ·intro _ e am _
    rintro _ _ _ _ _ _ _ _ _
    refine sw<|mw (vp g 0) ?_
    exact f1
   ·intro _ e an _
    rintro _ rfl _ _ _ _ _ _ _ _
    refine sw<|pu (vp g 0) wN ?_
    exact f1
   ·intro _ e ao _
    rintro _ rfl _ rfl _ _ _ _ _ _ _
    refine sw<|pu (vp g 1) wN ?_
    exact f1
   ·intro _ e H _
    rintro _ rfl _ rfl _ rfl _ _ _ _ _ _
    refine sw ?_
    have I:=((i.kp j).kp H)
    refine ld (vi ci) wN tE I ?_
    exact f1
   ·intro _ e ap _
    rintro _ _ _ _ _ _ _ _ _
    refine sw<|mw (vp g 0) ?_
    exact f1
   ·intro _ e aq _
    rintro _ _ _ _ _ rfl _ _ _ _
    refine sw<|pu (vp g 0) wN ?_
    exact f1
   ·intro _ e au _
    rintro _ _ _ _ _ rfl _ rfl _ _ _
    refine sw<|pu (vp g 0) wN ?_
    exact f1
   ·intro _ e J _
    rintro _ _ _ _ _ rfl _ rfl _ rfl _ _
    refine sw ?_
    have K:=((i.kp j).kp J)
    refine ld (vs ca cb.length cc) wN uH K ?_
    exact f1
   ·intro _ e L _
    have M:=ChG.extk r L
    rintro _ _ _ _ _ rfl _ rfl _ rfl _ rfl _
    refine sw<|ln wN tD (Rd.chP hcr M hcn) ?_
    exact f1
  ·intro _ e o
   have p:=ChG.extk r o
   iterate 9 rintro _ rfl
   refine sw<|pu (vb (decide (ci < (cb.length:Int)))) wN ?_
   refine n2 ?_
   rcases bf (decide (ci < (cb.length:Int))) with q|q
   ·have av:=dF q
    refine cf q<|y1<|mw (vi ((Ry (a / (2:Int) ^ ((33:Int)).toNat) (a / (2:Int) ^ ((47:Int)).toNat)) % 256)) ?_
    refine aw (vi ((Ry (a / (2:Int) ^ ((33:Int)).toNat) (a / (2:Int) ^ ((47:Int)).toNat)) % 256)) ?_
    refine n3<|rt (vi ((Ry (a / (2:Int) ^ ((33:Int)).toNat) (a / (2:Int) ^ ((47:Int)).toNat)) % 256)) ?_
    have N:=((i.kp j).kp o)
    exact ⟨((Ry (a / (2:Int) ^ ((33:Int)).toNat) (a / (2:Int) ^ ((47:Int)).toNat)) % 256),p,⟨_,_,N,(Rd.chP hcr p hcn),hcl,(by omega),hcn⟩,rfl,(by omega)⟩
   have ax:=dT q
   refine ct q<|uK<|Ga ([(35,[],[],(fun _ v _=>v=(vi ((Ry (a / (2:Int) ^ ((33:Int)).toNat) (a / (2:Int) ^ ((47:Int)).toNat)) % 256)))),(36,[],[],(fun _ v _=>v=(vp g 0))),(37,[],[1],(fun _ v _=>v=(vp g 0))),(38,[],[1,2],(fun _ v _=>v=(vp g 0))),(39,[],[1,2,3],(fun _ v _=>v=(vs ca cb.length cc))),(40,[],[],(fun _ v _=>v=(vp g 0))),(41,[],[5],(fun _ v _=>v=(vp g 0))),(42,[],[5,6],(fun _ v _=>v=(vp g 1))),(43,[],[5,6,7],(fun _ v _=>v=(vi ci))),(44,[],[1,2,3,4,5,6,7,8],(fun _ v _=>v=(ve (vs ca cb.length cc) ((ci).toNat*1)))),(45,[],[1,2,3,4,5,6,7,8,9],(fun _ v _=>v=(v8 ((cb.getD (ci).toNat 0).toNat:Int)))),(46,[],[1,2,3,4,5,6,7,8,9,10],(fun _ v _=>v=(vi ((cb.getD (ci).toNat 0).toNat:Int))))]:GV) (fun _ f=>Keep e f) [] GU rfl (by kernel_rfl) (by kernel_rfl) ?_ (fun _ _ h=>h) (fun _ _ _ _ h _ k=>h.trans k) trivial ?_ ?_ ?_
   ·exact ⟨hV,hE,⟨hV,hE,⟨hV,hE,⟨hV,hE,⟨hV,hE,⟨hV,hE,⟨hV,hE,⟨hV,hE,⟨hV,hE,⟨hV,hE,⟨hV,hE,⟨hV,hE,trivial⟩⟩⟩⟩⟩⟩⟩⟩⟩⟩⟩⟩
   ·exact trivial
   ·refine ⟨?_,⟨?_,⟨?_,⟨?_,⟨?_,⟨?_,⟨?_,⟨?_,⟨?_,⟨?_,⟨?_,⟨?_,trivial⟩⟩⟩⟩⟩⟩⟩⟩⟩⟩⟩⟩
    ·intro _ b ay _
     rintro _ _ _ _ _ _ _ _ _ _ _ _
     refine sw<|mw (vi ((Ry (a / (2:Int) ^ ((33:Int)).toNat) (a / (2:Int) ^ ((47:Int)).toNat)) % 256)) ?_
     exact f1
    ·intro _ b az _
     rintro _ _ _ _ _ _ _ _ _ _ _ _
     refine sw<|mw (vp g 0) ?_
     exact f1
    ·intro _ b a0 _
     rintro _ _ rfl _ _ _ _ _ _ _ _ _ _
     refine sw<|pu (vp g 0) wN ?_
     exact f1
    ·intro _ b a1 _
     rintro _ _ rfl _ rfl _ _ _ _ _ _ _ _ _
     refine sw<|pu (vp g 0) wN ?_
     exact f1
    ·intro _ b O _
     rintro _ _ rfl _ rfl _ rfl _ _ _ _ _ _ _ _
     refine sw ?_
     have P:=(((i.kp j).kp o).kp O)
     refine ld (vs ca cb.length cc) wN uH P ?_
     exact f1
    ·intro _ b a2 _
     rintro _ _ _ _ _ _ _ _ _ _ _ _
     refine sw<|mw (vp g 0) ?_
     exact f1
    ·intro _ b a3 _
     rintro _ _ _ _ _ _ rfl _ _ _ _ _ _
     refine sw<|pu (vp g 0) wN ?_
     exact f1
    ·intro _ b a4 _
     rintro _ _ _ _ _ _ rfl _ rfl _ _ _ _ _
     refine sw<|pu (vp g 1) wN ?_
     exact f1
    ·intro _ b Q _
     rintro _ _ _ _ _ _ rfl _ rfl _ rfl _ _ _ _
     refine sw ?_
     have R:=(((i.kp j).kp o).kp Q)
     refine ld (vi ci) wN tE R ?_
     exact f1
    ·intro _ b S _
     have T:=ChG.extk p S
     rintro _
     iterate 8 rintro _ rfl
     intro _ _ _
     refine sw<|ix wN ci tD (Rd.chP hcr T hcn) ?_
     exact f1
    ·intro _ b V _
     have W:=ChG.extk p V
     rintro _
     iterate 9 rintro _ rfl
     intro _ _
     refine sw<|eb (x:=cb) ((ci).toNat) wN HI (Rd.chP hcr W hcn) ?_
     exact f1
    ·intro _ b a5 _
     rintro _
     iterate 10 rintro _ rfl
     intro _
     refine sw<|ar ((cb.getD (ci).toNat 0).toNat:Int) wN ?_
     exact f1
   ·intro _ b s
    have X:=ChG.extk p s
    iterate 12 rintro _ rfl
    refine sw<|Qb (IntKind.i64.wrap (((Ry (a / (2:Int) ^ ((33:Int)).toNat) (a / (2:Int) ^ ((47:Int)).toNat)) % 256)+((cb.getD (ci).toNat 0).toNat:Int))) wN rfl rfl (by kernel_rfl) ?_
    intro l
    refine Im l 255 256 8 wN rfl rfl (by decide) (by decide) (by decide) (by kernel_rfl) ?_
    refine aw (vi (l % 256)) ?_
    refine uD<|rg<|uG ?_
    refine mw (vp g 0) ?_
    refine mw (vp g 0) ?_
    refine pu (vp g 0) wN ?_
    refine pu (vp g 1) wN ?_
    have t:=(((i.kp j).kp o).kp s)
    refine ld (vi ci) wN tE t ?_
    refine ar (ci+1) wN ?_
    refine pu (vp g 0) wN ?_
    refine pu (vp g 1) wN ?_
    refine st (vi (ci+1)) [(vi (ci+1))] [(vs ca cb.length cc),(vi (ci+1)),(vi a)] wN GI t ?_
    intro a6 Y Z a7
    have u:=ChG.ext X Y (fun k hk=>.inl hk)
    refine nx<|mw (vi (l % 256)) ?_
    refine aw (vi (l % 256)) ?_
    refine n3<|rt (vi (l % 256)) ?_
    exact ⟨(l % 256),u,⟨_,_,Z,(Rd.chP hcr u hcn),hcl,(by omega),hcn⟩,rfl,(by omega)⟩

theorem QO (f:World) (g:Nat) (ca:Option Addr) (cc:Nat) (cb:List UInt8) (u:MJ f g 110 ca cc cb) (b:Int) :Fn Tryz.prog 97 #[(vp g 0),(vi b)] f (fun v o=>∃ x:(Int),Ch (fun k=>k=g) f o∧MJ o g 110 ca cc cb∧O_3 o f.heap.size v x∧(0≤x∧(x < b∨((b:Int)≤0∧x=0)))):=by
 obtain ⟨ci,chh,hcb,hcr,hcl,hci,hcn⟩:=u
 have hgl:=Blk.lt hcb
 refine FI (n:=31) [(vp g 0),(vi b)] Tryz.func97 rfl rfl ?_
 refine sr<|aw (vi 0) ?_
 refine n4<|mw (vi b) ?_
 refine pu (vb (decide (b≤0))) wN ?_
 refine n2 ?_
 rcases bt (decide (b≤0)) with i|i
 ·have H:=dT i
  refine ct i<|sr<|aw (vi 0) ?_
  refine n1<|rt (vi 0) ?_
  exact ⟨0,(Ch.refl (fun k=>k=g) f),⟨_,_,hcb,hcr,hcl,(by omega),hcn⟩,rfl,(by omega)⟩
 have I:=dF i
 refine cf i<|y2<|mw (vi b) ?_
 refine pu (vb (decide (b≤256))) wN ?_
 refine n2 ?_
 rcases bt (decide (b≤256)) with j|j
 ·have J:=dT j
  refine ct j<|sr<|mw (vp g 0) ?_
  refine cl wN (KM f g ca cc cb ⟨_,_,hcb,hcr,hcl,(by omega),hcn⟩) ?_
  rintro _ p ⟨l,w,⟨K,L,y,M,N,O,P⟩,rfl,Q⟩
  have q:=ChG.ext (Ch.refl (fun k=>k=g) f) w (fun k hk=>.inl hk)
  refine mw (vi b) ?_
  refine PW (l) b wN rfl rfl rfl rfl rfl (by omega) (by omega) ?_
  have R:=Ug (a:=(l)) (m:=b) (by omega)
  refine aw (vi ((l) % b)) ?_
  refine n1<|rt (vi ((l) % b)) ?_
  exact ⟨((l) % b),q,⟨_,_,y,(Rd.chP hcr q hcn),hcl,(by omega),hcn⟩,rfl,(by omega)⟩
 have S:=dF j
 refine cf j<|y1<|mw (vp g 0) ?_
 refine cl wN (KM f g ca cc cb ⟨_,_,hcb,hcr,hcl,(by omega),hcn⟩) ?_
 rintro _ p ⟨d,A,⟨T,V,B,W,X,Y,Z⟩,rfl,aa⟩
 have r:=ChG.ext (Ch.refl (fun k=>k=g) f) A (fun k hk=>.inl hk)
 refine aw (vi (d)) ?_
 refine nx<|mw (vp g 0) ?_
 refine cl wN (KM p g ca cc cb ⟨_,_,B,(Rd.chP hcr r hcn),hcl,(by omega),hcn⟩) ?_
 rintro _ C ⟨e,D,⟨ab,ac,E,ad,ae,af,ah⟩,rfl,ai⟩
 have s:=ChG.ext r D (fun k hk=>.inl hk)
 refine aw (vi (e)) ?_
 refine nx<|mw (vp g 0) ?_
 refine cl wN (KM C g ca cc cb ⟨_,_,E,(Rd.chP hcr s hcn),hcl,(by omega),hcn⟩) ?_
 rintro _ aj ⟨h,F,⟨ak,am,G,an,ao,ap,aq⟩,rfl,au⟩
 have t:=ChG.ext s F (fun k hk=>.inl hk)
 refine aw (vi (h)) ?_
 refine nx<|mw (vi (d)) ?_
 refine ar ((d)*65536) wN ?_
 refine mw (vi (e)) ?_
 refine ar ((e)*256) wN ?_
 refine ar (((d)*65536)+((e)*256)) wN ?_
 refine mw (vi (h)) ?_
 refine ar ((((d)*65536)+((e)*256))+(h)) wN ?_
 refine mw (vi b) ?_
 refine PW ((((d)*65536)+((e)*256))+(h)) b wN rfl rfl rfl rfl rfl (by omega) (by omega) ?_
 have av:=Ug (a:=((((d)*65536)+((e)*256))+(h))) (m:=b) (by omega)
 refine aw (vi (((((d)*65536)+((e)*256))+(h)) % b)) ?_
 refine n3<|rt (vi (((((d)*65536)+((e)*256))+(h)) % b)) ?_
 exact ⟨(((((d)*65536)+((e)*256))+(h)) % b),t,⟨_,_,G,(Rd.chP hcr t hcn),hcl,(by omega),hcn⟩,rfl,(by omega)⟩

theorem uQ:SlTy Tryz.prog 23 3 1 8 (vi 0):=Ub Tryz.underlying23 (by kernel_rfl) rfl rfl
def Vt (w:World) (g:Nat) (v:Value) (x:(List Int)):Prop:=∃ (a:Option Addr) (b:Nat),v=.slice a x.length b∧Rd w 1 (.slice a x.length b) x.length (x.map iV)∧x.length≤1073741824∧(0 < x.length→∀ z,a=some z→z.block ≠ g)
theorem Tz (b:World) (g:Nat) (ca:Option Addr) (cc:Nat) (cb:List UInt8) (o:MJ b g 110 ca cc cb) (l:Value) (a:List Int) (p:Vt b g l a) (s:0 < a.length):Fn Tryz.prog 61 #[(vp g 0),l] b (fun v f=>∃ x:(Int),Ch (fun k=>k=g) b f∧MJ f g 110 ca cc cb∧O_3 f b.heap.size v x∧(x ∈ a)):=by
 obtain ⟨ci,chh,hcb,hcr,hcl,hci,hcn⟩:=o
 have hgl:=Blk.lt hcb
 obtain ⟨h,i,rfl,j,t,m⟩:=p
 refine FI (n:=12) [(vp g 0),(vs h a.length i)] Tryz.func61 rfl rfl ?_
 refine sr<|aw (vi 0) ?_
 refine nx<|mw (vs h a.length i) ?_
 refine mw (vp g 0) ?_
 refine mw (vs h a.length i) ?_
 refine ln wN uQ j ?_
 refine cl wN (QO b g ca cc cb ⟨_,_,hcb,hcr,hcl,(by omega),hcn⟩ (a.length:Int)) ?_
 rintro _ u ⟨d,q,⟨w,y,r,A,B,C,D⟩,rfl,E⟩
 have e:=ChG.ext (Ch.refl (fun k=>k=g) b) q (fun k hk=>.inl hk)
 refine ix wN (d) uQ (Rd.chP j e m) ?_
 refine ei (x:=a) (((d)).toNat) wN tE (Rd.chP j e m) ?_
 refine aw (vi (a.getD ((d)).toNat 0)) ?_
 refine n3<|rt (vi (a.getD ((d)).toNat 0)) ?_
 exact ⟨(a.getD ((d)).toNat 0),e,⟨_,_,r,(Rd.chP hcr e hcn),hcl,(by omega),hcn⟩,rfl,(by exact QG (by omega))⟩

def JF (w:World) (lo:Nat) (v:Value) (x:(List UInt8)):Prop:=∃ (a:Option Addr) (b:Nat),v=.slice a x.length b∧w.ownsRow lo 5 1 (.slice a x.length b) x.length (x.map bV)∧x.length≤1073741824∧Aps [(a,b)]
theorem QN (a:World) (g:Nat) (ca:Option Addr) (cc:Nat) (cb:List UInt8) (N:MJ a g 110 ca cc cb) (b:Int) (ac:b≤100000):Fn Tryz.prog 98 #[(vp g 0),(vi b)] a (fun v e=>∃ x:(List UInt8),Ch (fun k=>k=g) a e∧MJ e g 110 ca cc cb∧JF e a.heap.size v x∧(x.length=(b:Int).toNat)):=by
 obtain ⟨ci,chh,hcb,hcr,hcl,hci,hcn⟩:=N
 have hgl:=Blk.lt hcb
 refine FI (n:=20) [(vp g 0),(vi b)] Tryz.func98 rfl rfl ?_
 refine sr<|aw (vs none 0 0) ?_
 refine nx<|Gc wN rfl rfl tD (fun w=>by kernel_rfl) ?_
 intro t y A O
 have C:=ChG.extk (Ch.refl (fun k=>k=g) a) A
 refine aw (vs (some t) 0 0) ?_
 refine n4<|aw (vi 0) ?_
 refine uD<|rg<|uJ ?_
 have D:([]:List UInt8)=([]:List UInt8):=by simp
 have E:0=(([]:List UInt8)).length:=by rw [← D];try (first|rfl|simp only [List.length_set]|simp)
 have P:=(hcb.kp A)
 refine Ge [(0,(vp g 0)),(1,(vi b)),(4,(vs none 0 0)),(5,(.slice (some t) (([]:List UInt8)).length 0)),(6,(vi ((0:Nat):Int)))] ⟨rfl,rfl,rfl,rfl,(cA (Value.int .i64) (show (0:Int)=((0:Nat):Int) by omega)),trivial⟩ (fun e' e=>∃ (k:Nat) (l:List UInt8) (F:Env) (f:Option Addr) (i:Nat),e'=pt F [(0,(vp g 0)),(1,(vi b)),(4,(vs none 0 0)),(5,(.slice f (l).length i)),(6,(vi ((k:Nat):Int)))]∧Ch (fun k=>k=g) a e∧Ch (fun k=>k=g∨a.heap.size≤k) y e∧l.length=k∧k≤b.toNat∧(World.ownsRow e a.heap.size 5 1 (.slice f (l).length i) (l).length ((l).map bV)∧(l).length≤1073741824)∧MJ e g 110 ca cc cb) (fun e' _=>(b - (intOf (e' 6))).toNat) ?_ ?_
 ·exact fun u=>⟨0,([]:List UInt8),u,(some t),0,rfl,C,(Ch.refl (fun k=>k=g∨a.heap.size≤k) y),(by first|omega|(simp only [List.length_append,List.length_cons,List.length_nil];omega)),(by omega),⟨(by rw [← E,← D];exact O),(by rw [← E];first|exact (by simp)|(simp only [List.length_append,List.length_take,List.length_replicate];omega))⟩,⟨_,_,P,(Rd.chP hcr C hcn),hcl,(by omega),hcn⟩⟩
 ·rintro _ G ⟨k,l,F,f,i,rfl,p,H,ad,ae,⟨j,Q⟩,⟨af,ah,I,ai,aj,ak,am⟩⟩
  refine uK<|sr<|mw (vi ((k:Nat):Int)) ?_
  refine mw (vi b) ?_
  refine pu (vb (decide (((k:Nat):Int) < b))) wN ?_
  refine n2 ?_
  rcases bf (decide (((k:Nat):Int) < b)) with m|m
  ·have an:=dF m
   refine cf m<|Gn<|uA<|uA<|wr<|rg<|sr<|mw (vs f (l).length i) ?_
   refine aw (vs f (l).length i) ?_
   refine n3<|rt (vs f (l).length i) ?_
   have J:(l).length=(l).length:=by first|(simp only [List.length_append,List.length_take,List.length_replicate,List.length_set,List.length_map];done)|(simp only [List.length_append,List.length_take,List.length_replicate,List.length_set,List.length_map];omega)
   rw [J] at j ⊢
   exact ⟨l,p,⟨_,_,I,(Rd.chP hcr p hcn),hcl,(by omega),hcn⟩,⟨_,_,rfl,j,(by rw [← J];exact Q),⟨trivial,trivial⟩⟩,(by omega)⟩
  have ao:=dT m
  refine ct m<|FR<|rg<|uK<|uJ<|uG ?_
  refine mw (vs f (l).length i) ?_
  refine mw (vp g 0) ?_
  refine cl wN (KM G g ca cc cb ⟨_,_,I,(Rd.chP hcr p hcn),hcl,(by omega),hcn⟩) ?_
  rintro _ ap ⟨d,q,⟨aq,au,R,av,ax,ay,az⟩,rfl,a0⟩
  have S:=ChG.ext p q (fun k hk=>.inl hk)
  refine IU (d) wN rfl rfl (by kernel_rfl) ?_
  refine ltB ([(by8 (d))]:List UInt8) wN tD ?_
  intro a1 a2 a3 o T
  have V:=ChG.extk S o
  have W:=(gc (tC j q (ne1 j (hgl))) o)
  refine Kw (v:=(vs f (l).length i)) wN rfl rfl rfl tD rfl rfl W (Rd.of_own T) (Rk _) (by first|(simp only [List.length_append,List.length_cons,List.length_nil,List.length_replicate,List.length_take,List.length_drop];omega)|omega) (by simp only [maxLen];first|(simp only [List.length_append,List.length_cons,List.length_nil,List.length_replicate,List.length_take,List.length_drop];omega)|omega) (z4 A H q o) ?_
  intro X Y B Z a4
  have K:Y.ownsRow a.heap.size 5 1 X ((l++([(by8 (d))]:List UInt8)):List UInt8).length (((l++([(by8 (d))]:List UInt8)):List UInt8).map bV):=by simpa [Nat.add_assoc] using Z
  obtain ⟨r,s,rfl⟩:=Hg K
  have L:=ChG.ext V B (fun k hk=>.inr (nT (Nat.le_refl a.heap.size) (uI j k hk).1))
  have aa:(l++([(by8 (d))]:List UInt8)).length≤1073741824:=by first|(simp only [List.length_append,List.length_cons,List.length_nil,List.length_replicate,List.length_take,List.length_drop];omega)|omega|assumption
  refine aw (vs r (l++([(by8 (d))]:List UInt8)).length s) ?_
  refine uD<|uB<|rg<|uG ?_
  refine mw (vi ((k:Nat):Int)) ?_
  refine ar (((k:Nat):Int)+1) wN ?_
  refine aw (vi (((k:Nat):Int)+1)) ?_
  refine uD ?_
  have M:((l++([(by8 (d))]:List UInt8)):List UInt8)=(l++([(by8 (d))]:List UInt8)):=by simp
  have ab:=((R.kp o).ch B (fun h=>by have:=(uI j _ h).1;have:=nL hgl (Nat.le_refl a.heap.size);omega))
  refine FX (w0:=G) [(0,(vp g 0)),(1,(vi b)),(4,(vs none 0 0)),(5,(.slice r ((l++([(by8 (d))]:List UInt8))).length s)),(6,(vi (((k+1):Nat):Int)))] ?_ ?_ ?_
  · exact ⟨rfl,rfl,rfl,(cA (fun l:List UInt8=>Value.slice r l.length s) M),(cA (Value.int .i64) (show ((((k:Nat):Int)+1):Int)=(((k+1):Nat):Int) by omega)),trivial⟩
  · exact fun u=>⟨(k+1),(l++([(by8 (d))]:List UInt8)),u,r,s,rfl,L,(ChO.ext (ChO.extk (ChO.ext (ChO.ext (Ch.refl (fun k=>k=g∨a.heap.size≤k) y) H (fun k hk=>hk.elim .inl (fun hk=>.inr (hk)))) q (fun k hk=>.inl hk)) o) B (fun k hk=>.inr (nT (Nat.le_refl a.heap.size) (uI j k hk).1))),(by first|omega|(simp only [List.length_append,List.length_cons,List.length_nil];omega)),(by omega),(M ▸ ⟨K,aa⟩),⟨_,_,ab,(Rd.chP hcr L hcn),hcl,(by omega),hcn⟩⟩
  · show (b - (((k+1):Nat):Int)).toNat < (b - ((k:Nat):Int)).toNat;omega

def RC (w:World) (v:Value) (x:(List Int)):Prop:=∃ (a:Option Addr) (b:Nat),v=.slice a x.length b∧Rd w 1 (.slice a x.length b) x.length (x.map iV)∧x.length≤1073741824
theorem Sd (b:World) (g:Nat) (ca:Option Addr) (cc:Nat) (cb:List UInt8) (q:MJ b g 110 ca cc cb) :Fn Tryz.prog 89 #[(vp g 0)] b (fun v d=>∃ x:(List UInt8),Ch (fun k=>k=g) b d∧MJ d g 110 ca cc cb∧JF d b.heap.size v x∧(x.length≤33)):=by
 obtain ⟨ci,chh,hcb,hcr,hcl,hci,hcn⟩:=q
 have hgl:=Blk.lt hcb
 refine FI (n:=8) [(vp g 0)] Tryz.func89 rfl rfl ?_
 refine sr<|aw (vs none 0 0) ?_
 refine nx<|mw (vp g 0) ?_
 refine mw (vp g 0) ?_
 refine ltI ([1,5,16,32,32,0,33,16]:List Int) wN uQ ?_
 intro D E r e h
 have i:=ChG.extk (Ch.refl (fun k=>k=g) b) e
 have s:=(hcb.kp e)
 refine cl wN (Tz r g ca cc cb ⟨_,_,s,(Rd.chP hcr i hcn),hcl,(by omega),hcn⟩ _ ([1,5,16,32,32,0,33,16]:List Int) ⟨_,_,rfl,(Rd.of_own h),(by simp),(fun _ z hz=>by have F:=(uI h z.block (by rw [hz];rfl)).1;have G:=nL hgl (Nat.le_refl b.heap.size);omega)⟩ (by simp)) ?_
 rintro _ t ⟨a,j,⟨H,I,u,J,K,L,M⟩,rfl,w⟩
 have l:=ChG.ext i j (fun k hk=>.inl hk)
 have q10m:a=1∨a=5∨a=16∨a=32∨a=32∨a=0∨a=33∨a=16:=by simpa only [List.mem_cons,List.not_mem_nil,or_false] using w
 refine cl wN (QN t g ca cc cb ⟨_,_,u,(Rd.chP hcr l hcn),hcl,(by omega),hcn⟩ (a) (by omega)) ?_
 rintro _ N ⟨f,y,⟨O,P,A,Q,R,S,T⟩,⟨m,o,rfl,B,C,V⟩,W⟩
 have p:=ChG.ext l y (fun k hk=>.inl hk)
 refine aw (vs m (f).length o) ?_
 refine n3<|rt (vs m (f).length o) ?_
 exact ⟨(f),p,⟨_,_,A,(Rd.chP hcr p hcn),hcl,(by omega),hcn⟩,⟨_,_,rfl,(tA B (z2 e j)),C,⟨trivial,trivial⟩⟩,(by first|assumption|omega)⟩

theorem FV {w:World} {x:List UInt8} {a:Option Addr} {b:Nat} (d:Rd w 1 (.slice a x.length b) x.length (x.map bV)) (e:x.length≤1073741824):HP w (vs a x.length b) x:=⟨_,_,rfl,d,e⟩
theorem LU (a:World) (i:Value) (b:List UInt8) (s:HP a i b) :Fn Tryz.prog 51 #[i] a (fun v j=>∃ x:(List UInt8),Keep a j∧JF j a.heap.size v x∧(x.length≤33)):=by
 obtain ⟨d,e,rfl,f,l⟩:=s
 refine FI (n:=8) [(vs d b.length e)] Tryz.func51 rfl rfl ?_
 refine sr<|aw (vs none 0 0) ?_
 refine nx<|mw (vs d b.length e) ?_
 refine cl wN (Ty a _ b (FV f l)) ?_
 rintro _ t ⟨g,m,o,rfl,u⟩
 obtain ⟨E,F,w,G,H,I,J⟩:=u _ _ rfl
 have p:=(Ch.base a).extk m
 refine aw (vp g 0) ?_
 refine nx<|mw (vp g 0) ?_
 refine cl wN (Sd t g d e b ⟨_,_,w,(f.from0 p),l,(by omega),(fun y z hz=>nN (nL (Od f y z hz) (o)))⟩) ?_
 rintro _ K ⟨h,A,⟨L,M,N,O,P,Q,R⟩,⟨q,r,rfl,B,C,S⟩,T⟩
 have D:=p.ext A (fun k hk=>by subst hk;exact o)
 refine aw (vs q (h).length r) ?_
 refine n3<|rt (vs q (h).length r) ?_
 exact ⟨(h),D.keep0,⟨_,_,rfl,(tA B m.size),C,⟨trivial,trivial⟩⟩,(by first|assumption|omega)⟩

def TQ (w:World) (lo:Nat) (v:Value) (x:(List Int)):Prop:=∃ (a:Option Addr) (b:Nat),v=.slice a x.length b∧w.ownsRow lo 3 1 (.slice a x.length b) x.length (x.map iV)∧x.length≤1073741824∧Aps [(a,b)]
theorem TG (a:World)  :Fn Tryz.prog 130 #[] a (fun v b=>Keep a b∧TQ b a.heap.size v (k0)):=by
 refine FI (n:=2) [] Tryz.func130 rfl rfl ?_
 refine sr<|aw (vs none 0 0) ?_
 refine nx<|ltI ([1779033703,3144134277,1013904242,2773480762,1359893119,2600822924,528734635,1541459225]:List Int) wN uQ ?_
 intro d e j f g
 have h:=(Ch.base a).extk f
 refine aw (vs d ([1779033703,3144134277,1013904242,2773480762,1359893119,2600822924,528734635,1541459225]:List Int).length e) ?_
 refine n3<|rt (vs d ([1779033703,3144134277,1013904242,2773480762,1359893119,2600822924,528734635,1541459225]:List Int).length e) ?_
 refine ⟨h.keep0,?_⟩
 have i:k0=([1779033703,3144134277,1013904242,2773480762,1359893119,2600822924,528734635,1541459225]:List Int):=by rfl
 rw [i]
 exact ⟨_,_,rfl,g,(by simp),⟨trivial,trivial⟩⟩

theorem OE:∀ w,(zeroValue 103).run Tryz.prog w=.ok (va [(vs none 0 0),(vs none 0 0),(vi 0)]) w:=fun w=>by kernel_rfl
theorem Ih:∀ w,(sizeOf 103).run Tryz.prog w=.ok 3 w:=fun w=>by kernel_rfl
theorem JV:∀ w,(isAgg 103).run Tryz.prog w=.ok true w:=fun w=>by kernel_rfl
def UJ (w:World) (lo:Nat) (v:Value) (x:(PHash)):Prop:=∃ (a:Option Addr) (b:Nat) (d:Option Addr) (e:Nat),v=.agg #[.slice a x.H.length b,.slice d x.Held.length e,.int .i64 x.N]∧w.ownsRow lo 3 1 (.slice a x.H.length b) x.H.length (x.H.map iV)∧x.H.length≤1073741824∧w.ownsRow lo 5 1 (.slice d x.Held.length e) x.Held.length (x.Held.map bV)∧x.Held.length≤1073741824∧Aps [(a,b),(d,e)]
def HD :(PHash):={H:=(k0),Held:=[],N:=0:PHash}
theorem QZ (a:World)  :Fn Tryz.prog 92 #[] a (fun v e=>Keep a e∧UJ e a.heap.size v (HD)):=by
 refine FI (n:=3) [] Tryz.func92 rfl rfl ?_
 refine sr<|al [(vs none 0 0),(vs none 0 0),(vi 0)] wN OE ?_
 intro w j l m f o
 refine nx<|cl wN (TG j ) ?_
 rintro _ x ⟨g,⟨b,d,rfl,h,p,y⟩⟩
 refine pu (va [(vs b (k0).length d),(vs none 0 0),(vi 0)]) wN ?_
 have q:=(o.kp g)
 refine sv [(vs b (k0).length d),(vs none 0 0),(vi 0)] wN Ih q ?_
 intro A i r B
 have s:=(((Ch.base a).extk f).extk g).ext i (fun k hk=>by subst hk;exact l)
 refine n3 ?_
 have t:=(tC h i (ne1 h (m)))
 refine Jz (.inl rfl) (va [(vs b (k0).length d),(vs none 0 0),(vi 0)]) rfl (HL [(vs b (k0).length d),(vs none 0 0),(vi 0)] rfl r JV Ih) ?_
 refine ⟨s.keep0,?_⟩
 have u:HD={H:=(k0),Held:=[],N:=0:PHash}:=by rfl
 rw [u]
 exact ⟨_,_,_,_,rfl,(tA t f.size),p,(by first|exact FL _ _ _ _|exact OLv.nil _ _ _ _),(by simp),⟨⟨(Ap.nr _),trivial⟩,⟨trivial,trivial⟩⟩⟩

def i_within (a:Int) (b:Int) (d:Int):(Bool):=bif (decide (b≤a)) then (decide (a≤d)) else (false)
theorem Hc (f:World) (a:Int) (e:Int) (d:Int) :Fn Tryz.prog 42 #[(vi a),(vi e),(vi d)] f (fun v g=>Keep f g∧O_4 g f.heap.size v (i_within a e d)):=by
 refine FI (n:=15) [(vi a),(vi e),(vi d)] Tryz.func42 rfl rfl ?_
 refine sr<|aw (vb false) ?_
 refine nx<|mw (vi a) ?_
 refine mw (vi e) ?_
 refine pu (vb (decide (e≤a))) wN ?_
 refine mw (vb (decide (e≤a))) ?_
 rcases bf (decide (e≤a)) with b|b
 ·have h:=dF b
  iterate 3 refine sk b ?_
  refine pf (vb false) wN b ?_
  refine aw (vb false) ?_
  refine n3<|rt (vb false) ?_
  refine ⟨Ch.refl _ _,?_⟩
  simp only [i_within,b,cond_true,cond_false]
  exact rfl
 have i:=dT b
 refine mv (vi a) (wS b) ?_
 refine mv (vi d) (wS b) ?_
 refine pu (vb (decide (a≤d))) (wS b) ?_
 refine pk (vb (decide (a≤d))) wN b ?_
 refine aw (vb (decide (a≤d))) ?_
 refine n3<|rt (vb (decide (a≤d))) ?_
 refine ⟨Ch.refl _ _,?_⟩
 simp only [i_within,b,cond_true,cond_false]
 exact rfl
theorem FU {n a b:Int} (h:i_within n a b=true):a≤n∧n≤b:=by
  unfold i_within at h
  by_cases h1:a≤n <;> simp [h1] at h
  exact ⟨h1,h⟩
theorem Gh {n a b:Int} (h:i_within n a b=false):n < a∨b < n:=by
  unfold i_within at h
  by_cases h1:a≤n <;> simp [h1] at h <;> omega

theorem Lh (b:World) (m:Value) (a:List Int) (s:RC b m a) (d:Int) :Fn Tryz.prog 131 #[m,(vi d)] b (fun v g=>Keep b g∧O_4 g b.heap.size v (Js a d)):=by
 obtain ⟨e,f,rfl,l,A⟩:=s
 refine FI (n:=21) [(vs e a.length f),(vi d)] Tryz.func131 rfl rfl ?_
 refine sr<|aw (vb false) ?_
 refine n4<|mw (vs e a.length f) ?_
 refine ln wN uQ l ?_
 refine mw (vi 0) ?_
 refine uD<|rg<|uJ<|Ge [(0,(vs e a.length f)),(1,(vi d)),(7,(vs e a.length f)),(8,(vi (a.length:Int))),(9,(vi ((0:Nat):Int)))] ⟨rfl,rfl,rfl,rfl,(cA (Value.int .i64) (show (0:Int)=((0:Nat):Int) by omega)),trivial⟩ (fun e' g=>∃ (k:Nat) (o:Env),e'=pt o [(0,(vs e a.length f)),(1,(vi d)),(7,(vs e a.length f)),(8,(vi (a.length:Int))),(9,(vi ((k:Nat):Int)))]∧Ch (fun k=>b.heap.size≤k) b g∧Ch (fun k=>b.heap.size≤k) b g∧k≤a.length∧Iw (a.take k)=true) (fun e' _=>a.length - ((intOf (e' 9))).toNat) ?_ ?_
 ·exact fun u=>⟨0,u,rfl,(Ch.base b),(Ch.refl (fun k=>b.heap.size≤k) b),(by omega),(by first|rfl|exact JE (by assumption) (by omega) (by assumption))⟩
 ·rintro _ p ⟨k,o,rfl,h,t,B,C⟩
  refine sr<|pu (vb (decide (((k:Nat):Int) < (a.length:Int)))) wN ?_
  refine uD<|rg<|uK ?_
  rcases bf (decide (((k:Nat):Int) < (a.length:Int))) with i|i
  ·have D:=dF i
   refine cf i<|Gn<|uA<|uA<|wr<|rg<|sr<|mw (vs e a.length f) ?_
   refine ln wN uQ (l.from0 h) ?_
   refine mw (vi d) ?_
   refine pu (vb (decide ((a.length:Int)=d))) wN ?_
   refine aw (vb (decide ((a.length:Int)=d))) ?_
   refine n3<|rt (vb (decide ((a.length:Int)=d))) ?_
   refine ⟨h.keep0,?_⟩
   have w:Js a d=decide ((a.length:Int)=d):=by first|(have hz:=IS (x:=a) (k:=k) (by omega) (by assumption);simp [Js,hz])|(have hz:=GG (x:=a) (k:=k) (by assumption) (by omega);simp [Js,hz])
   rw [w]
   exact rfl
  have E:=dT i
  refine ct i<|FR<|rg<|uK<|uJ<|sr<|ix wN ((k:Nat):Int) uQ (l.from0 h) ?_
  refine ei (x:=a) k wN tE (l.from0 h) ?_
  refine aw (vi (a.getD k 0)) ?_
  refine nx<|mw (vi (a.getD k 0)) ?_
  refine cl wN (Hc p (a.getD k 0) 0 4294967295) ?_
  rintro _ F ⟨q,rfl⟩
  have r:=h.extk q
  refine pu (vb (!(i_within (a.getD k 0) 0 4294967295))) wN ?_
  refine n2 ?_
  rcases bf (i_within (a.getD k 0) 0 4294967295) with j|j
  ·have G:=Gh j
   refine ct (cA not j)<|sr<|aw (vb false) ?_
   refine uD<|rg<|Hn<|Gd<|uP<|uP<|Gd<|uP<|rt (vb false) ?_
   refine ⟨r.keep0,?_⟩
   have y:Js a d=false:=by first|(have hz:=IS (x:=a) (k:=k) (by omega) (by assumption);simp [Js,hz])|(have hz:=GG (x:=a) (k:=k) (by assumption) (by omega);simp [Js,hz])
   rw [y]
   exact rfl
  have H:=FU j
  refine cf (cA not j)<|FR<|uB<|rg<|uG ?_
  refine ar (((k:Nat):Int)+1) wN ?_
  refine mw (vi (((k:Nat):Int)+1)) ?_
  refine uD<|FX (w0:=p) [(0,(vs e a.length f)),(1,(vi d)),(7,(vs e a.length f)),(8,(vi (a.length:Int))),(9,(vi (((k+1):Nat):Int)))] ?_ ?_ ?_
  · exact ⟨rfl,rfl,rfl,rfl,(cA (Value.int .i64) (show ((((k:Nat):Int)+1):Int)=(((k+1):Nat):Int) by omega)),trivial⟩
  · exact fun u=>⟨(k+1),u,rfl,r,(((Ch.refl (fun k=>b.heap.size≤k) b).ext t (fun k hk=>hk)).extk q),(by omega),(by first|rfl|exact JE (by assumption) (by omega) (by assumption))⟩
  · show a.length - ((((k+1):Nat):Int)).toNat < a.length - (((k:Nat):Int)).toNat;omega

abbrev Lk (x:PHash) (a:Option Addr) (b:Nat) (d:Option Addr) (e:Nat):List Value:=[vs a x.H.length b,vs d x.Held.length e,vi x.N]
theorem GO:∀ w,(isAgg 23).run Tryz.prog w=.ok false w:=fun w=>by kernel_rfl
def Sz (w:World) (v:Value) (x:(PHash)):Prop:=∃ (a:Option Addr) (b:Nat) (d:Option Addr) (e:Nat),v=.agg #[.slice a x.H.length b,.slice d x.Held.length e,.int .i64 x.N]∧Rd w 1 (.slice a x.H.length b) x.H.length (x.H.map iV)∧x.H.length≤1073741824∧Rd w 1 (.slice d x.Held.length e) x.Held.length (x.Held.map bV)∧x.Held.length≤1073741824
theorem Lq {w:World} {x:List Int} {a:Option Addr} {b:Nat} (d:Rd w 1 (.slice a x.length b) x.length (x.map iV)) (e:x.length≤1073741824):RC w (vs a x.length b) x:=⟨_,_,rfl,d,e⟩
def Ho (a:PHash):(Bool):=bif (Js a.H 8) then (bif (i_within a.N 0 1048576) then (decide ((a.N % 64)=(a.Held.length:Int))) else (false)) else (false)
theorem Pb (e:World) (l:Value) (a:PHash) (w:Sz e l a) :Fn Tryz.prog 126 #[l] e (fun v m=>Keep e m∧O_4 m e.heap.size v (Ho a)):=by
 obtain ⟨g,h,i,j,rfl,x,y,A,E⟩:=w
 refine FI (n:=20) [(va (Lk a g h i j))] Tryz.func126 rfl rfl ?_
 refine sr<|bx (Lk a g h i j) wN ?_
 intro f B F G C o
 have p:=(Ch.base e).extk C
 refine aw (vb false) ?_
 refine nx<|pu (vp f 0) wN ?_
 refine ld (vs g a.H.length h) wN GO o ?_
 refine cl wN (Lh B _ a.H (Lq (x.from0 p) y) 8) ?_
 rintro _ D ⟨q,rfl⟩
 have r:=p.extk q
 refine mw (vb (Js a.H 8)) ?_
 rcases bf (Js a.H 8) with d|d
 ·iterate 3 refine sk d ?_
  refine pf (vb false) wN d ?_
  refine mw (vb false) ?_
  iterate 7 refine sk F1 ?_
  refine pf (vb false) wN F1 ?_
  refine aw (vb false) ?_
  refine n3<|rt (vb false) ?_
  refine ⟨r.keep0,?_⟩
  simp only [Ho,d,cond_true,cond_false]
  exact rfl
 have I:=IT d
 refine pu (vp f 2) (wS d) ?_
 have s:=(o.kp q)
 refine ld (vi a.N) (wS d) tE s ?_
 refine cl (wS d) (Hc D a.N 0 1048576) ?_
 rintro _ J ⟨t,rfl⟩
 have k:=r.extk t
 refine pk (vb (i_within a.N 0 1048576)) wN d ?_
 refine mw (vb (i_within a.N 0 1048576)) ?_
 rcases bf (i_within a.N 0 1048576) with b|b
 ·have K:=Gh b
  iterate 7 refine sk b ?_
  refine pf (vb false) wN b ?_
  refine aw (vb false) ?_
  refine n3<|rt (vb false) ?_
  refine ⟨k.keep0,?_⟩
  simp only [Ho,d,b,cond_true,cond_false]
  exact rfl
 have L:=FU b
 refine pu (vp f 2) (wS b) ?_
 have u:=(s.kp t)
 refine ld (vi a.N) (wS b) tE u ?_
 refine Ig a.N 64 (wS b) rfl rfl (by kernel_rfl) (by first|omega|assumption) ?_
 refine pu (vp f 1) (wS b) ?_
 refine ld (vs i a.Held.length j) (wS b) uH u ?_
 refine ln (wS b) tD (A.from0 k) ?_
 refine pu (vb (decide ((a.N % 64)=(a.Held.length:Int)))) (wS b) ?_
 refine pk (vb (decide ((a.N % 64)=(a.Held.length:Int)))) wN b ?_
 refine aw (vb (decide ((a.N % 64)=(a.Held.length:Int)))) ?_
 refine n3<|rt (vb (decide ((a.N % 64)=(a.Held.length:Int)))) ?_
 refine ⟨k.keep0,?_⟩
 simp only [Ho,d,b,cond_true,cond_false]
 exact rfl
theorem Ly {h:PHash} (hh:Ho h=true):Js h.H 8=true∧0≤h.N∧h.N≤1048576∧h.N % 64=(h.Held.length:Int):=by
  cases h1:Js h.H 8 with
  | false=>simp [Ho,h1] at hh
  | true =>
    cases h2:i_within h.N 0 1048576 with
    | false=>simp [Ho,h1,h2] at hh
    | true =>
      have a:=FU h2
      simp [Ho,h1,h2] at hh
      exact ⟨rfl,a.1,a.2,by omega⟩

def Tr (a:List UInt8):(List UInt8):=a
theorem IR (b:World) (d:Value) (a:List UInt8) (l:HP b d a) :Fn Tryz.prog 78 #[d] b (fun v e=>Keep b e∧JF e b.heap.size v (a)):=by
 obtain ⟨f,g,rfl,m,o⟩:=l
 refine FI (n:=6) [(vs f a.length g)] Tryz.func78 rfl rfl ?_
 refine sr<|aw (vs none 0 0) ?_
 refine nx<|Gc wN rfl rfl tD (fun w=>by kernel_rfl) ?_
 intro u x h p
 have i:=(Ch.base b).extk h
 refine mw (vs f a.length g) ?_
 refine ap0 a wN tD p (m.from0 i) h.size ?_
 intro j k y q r A
 have s:=i.extk q
 refine aw (vs j a.length k) ?_
 refine n3<|rt (vs j a.length k) ?_
 refine ⟨s.keep0,?_⟩
 have t:a=a:=by rfl
 rw [t]
 exact ⟨_,_,rfl,r,o,⟨trivial,trivial⟩⟩

def Nj:LTy (List UInt8):={E:=22,Eb:=5,sz:=1,enc:=fun e=>[vs (Pi e.2 0).1 e.1.length (Pi e.2 0).2],bs:=fun x=>[x],len:=fun _=>rfl,one:=fun _=>LN rfl,pos:=by decide,ne:=by decide}
def z_B:List UInt8:=[]
theorem IW:SlTy Tryz.prog 141 22 1 24 (vs none 0 0):=Ub Tryz.underlying141 (by kernel_rfl) rfl rfl
def UH (w:World) (v:Value) (x:(List (List UInt8))):Prop:=∃ (a:Option Addr) (b:Nat),v=.slice a x.length b∧RLv Nj w 1073741824 a x.length b x∧x.length≤1073741824
theorem JN (b:World) (B:Value) (a:List (List UInt8)) (K:UH b B a) (aa:(uN a).length≤4000000):Fn Tryz.prog 117 #[B] b (fun v f=>Keep b f∧JF f b.heap.size v (uN a)):=by
 obtain ⟨g,h,rfl,r,ab⟩:=K
 refine FI (n:=18) [(vs g a.length h)] Tryz.func117 rfl rfl ?_
 refine sr<|aw (vs none 0 0) ?_
 refine nx<|Gc wN rfl rfl tD (fun w=>by kernel_rfl) ?_
 intro s t C L
 have D:=(Ch.base b).extk C
 refine aw (vs (some s) 0 0) ?_
 refine n4<|mw (vs g a.length h) ?_
 obtain ⟨ac,M⟩:=RLv.row (r.from0 D)
 refine ln wN IW M ?_
 refine mw (vi 0) ?_
 refine uD<|rg<|uJ ?_
 have E:([]:List UInt8)=uN (a.take 0):=by rfl
 have F:0=(uN (a.take 0)).length:=by rw [← E];try (first|rfl|simp only [List.length_set]|simp)
 refine Ge [(2,(vs none 0 0)),(3,(.slice (some s) (uN (a.take 0)).length 0)),(7,(vs g a.length h)),(8,(vi (a.length:Int))),(9,(vi ((0:Nat):Int)))] ⟨rfl,rfl,rfl,rfl,(cA (Value.int .i64) (show (0:Int)=((0:Nat):Int) by omega)),trivial⟩ (fun e' f=>∃ (k:Nat) (G:Env) (d:Option Addr) (e:Nat),e'=pt G [(2,(vs none 0 0)),(3,(.slice d (uN (a.take k)).length e)),(7,(vs g a.length h)),(8,(vi (a.length:Int))),(9,(vi ((k:Nat):Int)))]∧Ch (fun k=>b.heap.size≤k) b f∧Ch (fun k=>b.heap.size≤k) t f∧k≤a.length∧(World.ownsRow f b.heap.size 5 1 (.slice d (uN (a.take k)).length e) (uN (a.take k)).length ((uN (a.take k)).map bV)∧(uN (a.take k)).length≤1073741824)) (fun e' _=>a.length - ((intOf (e' 9))).toNat) ?_ ?_
 ·exact fun u=>⟨0,u,(some s),0,rfl,D,(Ch.refl (fun k=>b.heap.size≤k) t),(by omega),⟨(by rw [← F,← E];exact L),(by rw [← F];first|exact (by simp)|(simp only [List.length_append,List.length_take,List.length_replicate];omega))⟩⟩
 ·rintro _ N ⟨k,G,d,e,rfl,j,H,ad,⟨o,O⟩⟩
  have hfl:=Tw (z:=z_B) (x:=a) (k:=k)
  refine sr<|pu (vb (decide (((k:Nat):Int) < (a.length:Int)))) wN ?_
  refine uD<|rg<|uK ?_
  rcases bf (decide (((k:Nat):Int) < (a.length:Int))) with m|m
  ·have ae:=dF m
   refine cf m<|Gn<|uA<|uA<|wr<|rg<|sr<|mw (vs d (uN (a.take k)).length e) ?_
   refine aw (vs d (uN (a.take k)).length e) ?_
   refine n3<|rt (vs d (uN (a.take k)).length e) ?_
   refine ⟨j.keep0,?_⟩
   have P:uN a=(uN (a.take k)):=by exact RW (by omega)
   rw [P]
   exact ⟨_,_,rfl,o,O,⟨trivial,trivial⟩⟩
  have af:=dT m
  refine ct m<|FR<|rg<|uK<|uJ<|sr ?_
  obtain ⟨ah,Q⟩:=RLv.row (r.from0 j)
  refine ix wN ((k:Nat):Int) IW Q ?_
  obtain ⟨ai,aj,R,S,T⟩:=RLv.el z_B (i:=k) r (by first|omega|(simp <;> omega))
  obtain ⟨y,A,ak,rfl,V,am,W⟩:=LC.c T
  obtain rfl:=LC.n W
  refine GW (vs y (a.getD k z_B).length A) wN rfl rfl rfl rfl uH (R.from0 j) ((Uo (off:=0) S (by first|rfl|simp|omega) (by decide)).trans rfl) ?_
  refine aw (vs y (a.getD k z_B).length A) ?_
  refine uD<|rg<|uG ?_
  refine mw (vs d (uN (a.take k)).length e) ?_
  refine mw (vs y (a.getD k z_B).length A) ?_
  refine apB (uN (a.take k)) (a.getD k z_B) wN tD o (V.from0 j) (z2 C H) ?_
  intro p q an I X ao Y
  have Z:=j.ext I (fun k hk=>nT (Nat.le_refl b.heap.size) (uI o k hk).1)
  refine aw (vs p ((uN (a.take k))++(a.getD k z_B)).length q) ?_
  refine uD<|uB<|rg<|uG ?_
  refine ar (((k:Nat):Int)+1) wN ?_
  refine mw (vi (((k:Nat):Int)+1)) ?_
  refine uD ?_
  have J:(((uN (a.take k))++(a.getD k z_B)):List UInt8)=uN (a.take (k+1)):=by exact NM (by omega)
  refine FX (w0:=N) [(2,(vs none 0 0)),(3,(.slice p (uN (a.take (k+1))).length q)),(7,(vs g a.length h)),(8,(vi (a.length:Int))),(9,(vi (((k+1):Nat):Int)))] ?_ ?_ ?_
  · exact ⟨rfl,(cA (fun l:List UInt8=>Value.slice p l.length q) J),rfl,rfl,(cA (Value.int .i64) (show ((((k:Nat):Int)+1):Int)=(((k+1):Nat):Int) by omega)),trivial⟩
  · exact fun u=>⟨(k+1),u,p,q,rfl,Z,(((Ch.refl (fun k=>b.heap.size≤k) t).ext H (fun k hk=>hk)).ext I (fun k hk=>nT (Nat.le_refl b.heap.size) (uI o k hk).1)),(by omega),(J ▸ ⟨X,Y⟩)⟩
  · show a.length - ((((k+1):Nat):Int)).toNat < a.length - (((k:Nat):Int)).toNat;omega

def Rs (w:World) (lo:Nat) (v:Value) (x:(List UInt8)×(Bool)):Prop:=∃ (a:Option Addr) (b:Nat),v=.tuple #[.slice a x.1.length b,.bool x.2]∧w.ownsRow lo 5 1 (.slice a x.1.length b) x.1.length (x.1.map bV)∧x.1.length≤1073741824∧Aps [(a,b)]
theorem Vf (h:World) (p:Value) (d:List UInt8) (u:HP h p d) (a:Int) (b:Int) :Fn Tryz.prog 173 #[p,(vi a),(vi b)] h (fun v q=>Keep h q∧Rs q h.heap.size v (Ic d a b)):=by
 obtain ⟨i,j,rfl,l,x⟩:=u
 refine FI (n:=36) [(vs i d.length j),(vi a),(vi b)] Tryz.func173 rfl rfl ?_
 refine sr<|aw (vs none 0 0) ?_
 refine aw (vb false) ?_
 refine n4<|jT1 [(0,(vs i d.length j)),(1,(vi a)),(2,(vi b)),(6,(vs none 0 0)),(7,(vb false))] (Ic d a b=([],false)) ?_ fun m=>?_
 ·intro y A B O
  have C:=(Ch.base h).extk B
  refine sr<|aw (vs none 0 0) ?_
  refine aw (vb false) ?_
  refine n1<|Jv (.inl rfl) (vs none 0 0) (vb false) rfl rfl rfl ?_
  refine ⟨C.keep0,?_⟩
  rw [y]
  exact ⟨_,_,rfl,(by first|exact FL _ _ _ _|exact OLv.nil _ _ _ _),(by simp),⟨trivial,trivial⟩⟩
 refine mw (vi a) ?_
 refine pu (vb (decide (a < 0))) wN ?_
 refine mw (vb (decide (a < 0))) ?_
 rcases bt (decide (a < 0)) with g|g
 ·have P:=dT g
  iterate 2 refine sk g ?_
  refine pk (vb true) wN g ?_
  refine mw (vb true) ?_
  iterate 4 refine sk T1 ?_
  refine pk (vb true) wN T1 ?_
  refine mw (vb true) ?_
  iterate 6 refine sk T1 ?_
  refine pk (vb true) wN T1 ?_
  refine n2<|ct T1 ?_
  have D:Ic d a b=([],false):=by first|exact MA (by omega)|exact LT (by omega) (by omega) (by omega) (by first|rfl|(congr 2;omega)|(congr 1;omega))
  exact wj (m D _ (Ch.refl _ _))
 have Q:=dF g
 refine mv (vi b) (wS g) ?_
 refine pu (vb (decide (b < 0))) (wS g) ?_
 refine pf (vb (decide (b < 0))) wN g ?_
 refine mw (vb (decide (b < 0))) ?_
 rcases bt (decide (b < 0)) with f|f
 ·have R:=dT f
  iterate 4 refine sk f ?_
  refine pk (vb true) wN f ?_
  refine mw (vb true) ?_
  iterate 6 refine sk T1 ?_
  refine pk (vb true) wN T1 ?_
  refine n2<|ct T1 ?_
  have E:Ic d a b=([],false):=by first|exact MA (by omega)|exact LT (by omega) (by omega) (by omega) (by first|rfl|(congr 2;omega)|(congr 1;omega))
  exact wj (m E _ (Ch.refl _ _))
 have S:=dF f
 refine mv (vi a) (wS f) ?_
 refine mv (vs i d.length j) (wS f) ?_
 refine ln (wS f) tD l ?_
 refine pu (vb (decide ((d.length:Int) < a))) (wS f) ?_
 refine pf (vb (decide ((d.length:Int) < a))) wN f ?_
 refine mw (vb (decide ((d.length:Int) < a))) ?_
 rcases bt (decide ((d.length:Int) < a)) with e|e
 ·have T:=dT e
  iterate 6 refine sk e ?_
  refine pk (vb true) wN e ?_
  refine n2<|ct T1 ?_
  have F:Ic d a b=([],false):=by first|exact MA (by omega)|exact LT (by omega) (by omega) (by omega) (by first|rfl|(congr 2;omega)|(congr 1;omega))
  exact wj (m F _ (Ch.refl _ _))
 have V:=dF e
 refine mv (vi b) (wS e) ?_
 refine mv (vs i d.length j) (wS e) ?_
 refine ln (wS e) tD l ?_
 refine mv (vi a) (wS e) ?_
 refine ar ((d.length:Int) - a) (wS e) ?_
 refine pu (vb (decide (((d.length:Int) - a) < b))) (wS e) ?_
 refine pf (vb (decide (((d.length:Int) - a) < b))) wN e ?_
 refine n2 ?_
 rcases bt (decide (((d.length:Int) - a) < b)) with k|k
 ·have W:=dT k
  refine ct k ?_
  have G:Ic d a b=([],false):=by first|exact MA (by omega)|exact LT (by omega) (by omega) (by omega) (by first|rfl|(congr 2;omega)|(congr 1;omega))
  exact wj (m G _ (Ch.refl _ _))
 have X:=dF k
 refine cf k<|y1<|Gc wN rfl rfl tD (fun w=>by kernel_rfl) ?_
 intro Y A r H
 have o:=(Ch.base h).extk r
 refine mw (vs i d.length j) ?_
 refine mw (vi a) ?_
 refine mw (vi a) ?_
 refine mw (vi b) ?_
 refine ar (a+b) wN ?_
 refine slv ((d.drop ((a).toNat)).take ((((a+b)).toNat) - ((a).toNat))) ((a).toNat) (((a+b)).toNat) wN tD (l.from0 o) (by first|omega|(simp <;> omega)) (by first|omega|(simp <;> omega)) (by first|rfl|(simp;done)|(rw [List.take_of_length_le (by first|(simp;done)|(simp;omega))])) rfl rfl rfl rfl (.inr ⟨_,_,_,rfl,rfl,by omega⟩) (.inr ⟨_,_,_,rfl,rfl,by omega⟩) ?_
 have I:((a).toNat)≤(((a+b)).toNat):=(by first|omega|(simp <;> omega))
 have J:(((a+b)).toNat)≤d.length:=(by first|omega|(simp <;> omega))
 refine ap0 ((d.drop ((a).toNat)).take ((((a+b)).toNat) - ((a).toNat))) wN tD H (Rd.subV (x':=((d.drop ((a).toNat)).take ((((a+b)).toNat) - ((a).toNat)))) (l.from0 o) I J (by first|rfl|(simp;done)|(rw [List.take_of_length_le (by first|(simp;done)|(simp;omega))]))) r.size ?_
 intro s t Z K L aa
 have M:=o.extk K
 refine aw (vs s ((d.drop ((a).toNat)).take ((((a+b)).toNat) - ((a).toNat))).length t) ?_
 refine aw (vb true) ?_
 refine n3<|Jv (.inl rfl) (vs s ((d.drop ((a).toNat)).take ((((a+b)).toNat) - ((a).toNat))).length t) (vb true) rfl rfl rfl ?_
 refine ⟨M.keep0,?_⟩
 have N:Ic d a b=(((d.drop ((a).toNat)).take ((((a+b)).toNat) - ((a).toNat))),true):=by first|exact MA (by omega)|exact LT (by omega) (by omega) (by omega) (by first|rfl|(congr 2;omega)|(congr 1;omega))
 rw [N]
 exact ⟨_,_,rfl,L,(nT (by simp only [List.length_take,List.length_drop];omega) x),⟨trivial,trivial⟩⟩

def Rp (w:World) (lo:Nat) (v:Value) (x:(Int)×(Int)×(Bool)):Prop:=v=.tuple #[.int .i64 x.1,.int .i64 x.2.1,.bool x.2.2]
theorem UB (f:World) (w:Value) (d:List UInt8) (F:HP f w d) (b:Int) (a:Int) :Fn Tryz.prog 168 #[w,(vi b),(vi a)] f (fun v m=>Keep f m∧Rp m f.heap.size v (Hp d b a)):=by
 obtain ⟨r,s,rfl,G,H⟩:=F
 refine FI (n:=45) [(vs r d.length s),(vi b),(vi a)] Tryz.func168 rfl rfl ?_
 refine sr<|aw (vi 0) ?_
 refine aw (vi 0) ?_
 refine aw (vb false) ?_
 refine n4<|jT1 [(0,(vs r d.length s)),(1,(vi b)),(2,(vi a)),(6,(vi 0)),(7,(vi 0)),(8,(vb false))] (Hp d b a=(0,0,false)) ?_ fun y=>?_
 ·intro I e J R
  have K:=(Ch.base f).extk J
  refine sr<|aw (vi 0) ?_
  refine aw (vi 0) ?_
  refine aw (vb false) ?_
  refine n1<|Hu (.inl rfl) (vi 0) (vi 0) (vb false) rfl rfl rfl rfl ?_
  refine ⟨K.keep0,?_⟩
  rw [I]
  exact rfl
 refine mw (vi a) ?_
 refine pu (vb (decide (a < 1))) wN ?_
 refine mw (vb (decide (a < 1))) ?_
 rcases bt (decide (a < 1)) with h|h
 ·have S:=dT h
  iterate 2 refine sk h ?_
  refine pk (vb true) wN h ?_
  refine n2<|ct T1 ?_
  have L:Hp d b a=(0,0,false):=by first|exact Jw (by omega)|exact MU (by assumption)|exact MT (by omega) (by omega) (by assumption) (by omega)
  exact wj (y L _ (Ch.refl _ _))
 have T:=dF h
 refine mv (vi a) (wS h) ?_
 refine pu (vb (decide (6 < a))) (wS h) ?_
 refine pf (vb (decide (6 < a))) wN h ?_
 refine n2 ?_
 rcases bt (decide (6 < a)) with o|o
 ·have V:=dT o
  refine ct o ?_
  have M:Hp d b a=(0,0,false):=by first|exact Jw (by omega)|exact MU (by assumption)|exact MT (by omega) (by omega) (by assumption) (by omega)
  exact wj (y M _ (Ch.refl _ _))
 have W:=dF o
 refine cf o<|y1<|mw (vs r d.length s) ?_
 refine mw (vi b) ?_
 refine mw (vi a) ?_
 refine cl wN (Vf f _ d (FV G H) b a) ?_
 rintro _ e ⟨N,⟨j,l,rfl,t,_⟩⟩
 have A:=(Ch.base f).extk N
 have X:=Sa d b a
 refine mw (.tuple #[(vs j ((Ic d b a).1).length l),(vb ((Ic d b a).2))]) ?_
 refine pu (vs j ((Ic d b a).1).length l) wN ?_
 refine pu (vb ((Ic d b a).2)) wN ?_
 refine aw (vs j ((Ic d b a).1).length l) ?_
 refine aw (vb ((Ic d b a).2)) ?_
 refine n4<|mw (vb ((Ic d b a).2)) ?_
 refine pu (vb (!((Ic d b a).2))) wN ?_
 refine n2 ?_
 rcases bf ((Ic d b a).2) with q|q
 ·refine ct (cA not q)<|sr<|aw (vi 0) ?_
  refine aw (vi 0) ?_
  refine aw (vb false) ?_
  refine n1<|Hu (.inl rfl) (vi 0) (vi 0) (vb false) rfl rfl rfl rfl ?_
  refine ⟨A.keep0,?_⟩
  have O:Hp d b a=(0,0,false):=by first|exact Jw (by omega)|exact MU (by assumption)|exact MT (by omega) (by omega) (by assumption) (by omega)
  rw [O]
  exact rfl
 have Y:=SR q
 refine cf (cA not q)<|y1<|aw (vi 0) ?_
 refine n4<|mw (vs j ((Ic d b a).1).length l) ?_
 refine ln wN tD (Rd.of_own t) ?_
 refine mw (vi 0) ?_
 refine uD<|rg<|uJ<|Ge [(1,(vi b)),(2,(vi a)),(6,(vi 0)),(7,(vi 0)),(8,(vb false)),(11,(vi (Jn ((Ic d b a).1.take 0) 0))),(29,(vs j ((Ic d b a).1).length l)),(30,(vi (((Ic d b a).1).length:Int))),(31,(vi ((0:Nat):Int)))] ⟨rfl,rfl,rfl,rfl,rfl,(cA (Value.int .i64) (show (0:Int)=(Jn ((Ic d b a).1.take 0) 0) by rfl)),rfl,rfl,(cA (Value.int .i64) (show (0:Int)=((0:Nat):Int) by omega)),trivial⟩ (fun e' m=>∃ (i:Nat) (B:Env),e'=pt B [(1,(vi b)),(2,(vi a)),(6,(vi 0)),(7,(vi 0)),(8,(vb false)),(11,(vi (Jn ((Ic d b a).1.take i) 0))),(29,(vs j ((Ic d b a).1).length l)),(30,(vi (((Ic d b a).1).length:Int))),(31,(vi ((i:Nat):Int)))]∧Ch (fun k=>f.heap.size≤k) f m∧Ch (fun k=>e.heap.size≤k) e m∧i≤(Ic d b a).1.length) (fun e' _=>(Ic d b a).1.length - ((intOf (e' 31))).toNat) ?_ ?_
 ·exact fun u=>⟨0,u,rfl,A,(Ch.refl (fun k=>e.heap.size≤k) e),(by omega)⟩
 ·rintro _ P ⟨i,B,rfl,C,D,Z⟩
  have hgb:=QD ((Ic d b a).1) i (by omega)
  have aa:((Ic d b a).1.getD i 0).toNat < 256:=UInt8.toNat_lt _
  refine sr<|pu (vb (decide (((i:Nat):Int) < (((Ic d b a).1).length:Int)))) wN ?_
  refine uD<|rg<|uK ?_
  rcases bf (decide (((i:Nat):Int) < (((Ic d b a).1).length:Int))) with p|p
  ·have ab:=dF p
   refine cf p<|Gn<|uA<|uA<|wr<|rg<|sr<|mw (vi (Jn ((Ic d b a).1.take i) 0)) ?_
   refine mw (vi b) ?_
   refine mw (vi a) ?_
   refine ar (b+a) wN ?_
   refine aw (vi (Jn ((Ic d b a).1.take i) 0)) ?_
   refine aw (vi (b+a)) ?_
   refine aw (vb true) ?_
   refine n3<|Hu (.inl rfl) (vi (Jn ((Ic d b a).1.take i) 0)) (vi (b+a)) (vb true) rfl rfl rfl rfl ?_
   refine ⟨C.keep0,?_⟩
   have Q:Hp d b a=((Jn ((Ic d b a).1.take i) 0),(b+a),true):=by first|exact Jw (by omega)|exact MU (by assumption)|exact MT (by omega) (by omega) (by assumption) (by omega)
   rw [Q]
   exact rfl
  have ac:=dT p
  refine ct p<|FR<|rg<|uK<|uJ<|sr ?_
  have E:=(tC t D (fun g hg hlt hk=>by have ad:=(uI t g hg).2;have ae:e.heap.size≤e.heap.size:=(Nat.le_refl e.heap.size);have af:e.heap.size≤g:=hk;omega))
  refine ix wN ((i:Nat):Int) tD (Rd.of_own E) ?_
  refine eb (x:=(Ic d b a).1) i wN HI (Rd.of_own E) ?_
  refine aw (v8 ((((Ic d b a).1).getD i 0).toNat:Int)) ?_
  refine uD<|rg<|uG ?_
  refine mw (vi (Jn ((Ic d b a).1.take i) 0)) ?_
  refine ar (256*(Jn ((Ic d b a).1.take i) 0)) wN ?_
  refine mw (v8 ((((Ic d b a).1).getD i 0).toNat:Int)) ?_
  refine ar ((((Ic d b a).1).getD i 0).toNat:Int) wN ?_
  refine ar ((256*(Jn ((Ic d b a).1.take i) 0))+((((Ic d b a).1).getD i 0).toNat:Int)) wN ?_
  refine aw (vi ((256*(Jn ((Ic d b a).1.take i) 0))+((((Ic d b a).1).getD i 0).toNat:Int))) ?_
  refine uD<|uB<|rg<|uG ?_
  refine ar (((i:Nat):Int)+1) wN ?_
  refine mw (vi (((i:Nat):Int)+1)) ?_
  refine uD<|FX (w0:=P) [(1,(vi b)),(2,(vi a)),(6,(vi 0)),(7,(vi 0)),(8,(vb false)),(11,(vi (Jn ((Ic d b a).1.take (i+1)) 0))),(29,(vs j ((Ic d b a).1).length l)),(30,(vi (((Ic d b a).1).length:Int))),(31,(vi (((i+1):Nat):Int)))] ?_ ?_ ?_
  · exact ⟨rfl,rfl,rfl,rfl,rfl,(cA (Value.int .i64) (show (((256*(Jn ((Ic d b a).1.take i) 0))+((((Ic d b a).1).getD i 0).toNat:Int)):Int)=(Jn ((Ic d b a).1.take (i+1)) 0) by exact NH (by omega))),rfl,rfl,(cA (Value.int .i64) (show ((((i:Nat):Int)+1):Int)=(((i+1):Nat):Int) by omega)),trivial⟩
  · exact fun u=>⟨(i+1),u,rfl,C,((Ch.refl (fun k=>e.heap.size≤k) e).ext D (fun k hk=>hk)),(by omega)⟩
  · show (Ic d b a).1.length - ((((i+1):Nat):Int)).toNat < (Ic d b a).1.length - (((i:Nat):Int)).toNat;omega

theorem Ml (i:World) (e:Int) (d:Int) (x:1≤d) (y:d≤31):Fn Tryz.prog 161 #[(vi e),(vi d)] i (fun v l=>Keep i l∧O_3 l i.heap.size v (rot e d)):=by
 refine FI (n:=23) [(vi e),(vi d)] Tryz.func161 rfl rfl ?_
 refine sr<|aw (vi 0) ?_
 refine nx<|mw (vi e) ?_
 refine Im e 4294967295 4294967296 32 wN rfl rfl (by decide) (by decide) (by decide) (by kernel_rfl) ?_
 refine aw (vi (e % 4294967296)) ?_
 refine n4<|jT1 [(0,(vi (e % 4294967296))),(1,(vi d)),(4,(vi 0))] (rot e d=(e % 4294967296)) ?_ fun m=>?_
 ·intro o f p A
  have q:=(Ch.base i).extk p
  refine sr<|mw (vi (e % 4294967296)) ?_
  refine aw (vi (e % 4294967296)) ?_
  refine n1<|rt (vi (e % 4294967296)) ?_
  refine ⟨q.keep0,?_⟩
  rw [o]
  exact rfl
 refine mw (vi d) ?_
 refine pu (vb (decide (d < 0))) wN ?_
 refine mw (vb (decide (d < 0))) ?_
 rcases bt (decide (d < 0)) with g|g
 ·have B:=dT g
  iterate 2 refine sk g ?_
  refine pk (vb true) wN g ?_
  refine n2<|ct T1 ?_
  have r:rot e d=(e % 4294967296):=by first|rfl|(exfalso;omega)
  exact wj (m r _ (Ch.refl _ _))
 have C:=dF g
 refine mv (vi d) (wS g) ?_
 refine pu (vb (decide (31 < d))) (wS g) ?_
 refine pf (vb (decide (31 < d))) wN g ?_
 refine n2 ?_
 rcases bt (decide (31 < d)) with j|j
 ·have D:=dT j
  refine ct j ?_
  have s:rot e d=(e % 4294967296):=by first|rfl|(exfalso;omega)
  exact wj (m s _ (Ch.refl _ _))
 have E:=dF j
 refine cf j<|FR<|rg<|uK<|Ga ([(14,[],[],(fun _ v _=>v=(vi (e % 4294967296)))),(15,[],[],(fun _ v _=>v=(vi d))),(16,[],[0,1],(fun _ v _=>v=(vi ((e % 4294967296) / (2:Int) ^ (d).toNat)))),(17,[],[],(fun _ v _=>v=(vi (e % 4294967296)))),(18,[],[],(fun _ v _=>v=(vi d))),(19,[],[4],(fun _ v _=>v=(vi (32 - d)))),(20,[],[3,4,5],(fun _ v _=>v=(vi ((e % 4294967296)*(2:Int) ^ ((32 - d)).toNat))))]:GV) (fun _ l=>Keep i l) [] GU rfl (by kernel_rfl) (by kernel_rfl) ?_ (fun _ _ h=>h) (fun _ _ _ _ h _ k=>h.trans k) trivial ?_ ?_ ?_
 ·exact ⟨hV,hE,⟨hV,hE,⟨hV,hE,⟨hV,hE,⟨hV,hE,⟨hV,hE,⟨hV,hE,trivial⟩⟩⟩⟩⟩⟩⟩
 ·exact trivial
 ·refine ⟨?_,⟨?_,⟨?_,⟨?_,⟨?_,⟨?_,⟨?_,trivial⟩⟩⟩⟩⟩⟩⟩
  ·intro _ f F _
   rintro _ _ _ _ _ _ _
   refine sw<|mw (vi (e % 4294967296)) ?_
   exact f1
  ·intro _ f G _
   rintro _ _ _ _ _ _ _
   refine sw<|mw (vi d) ?_
   exact f1
  ·intro _ f H _
   rintro _ rfl _ rfl _ _ _ _ _
   refine sw<|Mp (e % 4294967296) d wN rfl rfl rfl rfl rfl (by omega) (by omega) ?_
   have I:=Ns (a:=(e % 4294967296)) (by omega) (d).toNat
   exact f1
  ·intro _ f J _
   rintro _ _ _ _ _ _ _
   refine sw<|mw (vi (e % 4294967296)) ?_
   exact f1
  ·intro _ f K _
   rintro _ _ _ _ _ _ _
   refine sw<|mw (vi d) ?_
   exact f1
  ·intro _ f L _
   rintro _ _ _ _ _ rfl _ _
   refine sw<|ar (32 - d) wN ?_
   exact f1
  ·intro _ f M _
   rintro _ _ _ _ rfl _ rfl _ rfl _
   refine sw<|LD (e % 4294967296) (32 - d) wN rfl rfl rfl rfl rfl (by omega) (by omega) (by omega) (by omega) ?_
   have N:=Qi (a:=(e % 4294967296)) (n:=((32 - d)).toNat) (by omega) (by omega) (by omega)
   exact f1
 ·intro _ f t
  have u:=(Ch.base i).extk t
  rintro _ rfl _ rfl _ rfl
  have O:=Ns (a:=(e % 4294967296)) (by omega) (d).toNat
  rintro _ rfl _ rfl _ rfl _ rfl
  have P:=Qi (a:=(e % 4294967296)) (n:=((32 - d)).toNat) (by omega) (by omega) (by omega)
  refine sw<|NY ((e % 4294967296) / (2:Int) ^ (d).toNat) ((e % 4294967296)*(2:Int) ^ ((32 - d)).toNat) wN rfl rfl (by kernel_rfl) (by omega) (by omega) (by omega) (by omega) ?_
  have Q:=Uj (a:=((e % 4294967296) / (2:Int) ^ (d).toNat)) (b:=((e % 4294967296)*(2:Int) ^ ((32 - d)).toNat)) (by omega) (by omega)
  refine Im (orI ((e % 4294967296) / (2:Int) ^ (d).toNat) ((e % 4294967296)*(2:Int) ^ ((32 - d)).toNat)) 4294967295 4294967296 32 wN rfl rfl (by decide) (by decide) (by decide) (by kernel_rfl) ?_
  refine aw (vi ((orI ((e % 4294967296) / (2:Int) ^ (d).toNat) ((e % 4294967296)*(2:Int) ^ ((32 - d)).toNat)) % 4294967296)) ?_
  refine n3<|rt (vi ((orI ((e % 4294967296) / (2:Int) ^ (d).toNat) ((e % 4294967296)*(2:Int) ^ ((32 - d)).toNat)) % 4294967296)) ?_
  refine ⟨u.keep0,?_⟩
  have w:rot e d=((orI ((e % 4294967296) / (2:Int) ^ (d).toNat) ((e % 4294967296)*(2:Int) ^ ((32 - d)).toNat)) % 4294967296):=by first|rfl|(exfalso;omega)
  rw [w]
  exact rfl

theorem PJ (i:World) (P:Value) (f:List UInt8) (ac:HP i P f) :Fn Tryz.prog 160 #[P] i (fun v r=>Keep i r∧TQ r i.heap.size v (schedP f)):=by
 obtain ⟨A,B,rfl,Q,ad⟩:=ac
 refine FI (n:=79) [(vs A f.length B)] Tryz.func160 rfl rfl ?_
 refine sr<|aw (vs none 0 0) ?_
 refine n4<|mw (vs A f.length B) ?_
 refine ln wN tD Q ?_
 refine pu (vb (!(decide ((f.length:Int)=64)))) wN ?_
 refine n2 ?_
 rcases bf (decide ((f.length:Int)=64)) with C|C
 ·have aJ:=dF C
  refine ct (cA not C)<|sr<|aw (vs none 0 0) ?_
  refine n1<|rt (vs none 0 0) ?_
  refine ⟨Ch.refl _ _,?_⟩
  have ae:schedP f=[]:=by first|exact Lv (by omega)|exact OM (by omega) (by omega) (by omega)
  rw [ae]
  exact ⟨_,_,rfl,(by first|exact FL _ _ _ _|exact OLv.nil _ _ _ _),(by simp),⟨trivial,trivial⟩⟩
 have aK:=dT C
 refine cf (cA not C)<|y1<|OG (64) wN rfl rfl rfl uQ 64 rfl (by omega) (by first|(simp only [List.length_append,List.length_cons,List.length_nil,List.length_replicate,List.length_take,List.length_drop];omega)|omega) (by first|(simp only [List.length_append,List.length_cons,List.length_nil,List.length_replicate,List.length_take,List.length_drop];omega)|omega) ?_
 intro g h H af D
 have ah:=(Ch.base i).extk af
 refine aw (vs g (List.replicate 64 (0:Int)).length h) ?_
 refine n4<|aw (vi 0) ?_
 refine uD<|rg<|uJ ?_
 have ai:((List.replicate 64 (0:Int)):List Int)=GQ f 0++List.replicate (64 - 0) (0:Int):=by rfl
 refine Ge [(0,(vs A f.length B)),(2,(vs none 0 0)),(3,(vs g (List.replicate 64 (0:Int)).length h)),(4,(vi ((0:Nat):Int)))] ⟨rfl,rfl,rfl,(cA (Value.int .i64) (show (0:Int)=((0:Nat):Int) by omega)),trivial⟩ (fun e' r=>∃ (k:Nat) (R:Env),e'=pt R [(0,(vs A f.length B)),(2,(vs none 0 0)),(3,(vs g (List.replicate 64 (0:Int)).length h)),(4,(vi ((k:Nat):Int)))]∧Ch (fun k=>i.heap.size≤k) i r∧Ch (fun k=>i.heap.size≤k) H r∧k≤16∧World.ownsRow r i.heap.size 3 1 (.slice g (List.replicate 64 (0:Int)).length h) (List.replicate 64 (0:Int)).length ((GQ f k++List.replicate (64 - k) (0:Int)).map iV)) (fun e' _=>(16 - (intOf (e' 4))).toNat) ?_ ?_
 ·exact fun u=>⟨0,u,rfl,ah,(Ch.refl (fun k=>i.heap.size≤k) H),(by omega),(by rw [← ai];exact D)⟩
 ·rintro _ E ⟨k,R,rfl,I,aj,aL,S⟩
  have hsl:=Jj f k
  refine uK<|sr<|mw (vi ((k:Nat):Int)) ?_
  refine pu (vb (decide (((k:Nat):Int) < 16))) wN ?_
  refine n2 ?_
  rcases bt (decide (((k:Nat):Int) < 16)) with F|F
  ·have aM:=dT F
   refine ct F<|FR<|rg<|uK<|uJ<|uG ?_
   refine mw (vs g (List.replicate 64 (0:Int)).length h) ?_
   refine mw (vi ((k:Nat):Int)) ?_
   refine mw (vs A f.length B) ?_
   refine mw (vi ((k:Nat):Int)) ?_
   refine ar (4*((k:Nat):Int)) wN ?_
   refine cl wN (UB E _ f (FV (Q.from0 I) ad) (4*((k:Nat):Int)) 4) ?_
   rintro _ T ⟨J,rfl⟩
   refine mw (.tuple #[(vi ((Hp f (4*((k:Nat):Int)) 4).1)),(vi ((Hp f (4*((k:Nat):Int)) 4).2.1)),(vb ((Hp f (4*((k:Nat):Int)) 4).2.2))]) ?_
   refine pu (vi ((Hp f (4*((k:Nat):Int)) 4).1)) wN ?_
   refine pu (vi ((Hp f (4*((k:Nat):Int)) 4).2.1)) wN ?_
   refine pu (vb ((Hp f (4*((k:Nat):Int)) 4).2.2)) wN ?_
   have V:=(gc S J)
   refine ix wN ((k:Nat):Int) uQ (Rd.of_own V) ?_
   refine Il (GQ f k++List.replicate (64 - k) (0:Int)) (k) ((Hp f (4*((k:Nat):Int)) 4).1) wN rfl rfl rfl (by simp) rfl GI V (by first|omega|(simp only [List.length_append,List.length_replicate,List.length_take,List.length_set,List.length_map];omega)) ?_
   intro p W ak
   have am:=(I.extk J).ext W (fun k hk=>nT (Nat.le_refl i.heap.size) (uI D k hk).1)
   refine uD<|uB<|rg<|uG ?_
   refine mw (vi ((k:Nat):Int)) ?_
   refine ar (((k:Nat):Int)+1) wN ?_
   refine aw (vi (((k:Nat):Int)+1)) ?_
   refine uD ?_
   have an:(((GQ f k++List.replicate (64 - k) (0:Int)).set k ((Hp f (4*((k:Nat):Int)) 4).1)):List Int)=GQ f (k+1)++List.replicate (64 - (k+1)) (0:Int):=by exact Nv (by omega) (by omega)
   refine FX (w0:=E) [(0,(vs A f.length B)),(2,(vs none 0 0)),(3,(vs g (List.replicate 64 (0:Int)).length h)),(4,(vi (((k+1):Nat):Int)))] ?_ ?_ ?_
   · exact ⟨rfl,rfl,rfl,(cA (Value.int .i64) (show ((((k:Nat):Int)+1):Int)=(((k+1):Nat):Int) by omega)),trivial⟩
   · exact fun u=>⟨(k+1),u,rfl,am,((((Ch.refl (fun k=>i.heap.size≤k) H).ext aj (fun k hk=>hk)).extk J).ext W (fun k hk=>nT (Nat.le_refl i.heap.size) (uI D k hk).1)),(by omega),(by rw [← an];exact ak)⟩
   · show (16 - (((k+1):Nat):Int)).toNat < (16 - ((k:Nat):Int)).toNat;omega
  have aN:=dF F
  refine cf F<|Gn<|uA ?_
  obtain rfl:k=16:=by omega
  refine uA<|wr<|rg<|uK<|sr<|aw (vi 16) ?_
  refine uD<|rg<|uJ ?_
  have ao:((GQ f 16++List.replicate (64 - 16) (0:Int)):List Int)=schedN f 0++List.replicate (48 - 0) (0:Int):=by rfl
  refine Ge [(2,(vs none 0 0)),(3,(vs g (List.replicate 64 (0:Int)).length h)),(5,(vi (16+((0:Nat):Int))))] ⟨rfl,rfl,(cA (Value.int .i64) (show (16:Int)=(16+((0:Nat):Int)) by omega)),trivial⟩ (fun e' r=>∃ (m:Nat) (X:Env),e'=pt X [(2,(vs none 0 0)),(3,(vs g (List.replicate 64 (0:Int)).length h)),(5,(vi (16+((m:Nat):Int))))]∧Ch (fun k=>i.heap.size≤k) i r∧Ch (fun k=>i.heap.size≤k) E r∧m≤48∧World.ownsRow r i.heap.size 3 1 (.slice g (List.replicate 64 (0:Int)).length h) (List.replicate 64 (0:Int)).length ((schedN f m++List.replicate (48 - m) (0:Int)).map iV)) (fun e' _=>(64 - (intOf (e' 5))).toNat) ?_ ?_
  ·exact fun u=>⟨0,u,rfl,I,(Ch.refl (fun k=>i.heap.size≤k) E),(by omega),(by rw [← ao];exact S)⟩
  ·rintro _ T ⟨m,X,rfl,Y,ap,aO,q⟩
   have hsl:=IY f m
   obtain ⟨l,K⟩:∃ z,(schedN f m++List.replicate (48 - m) (0:Int)).getD (((16+((m:Nat):Int)) - 7)).toNat 0=z:=⟨_,rfl⟩
   have aP:0≤l∧l < 4294967296:=K ▸ Ki (Lw f m) (((16+((m:Nat):Int)) - 7)).toNat
   obtain ⟨o,L⟩:∃ z,(schedN f m++List.replicate (48 - m) (0:Int)).getD (((16+((m:Nat):Int)) - 16)).toNat 0=z:=⟨_,rfl⟩
   have aQ:0≤o∧o < 4294967296:=L ▸ Ki (Lw f m) (((16+((m:Nat):Int)) - 16)).toNat
   obtain ⟨d,M⟩:∃ z,(schedN f m++List.replicate (48 - m) (0:Int)).getD (((16+((m:Nat):Int)) - 15)).toNat 0=z:=⟨_,rfl⟩
   have aR:0≤d∧d < 4294967296:=M ▸ Ki (Lw f m) (((16+((m:Nat):Int)) - 15)).toNat
   obtain ⟨e,N⟩:∃ z,(schedN f m++List.replicate (48 - m) (0:Int)).getD (((16+((m:Nat):Int)) - 2)).toNat 0=z:=⟨_,rfl⟩
   have aS:0≤e∧e < 4294967296:=N ▸ Ki (Lw f m) (((16+((m:Nat):Int)) - 2)).toNat
   refine uK<|sr<|mw (vi (16+((m:Nat):Int))) ?_
   refine pu (vb (decide ((16+((m:Nat):Int)) < 64))) wN ?_
   refine n2 ?_
   rcases bf (decide ((16+((m:Nat):Int)) < 64)) with G|G
   ·have aT:=dF G
    refine cf G<|Gn<|uA<|uA<|wr<|rg<|sr<|mw (vs g (List.replicate 64 (0:Int)).length h) ?_
    refine aw (vs g (List.replicate 64 (0:Int)).length h) ?_
    refine n3<|rt (vs g (List.replicate 64 (0:Int)).length h) ?_
    refine ⟨Y.keep0,?_⟩
    have aq:schedP f=(schedN f m++List.replicate (48 - m) (0:Int)):=by first|exact Lv (by omega)|exact OM (by omega) (by omega) (by omega)
    rw [aq]
    have Z:(List.replicate 64 (0:Int)).length=((schedN f m++List.replicate (48 - m) (0:Int))).length:=by first|(simp only [List.length_append,List.length_take,List.length_replicate,List.length_set,List.length_map];done)|(simp only [List.length_append,List.length_take,List.length_replicate,List.length_set,List.length_map];omega)
    rw [Z] at q ⊢
    exact ⟨_,_,rfl,q,(by rw [← Z];rw [List.length_replicate];first|assumption|omega),⟨trivial,trivial⟩⟩
   have aU:=dT G
   refine ct G<|FR<|rg<|uK<|uJ<|uK<|IM ([(33,[],[],(fun _ v _=>v=(vs g (List.replicate 64 (0:Int)).length h))),(34,[],[],(fun _ v _=>v=(vi (16+((m:Nat):Int))))),(35,[],[1],(fun _ v _=>v=(vi ((16+((m:Nat):Int)) - 15)))),(36,[],[0,1,2],(fun _ v _=>v=(ve (vs g (List.replicate 64 (0:Int)).length h) ((((16+((m:Nat):Int)) - 15)).toNat*1)))),(37,[],[0,1,2,3],(fun _ v _=>v=(vi d))),(38,[],[],(fun _ v _=>v=(vs g (List.replicate 64 (0:Int)).length h))),(39,[],[],(fun _ v _=>v=(vi (16+((m:Nat):Int))))),(40,[],[6],(fun _ v _=>v=(vi ((16+((m:Nat):Int)) - 2)))),(41,[],[5,6,7],(fun _ v _=>v=(ve (vs g (List.replicate 64 (0:Int)).length h) ((((16+((m:Nat):Int)) - 2)).toNat*1)))),(42,[],[5,6,7,8],(fun _ v _=>v=(vi e))),(6,[],[0,1,2,3,4],(fun _ v _=>v=(vi d)))]:GV) GU rfl (by kernel_rfl) (by kernel_rfl) ?_ ?_ ?_
   ·exact ⟨hV,hE,⟨hV,hE,⟨hV,hE,⟨hV,hE,⟨hV,hE,⟨hV,hE,⟨hV,hE,⟨hV,hE,⟨hV,hE,⟨hV,hE,⟨hV,hE,trivial⟩⟩⟩⟩⟩⟩⟩⟩⟩⟩⟩
   ·refine ⟨?_,⟨?_,⟨?_,⟨?_,⟨?_,⟨?_,⟨?_,⟨?_,⟨?_,⟨?_,⟨?_,trivial⟩⟩⟩⟩⟩⟩⟩⟩⟩⟩⟩
    ·intro p aV
     rintro _ _ _ _ _ _ _ _ _ _ _
     refine sw<|mw (vs g (List.replicate 64 (0:Int)).length h) ?_
     exact f2
    ·intro p aW
     rintro _ _ _ _ _ _ _ _ _ _ _
     refine sw<|mw (vi (16+((m:Nat):Int))) ?_
     exact f2
    ·intro p aX
     rintro _ _ rfl _ _ _ _ _ _ _ _ _
     refine sw<|ar ((16+((m:Nat):Int)) - 15) wN ?_
     exact f2
    ·intro p au
     rintro _ rfl _ rfl _ rfl _ _ _ _ _ _ _ _
     refine sw ?_
     have av:=(gc q au)
     refine ix wN ((16+((m:Nat):Int)) - 15) uQ (Rd.of_own av) ?_
     exact f2
    ·intro p ax
     rintro _ rfl _ rfl _ rfl _ rfl _ _ _ _ _ _ _
     refine sw ?_
     have ay:=(gc q ax)
     refine GW (iV d) wN rfl rfl rfl rfl tE (Rd.of_own ay) (by rw [← M];exact Px (by simp) (by first|omega|(simp <;> omega))) ?_
     exact f2
    ·intro p aY
     rintro _ _ _ _ _ _ _ _ _ _ _
     refine sw<|mw (vs g (List.replicate 64 (0:Int)).length h) ?_
     exact f2
    ·intro p aZ
     rintro _ _ _ _ _ _ _ _ _ _ _
     refine sw<|mw (vi (16+((m:Nat):Int))) ?_
     exact f2
    ·intro p ba
     rintro _ _ _ _ _ _ _ rfl _ _ _ _
     refine sw<|ar ((16+((m:Nat):Int)) - 2) wN ?_
     exact f2
    ·intro p az
     rintro _ _ _ _ _ _ rfl _ rfl _ rfl _ _ _
     refine sw ?_
     have a0:=(gc q az)
     refine ix wN ((16+((m:Nat):Int)) - 2) uQ (Rd.of_own a0) ?_
     exact f2
    ·intro p a1
     rintro _ _ _ _ _ _ rfl _ rfl _ rfl _ rfl _ _
     refine sw ?_
     have a2:=(gc q a1)
     refine GW (iV e) wN rfl rfl rfl rfl tE (Rd.of_own a2) (by rw [← N];exact Px (by simp) (by first|omega|(simp <;> omega))) ?_
     exact f2
    ·intro p bb
     rintro _ rfl _ rfl _ rfl _ rfl _ rfl _ _ _ _ _ _
     refine sw<|aw (vi d) ?_
     exact f2
   ·intro p s
    iterate 11 rintro _ rfl
    refine sw<|aw (vi e) ?_
    refine nx<|mw (vi d) ?_
    refine cl wN (Ml p d 7 (by omega) (by omega)) ?_
    rintro _ a3 ⟨t,rfl⟩
    have a4:=(Y.extk s).extk t
    have bc:=GM d 7
    refine mw (vi d) ?_
    refine cl wN (Ml a3 d 18 (by omega) (by omega)) ?_
    rintro _ a5 ⟨w,rfl⟩
    have bd:=GM d 18
    refine HJ (rot d 7) (rot d 18) wN rfl rfl (by kernel_rfl) (by omega) (by omega) (by omega) (by omega) ?_
    have be:=GD (a:=(rot d 7)) (b:=(rot d 18)) (by omega) (by omega)
    refine mw (vi d) ?_
    refine KV d (3:Int) wN rfl rfl rfl rfl rfl (by omega) (by omega) ?_
    have bg:=Ns (a:=d) (by omega) ((3:Int)).toNat
    refine HJ (FA (rot d 7) (rot d 18)) (d / (2:Int) ^ ((3:Int)).toNat) wN rfl rfl (by kernel_rfl) (by omega) (by omega) (by omega) (by omega) ?_
    have bh:=GD (a:=(FA (rot d 7) (rot d 18))) (b:=(d / (2:Int) ^ ((3:Int)).toNat)) (by omega) (by omega)
    refine aw (vi (FA (FA (rot d 7) (rot d 18)) (d / (2:Int) ^ ((3:Int)).toNat))) ?_
    refine nx<|mw (vi e) ?_
    refine cl wN (Ml a5 e 17 (by omega) (by omega)) ?_
    rintro _ a6 ⟨x,rfl⟩
    have bi:=GM e 17
    refine mw (vi e) ?_
    refine cl wN (Ml a6 e 19 (by omega) (by omega)) ?_
    rintro _ bj ⟨y,rfl⟩
    have a7:=((a4.extk w).extk x).extk y
    have bk:=GM e 19
    refine HJ (rot e 17) (rot e 19) wN rfl rfl (by kernel_rfl) (by omega) (by omega) (by omega) (by omega) ?_
    have bl:=GD (a:=(rot e 17)) (b:=(rot e 19)) (by omega) (by omega)
    refine mw (vi e) ?_
    refine KV e (10:Int) wN rfl rfl rfl rfl rfl (by omega) (by omega) ?_
    have bm:=Ns (a:=e) (by omega) ((10:Int)).toNat
    refine HJ (FA (rot e 17) (rot e 19)) (e / (2:Int) ^ ((10:Int)).toNat) wN rfl rfl (by kernel_rfl) (by omega) (by omega) (by omega) (by omega) ?_
    have bn:=GD (a:=(FA (rot e 17) (rot e 19))) (b:=(e / (2:Int) ^ ((10:Int)).toNat)) (by omega) (by omega)
    refine aw (vi (FA (FA (rot e 17) (rot e 19)) (e / (2:Int) ^ ((10:Int)).toNat))) ?_
    refine n2<|IM ([(59,[],[],(fun _ v _=>v=(vs g (List.replicate 64 (0:Int)).length h))),(60,[],[],(fun _ v _=>v=(vi (16+((m:Nat):Int))))),(61,[],[],(fun _ v _=>v=(vs g (List.replicate 64 (0:Int)).length h))),(62,[],[],(fun _ v _=>v=(vi (16+((m:Nat):Int))))),(63,[],[3],(fun _ v _=>v=(vi ((16+((m:Nat):Int)) - 7)))),(64,[],[2,3,4],(fun _ v _=>v=(ve (vs g (List.replicate 64 (0:Int)).length h) ((((16+((m:Nat):Int)) - 7)).toNat*1)))),(65,[],[2,3,4,5],(fun _ v _=>v=(vi l))),(66,[],[],(fun _ v _=>v=(vs g (List.replicate 64 (0:Int)).length h))),(67,[],[],(fun _ v _=>v=(vi (16+((m:Nat):Int))))),(68,[],[8],(fun _ v _=>v=(vi ((16+((m:Nat):Int)) - 16)))),(69,[],[7,8,9],(fun _ v _=>v=(ve (vs g (List.replicate 64 (0:Int)).length h) ((((16+((m:Nat):Int)) - 16)).toNat*1)))),(70,[],[7,8,9,10],(fun _ v _=>v=(vi o))),(71,[],[2,3,4,5,6,7,8,9,10,11],(fun _ v _=>v=(vi (l+o)))),(72,[],[],(fun _ v _=>v=(vi (FA (FA (rot d 7) (rot d 18)) (d / (2:Int) ^ ((3:Int)).toNat))))),(73,[],[2,3,4,5,6,7,8,9,10,11,12,13],(fun _ v _=>v=(vi ((l+o)+(FA (FA (rot d 7) (rot d 18)) (d / (2:Int) ^ ((3:Int)).toNat)))))),(74,[],[],(fun _ v _=>v=(vi (FA (FA (rot e 17) (rot e 19)) (e / (2:Int) ^ ((10:Int)).toNat))))),(75,[],[2,3,4,5,6,7,8,9,10,11,12,13,14,15],(fun _ v _=>v=(vi (((l+o)+(FA (FA (rot d 7) (rot d 18)) (d / (2:Int) ^ ((3:Int)).toNat)))+(FA (FA (rot e 17) (rot e 19)) (e / (2:Int) ^ ((10:Int)).toNat)))))),(76,[],[2,3,4,5,6,7,8,9,10,11,12,13,14,15,16],(fun _ v _=>v=(vi ((((l+o)+(FA (FA (rot d 7) (rot d 18)) (d / (2:Int) ^ ((3:Int)).toNat)))+(FA (FA (rot e 17) (rot e 19)) (e / (2:Int) ^ ((10:Int)).toNat))) % 4294967296))))]:GV) GU rfl (by kernel_rfl) (by kernel_rfl) ?_ ?_ ?_
    ·exact ⟨hV,hE,⟨hV,hE,⟨hV,hE,⟨hV,hE,⟨hV,hE,⟨hV,hE,⟨hV,hE,⟨hV,hE,⟨hV,hE,⟨hV,hE,⟨hV,hE,⟨hV,hE,⟨hV,hE,⟨hV,hE,⟨hV,hE,⟨hV,hE,⟨hV,hE,⟨hV,hE,trivial⟩⟩⟩⟩⟩⟩⟩⟩⟩⟩⟩⟩⟩⟩⟩⟩⟩⟩
    ·refine ⟨?_,⟨?_,⟨?_,⟨?_,⟨?_,⟨?_,⟨?_,⟨?_,⟨?_,⟨?_,⟨?_,⟨?_,⟨?_,⟨?_,⟨?_,⟨?_,⟨?_,⟨?_,trivial⟩⟩⟩⟩⟩⟩⟩⟩⟩⟩⟩⟩⟩⟩⟩⟩⟩⟩
     ·intro j bo
      iterate 18 intro _
      refine sw<|mw (vs g (List.replicate 64 (0:Int)).length h) ?_
      exact f2
     ·intro j bp
      iterate 18 intro _
      refine sw<|mw (vi (16+((m:Nat):Int))) ?_
      exact f2
     ·intro j bq
      iterate 18 intro _
      refine sw<|mw (vs g (List.replicate 64 (0:Int)).length h) ?_
      exact f2
     ·intro j br
      iterate 18 intro _
      refine sw<|mw (vi (16+((m:Nat):Int))) ?_
      exact f2
     ·intro j bu
      rintro _ _ _ _ rfl;iterate 14 intro _
      refine sw<|ar ((16+((m:Nat):Int)) - 7) wN ?_
      exact f2
     ·intro j a8
      rintro _ _ _ rfl _ rfl _ rfl;iterate 13 intro _
      refine sw ?_
      have a9:=(gc (gc (gc (gc (gc (gc q s) t) w) x) y) a8)
      refine ix wN ((16+((m:Nat):Int)) - 7) uQ (Rd.of_own a9) ?_
      exact f2
     ·intro j aA
      rintro _ _ _ rfl _ rfl _ rfl _ rfl _ _ _ _ _ _ _ _ _ _ _ _
      refine sw ?_
      have aB:=(gc (gc (gc (gc (gc (gc q s) t) w) x) y) aA)
      refine GW (iV l) wN rfl rfl rfl rfl tE (Rd.of_own aB) (by rw [← K];exact Px (by simp) (by first|omega|(simp <;> omega))) ?_
      exact f2
     ·intro j bv
      iterate 18 intro _
      refine sw<|mw (vs g (List.replicate 64 (0:Int)).length h) ?_
      exact f2
     ·intro j bw
      iterate 18 intro _
      refine sw<|mw (vi (16+((m:Nat):Int))) ?_
      exact f2
     ·intro j bz
      rintro _ _ _ _ _ _ _ _ _ rfl _ _ _ _ _ _ _ _ _
      refine sw<|ar ((16+((m:Nat):Int)) - 16) wN ?_
      exact f2
     ·intro j aC
      rintro _ _ _ _ _ _ _ _ rfl _ rfl _ rfl _ _ _ _ _ _ _ _
      refine sw ?_
      have aD:=(gc (gc (gc (gc (gc (gc q s) t) w) x) y) aC)
      refine ix wN ((16+((m:Nat):Int)) - 16) uQ (Rd.of_own aD) ?_
      exact f2
     ·intro j aE
      rintro _ _ _ _ _ _ _ _ rfl _ rfl _ rfl _ rfl _ _ _ _ _ _ _
      refine sw ?_
      have aF:=(gc (gc (gc (gc (gc (gc q s) t) w) x) y) aE)
      refine GW (iV o) wN rfl rfl rfl rfl tE (Rd.of_own aF) (by rw [← L];exact Px (by simp) (by first|omega|(simp <;> omega))) ?_
      exact f2
     ·intro j b0
      rintro _ _
      iterate 10 rintro _ rfl
      intro _ _ _ _ _ _
      refine sw<|ar (l+o) wN ?_
      exact f2
     ·intro j b1
      iterate 18 intro _
      refine sw<|mw (vi (FA (FA (rot d 7) (rot d 18)) (d / (2:Int) ^ ((3:Int)).toNat))) ?_
      exact f2
     ·intro j b2
      rintro _ _
      iterate 12 rintro _ rfl
      intro _ _ _ _
      refine sw<|ar ((l+o)+(FA (FA (rot d 7) (rot d 18)) (d / (2:Int) ^ ((3:Int)).toNat))) wN ?_
      exact f2
     ·intro j b3
      iterate 18 intro _
      refine sw<|mw (vi (FA (FA (rot e 17) (rot e 19)) (e / (2:Int) ^ ((10:Int)).toNat))) ?_
      exact f2
     ·intro j b4
      rintro _ _
      iterate 14 rintro _ rfl
      intro _ _
      refine sw<|ar (((l+o)+(FA (FA (rot d 7) (rot d 18)) (d / (2:Int) ^ ((3:Int)).toNat)))+(FA (FA (rot e 17) (rot e 19)) (e / (2:Int) ^ ((10:Int)).toNat))) wN ?_
      exact f2
     ·intro j b5
      rintro _ _
      iterate 15 rintro _ rfl
      intro _
      refine sw<|Im (((l+o)+(FA (FA (rot d 7) (rot d 18)) (d / (2:Int) ^ ((3:Int)).toNat)))+(FA (FA (rot e 17) (rot e 19)) (e / (2:Int) ^ ((10:Int)).toNat))) 4294967295 4294967296 32 wN rfl rfl (by decide) (by decide) (by decide) (by kernel_rfl) ?_
      exact f2
    ·intro j O
     iterate 18 rintro _ rfl
     refine sw ?_
     have aa:=(gc (gc (gc (gc (gc (gc q s) t) w) x) y) O)
     refine ix wN (16+((m:Nat):Int)) uQ (Rd.of_own aa) ?_
     refine Il (schedN f m++List.replicate (48 - m) (0:Int)) (((16+((m:Nat):Int))).toNat) (((((l+o)+(FA (FA (rot d 7) (rot d 18)) (d / (2:Int) ^ ((3:Int)).toNat)))+(FA (FA (rot e 17) (rot e 19)) (e / (2:Int) ^ ((10:Int)).toNat))) % 4294967296)) wN rfl rfl rfl (by simp) rfl GI aa (by first|omega|(simp only [List.length_append,List.length_replicate,List.length_take,List.length_set,List.length_map];omega)) ?_
     intro b6 ab aG
     have aH:=(a7.extk O).ext ab (fun k hk=>nT (Nat.le_refl i.heap.size) (uI D k hk).1)
     refine uD<|uB<|rg<|uG ?_
     refine mw (vi (16+((m:Nat):Int))) ?_
     refine ar ((16+((m:Nat):Int))+1) wN ?_
     refine aw (vi ((16+((m:Nat):Int))+1)) ?_
     refine uD ?_
     have aI:(((schedN f m++List.replicate (48 - m) (0:Int)).set (((16+((m:Nat):Int))).toNat) ((((l+o)+(FA (FA (rot d 7) (rot d 18)) (d / (2:Int) ^ ((3:Int)).toNat)))+(FA (FA (rot e 17) (rot e 19)) (e / (2:Int) ^ ((10:Int)).toNat))) % 4294967296)):List Int)=schedN f (m+1)++List.replicate (48 - (m+1)) (0:Int):=by subst K L M N;exact Ob (by omega)
     refine FX (w0:=T) [(2,(vs none 0 0)),(3,(vs g (List.replicate 64 (0:Int)).length h)),(5,(vi (16+(((m+1):Nat):Int))))] ?_ ?_ ?_
     · exact ⟨rfl,rfl,(cA (Value.int .i64) (show (((16+((m:Nat):Int))+1):Int)=(16+(((m+1):Nat):Int)) by omega)),trivial⟩
     · exact fun u=>⟨(m+1),u,rfl,aH,(((((((((Ch.refl (fun k=>i.heap.size≤k) E).ext ap (fun k hk=>hk)).extk s).extk t).extk w).extk x).extk y).extk O).ext ab (fun k hk=>nT (Nat.le_refl i.heap.size) (uI D k hk).1)),(by omega),(by rw [← aI];exact aG)⟩
     · show (64 - (16+(((m+1):Nat):Int))).toNat < (64 - (16+((m:Nat):Int))).toNat;omega

theorem RD:∀ w,(zeroValue 152).run Tryz.prog w=.ok (va [(vi 0),(vi 0),(vi 0),(vi 0),(vi 0),(vi 0),(vi 0),(vi 0),(vi 0),(vi 0),(vi 0),(vi 0),(vi 0),(vi 0),(vi 0),(vi 0),(vi 0),(vi 0),(vi 0),(vi 0),(vi 0),(vi 0),(vi 0),(vi 0),(vi 0),(vi 0),(vi 0),(vi 0),(vi 0),(vi 0),(vi 0),(vi 0),(vi 0),(vi 0),(vi 0),(vi 0),(vi 0),(vi 0),(vi 0),(vi 0),(vi 0),(vi 0),(vi 0),(vi 0),(vi 0),(vi 0),(vi 0),(vi 0),(vi 0),(vi 0),(vi 0),(vi 0),(vi 0),(vi 0),(vi 0),(vi 0),(vi 0),(vi 0),(vi 0),(vi 0),(vi 0),(vi 0),(vi 0),(vi 0)]) w:=fun w=>by kernel_rfl
theorem Pr:∀ w,(sizeOf 152).run Tryz.prog w=.ok 64 w:=fun w=>by kernel_rfl
theorem Oy (e:World) (a:Int) :Fn Tryz.prog 162 #[(vi a)] e (fun v f=>Keep e f∧O_3 f e.heap.size v (KU a)):=by
 refine FI (n:=14) [(vi a)] Tryz.func162 rfl rfl ?_
 refine sr<|aw (vi 0) ?_
 refine n4<|jT1 [(0,(vi a)),(2,(vi 0))] (KU a=0) ?_ fun g=>?_
 ·intro h i j A
  have l:=(Ch.base e).extk j
  refine sr<|aw (vi 0) ?_
  refine n1<|rt (vi 0) ?_
  refine ⟨l.keep0,?_⟩
  rw [h]
  exact rfl
 refine mw (vi a) ?_
 refine pu (vb (decide (a < 0))) wN ?_
 refine mw (vb (decide (a < 0))) ?_
 rcases bt (decide (a < 0)) with b|b
 ·have B:=dT b
  iterate 2 refine sk b ?_
  refine pk (vb true) wN b ?_
  refine n2<|ct T1 ?_
  have m:KU a=0:=by simp only [KU,b,cond_true,cond_false];try rfl
  exact wj (g m _ (Ch.refl _ _))
 have C:=dF b
 refine mv (vi a) (wS b) ?_
 refine pu (vb (decide (63 < a))) (wS b) ?_
 refine pf (vb (decide (63 < a))) wN b ?_
 refine n2 ?_
 rcases bt (decide (63 < a)) with d|d
 ·have D:=dT d
  refine ct d ?_
  have o:KU a=0:=by simp only [KU,b,d,cond_true,cond_false];try rfl
  exact wj (g o _ (Ch.refl _ _))
 have E:=dF d
 refine cf d<|y1<|pu (va [(vi 1116352408),(vi 1899447441),(vi 3049323471),(vi 3921009573),(vi 961987163),(vi 1508970993),(vi 2453635748),(vi 2870763221),(vi 3624381080),(vi 310598401),(vi 607225278),(vi 1426881987),(vi 1925078388),(vi 2162078206),(vi 2614888103),(vi 3248222580),(vi 3835390401),(vi 4022224774),(vi 264347078),(vi 604807628),(vi 770255983),(vi 1249150122),(vi 1555081692),(vi 1996064986),(vi 2554220882),(vi 2821834349),(vi 2952996808),(vi 3210313671),(vi 3336571891),(vi 3584528711),(vi 113926993),(vi 338241895),(vi 666307205),(vi 773529912),(vi 1294757372),(vi 1396182291),(vi 1695183700),(vi 1986661051),(vi 2177026350),(vi 2456956037),(vi 2730485921),(vi 2820302411),(vi 3259730800),(vi 3345764771),(vi 3516065817),(vi 3600352804),(vi 4094571909),(vi 275423344),(vi 430227734),(vi 506948616),(vi 659060556),(vi 883997877),(vi 958139571),(vi 1322822218),(vi 1537002063),(vi 1747873779),(vi 1955562222),(vi 2024104815),(vi 2227730452),(vi 2361852424),(vi 2428436474),(vi 2756734187),(vi 3204031479),(vi 3329325298)]) wN ?_
 refine al [(vi 0),(vi 0),(vi 0),(vi 0),(vi 0),(vi 0),(vi 0),(vi 0),(vi 0),(vi 0),(vi 0),(vi 0),(vi 0),(vi 0),(vi 0),(vi 0),(vi 0),(vi 0),(vi 0),(vi 0),(vi 0),(vi 0),(vi 0),(vi 0),(vi 0),(vi 0),(vi 0),(vi 0),(vi 0),(vi 0),(vi 0),(vi 0),(vi 0),(vi 0),(vi 0),(vi 0),(vi 0),(vi 0),(vi 0),(vi 0),(vi 0),(vi 0),(vi 0),(vi 0),(vi 0),(vi 0),(vi 0),(vi 0),(vi 0),(vi 0),(vi 0),(vi 0),(vi 0),(vi 0),(vi 0),(vi 0),(vi 0),(vi 0),(vi 0),(vi 0),(vi 0),(vi 0),(vi 0),(vi 0)] wN RD ?_
 intro p i q F r s
 refine sv [(vi 1116352408),(vi 1899447441),(vi 3049323471),(vi 3921009573),(vi 961987163),(vi 1508970993),(vi 2453635748),(vi 2870763221),(vi 3624381080),(vi 310598401),(vi 607225278),(vi 1426881987),(vi 1925078388),(vi 2162078206),(vi 2614888103),(vi 3248222580),(vi 3835390401),(vi 4022224774),(vi 264347078),(vi 604807628),(vi 770255983),(vi 1249150122),(vi 1555081692),(vi 1996064986),(vi 2554220882),(vi 2821834349),(vi 2952996808),(vi 3210313671),(vi 3336571891),(vi 3584528711),(vi 113926993),(vi 338241895),(vi 666307205),(vi 773529912),(vi 1294757372),(vi 1396182291),(vi 1695183700),(vi 1986661051),(vi 2177026350),(vi 2456956037),(vi 2730485921),(vi 2820302411),(vi 3259730800),(vi 3345764771),(vi 3516065817),(vi 3600352804),(vi 4094571909),(vi 275423344),(vi 430227734),(vi 506948616),(vi 659060556),(vi 883997877),(vi 958139571),(vi 1322822218),(vi 1537002063),(vi 1747873779),(vi 1955562222),(vi 2024104815),(vi 2227730452),(vi 2361852424),(vi 2428436474),(vi 2756734187),(vi 3204031479),(vi 3329325298)] wN Pr s ?_
 intro t u w G
 have x:=((Ch.base e).extk r).ext u (fun k hk=>by subst hk;exact q)
 refine nx<|mw (vi a) ?_
 refine Qa a wN rfl rfl rfl Tryz.underlying152 GI rfl rfl (by omega) (by omega) ?_
 refine ld (iV (([1116352408,1899447441,3049323471,3921009573,961987163,1508970993,2453635748,2870763221,3624381080,310598401,607225278,1426881987,1925078388,2162078206,2614888103,3248222580,3835390401,4022224774,264347078,604807628,770255983,1249150122,1555081692,1996064986,2554220882,2821834349,2952996808,3210313671,3336571891,3584528711,113926993,338241895,666307205,773529912,1294757372,1396182291,1695183700,1986661051,2177026350,2456956037,2730485921,2820302411,3259730800,3345764771,3516065817,3600352804,4094571909,275423344,430227734,506948616,659060556,883997877,958139571,1322822218,1537002063,1747873779,1955562222,2024104815,2227730452,2361852424,2428436474,2756734187,3204031479,3329325298]:List Int).getD (a).toNat 0)) wN tE (show Blk t p 152 (([1116352408,1899447441,3049323471,3921009573,961987163,1508970993,2453635748,2870763221,3624381080,310598401,607225278,1426881987,1925078388,2162078206,2614888103,3248222580,3835390401,4022224774,264347078,604807628,770255983,1249150122,1555081692,1996064986,2554220882,2821834349,2952996808,3210313671,3336571891,3584528711,113926993,338241895,666307205,773529912,1294757372,1396182291,1695183700,1986661051,2177026350,2456956037,2730485921,2820302411,3259730800,3345764771,3516065817,3600352804,4094571909,275423344,430227734,506948616,659060556,883997877,958139571,1322822218,1537002063,1747873779,1955562222,2024104815,2227730452,2361852424,2428436474,2756734187,3204031479,3329325298]:List Int).map iV) from w) ?_ rfl rfl rfl rfl (Px rfl (by show (a).toNat < 64;omega))
 refine aw (vi (([1116352408,1899447441,3049323471,3921009573,961987163,1508970993,2453635748,2870763221,3624381080,310598401,607225278,1426881987,1925078388,2162078206,2614888103,3248222580,3835390401,4022224774,264347078,604807628,770255983,1249150122,1555081692,1996064986,2554220882,2821834349,2952996808,3210313671,3336571891,3584528711,113926993,338241895,666307205,773529912,1294757372,1396182291,1695183700,1986661051,2177026350,2456956037,2730485921,2820302411,3259730800,3345764771,3516065817,3600352804,4094571909,275423344,430227734,506948616,659060556,883997877,958139571,1322822218,1537002063,1747873779,1955562222,2024104815,2227730452,2361852424,2428436474,2756734187,3204031479,3329325298]:List Int).getD (a).toNat 0)) ?_
 refine n3<|rt (vi (([1116352408,1899447441,3049323471,3921009573,961987163,1508970993,2453635748,2870763221,3624381080,310598401,607225278,1426881987,1925078388,2162078206,2614888103,3248222580,3835390401,4022224774,264347078,604807628,770255983,1249150122,1555081692,1996064986,2554220882,2821834349,2952996808,3210313671,3336571891,3584528711,113926993,338241895,666307205,773529912,1294757372,1396182291,1695183700,1986661051,2177026350,2456956037,2730485921,2820302411,3259730800,3345764771,3516065817,3600352804,4094571909,275423344,430227734,506948616,659060556,883997877,958139571,1322822218,1537002063,1747873779,1955562222,2024104815,2227730452,2361852424,2428436474,2756734187,3204031479,3329325298]:List Int).getD (a).toNat 0)) ?_
 refine ⟨x.keep0,?_⟩
 have y:KU a=(([1116352408,1899447441,3049323471,3921009573,961987163,1508970993,2453635748,2870763221,3624381080,310598401,607225278,1426881987,1925078388,2162078206,2614888103,3248222580,3835390401,4022224774,264347078,604807628,770255983,1249150122,1555081692,1996064986,2554220882,2821834349,2952996808,3210313671,3336571891,3584528711,113926993,338241895,666307205,773529912,1294757372,1396182291,1695183700,1986661051,2177026350,2456956037,2730485921,2820302411,3259730800,3345764771,3516065817,3600352804,4094571909,275423344,430227734,506948616,659060556,883997877,958139571,1322822218,1537002063,1747873779,1955562222,2024104815,2227730452,2361852424,2428436474,2756734187,3204031479,3329325298]:List Int).getD (a).toNat 0):=by simp only [KU,b,d,cond_true,cond_false];try rfl
 rw [y]
 exact rfl

def JW (a:Int) (b:Int):(Int):=((a+b) % 4294967296)
theorem Oz (d:World) (a:Int) (b:Int) (g:0≤a) (h:a≤1099511627776) (i:0≤b) (j:b≤1099511627776):Fn Tryz.prog 163 #[(vi a),(vi b)] d (fun v e=>Keep d e∧O_3 e d.heap.size v (JW a b)):=by
 refine FI (n:=9) [(vi a),(vi b)] Tryz.func163 rfl rfl ?_
 refine sr<|aw (vi 0) ?_
 refine nx<|mw (vi a) ?_
 refine mw (vi b) ?_
 refine ar (a+b) wN ?_
 refine Im (a+b) 4294967295 4294967296 32 wN rfl rfl (by decide) (by decide) (by decide) (by kernel_rfl) ?_
 refine aw (vi ((a+b) % 4294967296)) ?_
 refine n3<|rt (vi ((a+b) % 4294967296)) ?_
 refine ⟨Ch.refl _ _,?_⟩
 have f:JW a b=((a+b) % 4294967296):=by rfl
 rw [f]
 exact rfl

theorem PK (G:World) (av:Value) (i:List Int) (aK:RC G av i) (ax:Value) (p:List UInt8) (aL:HP G ax p) :Fn Tryz.prog 150 #[av,ax] G (fun v K=>Keep G K∧TQ K G.heap.size v (GP i p)):=by
 obtain ⟨B,C,rfl,F,af⟩:=aK
 obtain ⟨X,Y,rfl,ay,aM⟩:=aL
 refine FI (n:=151) [(vs B i.length C),(vs X p.length Y)] Tryz.func150 rfl rfl ?_
 refine sr<|aw (vs none 0 0) ?_
 refine nx<|Gc wN rfl rfl uQ (fun w=>by kernel_rfl) ?_
 intro bT bU az aN
 have a0:=(Ch.base G).extk az
 refine mw (vs B i.length C) ?_
 refine TJ i wN uQ aN (F.from0 a0) az.size ?_
 intro I J a1 aO Q bW
 have ah:=a0.extk aO
 refine aw (vs I i.length J) ?_
 refine n4<|jT1 [(0,(vs B i.length C)),(1,(vs X p.length Y)),(4,(vs none 0 0)),(5,(vs I i.length J))] (GP i p=i) ?_ fun a2=>?_
 ·intro aP a3 a4 bX
  have aQ:=ah.extk a4
  refine sr<|mw (vs I i.length J) ?_
  refine aw (vs I i.length J) ?_
  refine n1 ?_
  have aR:=(gc Q a4)
  refine rt (vs I i.length J) ?_
  refine ⟨aQ.keep0,?_⟩
  rw [aP]
  exact ⟨_,_,rfl,aR,af,⟨trivial,trivial⟩⟩
 refine mw (vs B i.length C) ?_
 refine cl wN (Lh a1 _ i (Lq (F.from0 ah) af) 8) ?_
 rintro _ a3 ⟨R,rfl⟩
 have ai:=ah.extk R
 refine pu (vb (!(Js i 8))) wN ?_
 refine mw (vb (!(Js i 8))) ?_
 rcases bf (Js i 8) with L|L
 ·iterate 3 refine sk (cA not L) ?_
  refine pk (vb true) wN (cA not L) ?_
  refine n2<|ct T1 ?_
  have aS:GP i p=i:=by first|exact Jb (by first|assumption|exact ‹ws8 i=false›)|exact Ja (by omega)|exact IZ (by first|assumption|exact ‹ws8 i=true›) (by omega) (by omega)
  exact wj (a2 aS _ R)
 have bY:=IT L
 refine mv (vs X p.length Y) (wS (cA not L)) ?_
 refine ln (wS (cA not L)) tD (ay.from0 ai) ?_
 refine pu (vb (!(decide ((p.length:Int)=64)))) (wS (cA not L)) ?_
 refine pf (vb (!(decide ((p.length:Int)=64)))) wN (cA not L) ?_
 refine n2 ?_
 rcases bf (decide ((p.length:Int)=64)) with S|S
 ·have bZ:=dF S
  refine ct (cA not S) ?_
  have aT:GP i p=i:=by first|exact Jb (by first|assumption|exact ‹ws8 i=false›)|exact Ja (by omega)|exact IZ (by first|assumption|exact ‹ws8 i=true›) (by omega) (by omega)
  exact wj (a2 aT _ R)
 have ca:=dT S
 refine cf (cA not S)<|y1<|mw (vs X p.length Y) ?_
 refine cl wN (PJ a3 _ p (FV (ay.from0 ai) aM)) ?_
 rintro _ a5 ⟨Z,⟨O,P,rfl,aa,_⟩⟩
 have H:=ai.extk Z
 have cb:=Ms p
 refine aw (vs O (schedP p).length P) ?_
 refine uD<|rg<|uK<|IM ([(36,[],[],(fun _ v _=>v=(vs B i.length C))),(37,[],[0],(fun _ v _=>v=(ve (vs B i.length C) ((0:Int).toNat*1)))),(38,[],[0,1],(fun _ v _=>v=(vi (i.getD 0 0)))),(39,[],[],(fun _ v _=>v=(vs B i.length C))),(40,[],[3],(fun _ v _=>v=(ve (vs B i.length C) ((1:Int).toNat*1)))),(41,[],[3,4],(fun _ v _=>v=(vi (i.getD 1 0)))),(42,[],[],(fun _ v _=>v=(vs B i.length C))),(43,[],[6],(fun _ v _=>v=(ve (vs B i.length C) ((2:Int).toNat*1)))),(44,[],[6,7],(fun _ v _=>v=(vi (i.getD 2 0)))),(45,[],[],(fun _ v _=>v=(vs B i.length C))),(46,[],[9],(fun _ v _=>v=(ve (vs B i.length C) ((3:Int).toNat*1)))),(47,[],[9,10],(fun _ v _=>v=(vi (i.getD 3 0)))),(48,[],[],(fun _ v _=>v=(vs B i.length C))),(49,[],[12],(fun _ v _=>v=(ve (vs B i.length C) ((4:Int).toNat*1)))),(50,[],[12,13],(fun _ v _=>v=(vi (i.getD 4 0)))),(51,[],[],(fun _ v _=>v=(vs B i.length C))),(52,[],[15],(fun _ v _=>v=(ve (vs B i.length C) ((5:Int).toNat*1)))),(53,[],[15,16],(fun _ v _=>v=(vi (i.getD 5 0)))),(54,[],[],(fun _ v _=>v=(vs B i.length C))),(55,[],[18],(fun _ v _=>v=(ve (vs B i.length C) ((6:Int).toNat*1)))),(56,[],[18,19],(fun _ v _=>v=(vi (i.getD 6 0)))),(57,[],[],(fun _ v _=>v=(vs B i.length C))),(58,[],[21],(fun _ v _=>v=(ve (vs B i.length C) ((7:Int).toNat*1)))),(59,[],[21,22],(fun _ v _=>v=(vi (i.getD 7 0)))),(7,[],[0,1,2],(fun _ v _=>v=(vi (i.getD 0 0)))),(8,[],[0,1,2,3,4,5,24],(fun _ v _=>v=(vi (i.getD 1 0)))),(9,[],[0,1,2,3,4,5,6,7,8,24,25],(fun _ v _=>v=(vi (i.getD 2 0)))),(10,[],[0,1,2,3,4,5,6,7,8,9,10,11,24,25,26],(fun _ v _=>v=(vi (i.getD 3 0)))),(11,[],[0,1,2,3,4,5,6,7,8,9,10,11,12,13,14,24,25,26,27],(fun _ v _=>v=(vi (i.getD 4 0)))),(12,[],[0,1,2,3,4,5,6,7,8,9,10,11,12,13,14,15,16,17,24,25,26,27,28],(fun _ v _=>v=(vi (i.getD 5 0)))),(13,[],[0,1,2,3,4,5,6,7,8,9,10,11,12,13,14,15,16,17,18,19,20,24,25,26,27,28,29],(fun _ v _=>v=(vi (i.getD 6 0))))]:GV) GU rfl (by kernel_rfl) (by kernel_rfl) ?_ ?_ ?_
 ·exact ⟨hV,hE,⟨hV,hE,⟨hV,hE,⟨hV,hE,⟨hV,hE,⟨hV,hE,⟨hV,hE,⟨hV,hE,⟨hV,hE,⟨hV,hE,⟨hV,hE,⟨hV,hE,⟨hV,hE,⟨hV,hE,⟨hV,hE,⟨hV,hE,⟨hV,hE,⟨hV,hE,⟨hV,hE,⟨hV,hE,⟨hV,hE,⟨hV,hE,⟨hV,hE,⟨hV,hE,⟨hV,hE,⟨hV,hE,⟨hV,hE,⟨hV,hE,⟨hV,hE,⟨hV,hE,⟨hV,hE,trivial⟩⟩⟩⟩⟩⟩⟩⟩⟩⟩⟩⟩⟩⟩⟩⟩⟩⟩⟩⟩⟩⟩⟩⟩⟩⟩⟩⟩⟩⟩⟩
 ·refine ⟨?_,⟨?_,⟨?_,⟨?_,⟨?_,⟨?_,⟨?_,⟨?_,⟨?_,⟨?_,⟨?_,⟨?_,⟨?_,⟨?_,⟨?_,⟨?_,⟨?_,⟨?_,⟨?_,⟨?_,⟨?_,⟨?_,⟨?_,⟨?_,⟨?_,⟨?_,⟨?_,⟨?_,⟨?_,⟨?_,⟨?_,trivial⟩⟩⟩⟩⟩⟩⟩⟩⟩⟩⟩⟩⟩⟩⟩⟩⟩⟩⟩⟩⟩⟩⟩⟩⟩⟩⟩⟩⟩⟩⟩
  ·intro A cc
   iterate 31 intro _
   refine sw<|mw (vs B i.length C) ?_
   exact f2
  ·intro A aU
   have aV:=H.extk aU
   rintro _ rfl;iterate 30 intro _
   refine sw<|ix wN 0 uQ (F.from0 aV) ?_
   exact f2
  ·intro A aW
   have aX:=H.extk aW
   rintro _ rfl _ rfl;iterate 29 intro _
   refine sw<|ei (x:=i) 0 wN tE (F.from0 aX) ?_
   exact f2
  ·intro A cd
   iterate 31 intro _
   refine sw<|mw (vs B i.length C) ?_
   exact f2
  ·intro A aY
   have aZ:=H.extk aY
   rintro _ _ _ _ rfl;iterate 27 intro _
   refine sw<|ix wN 1 uQ (F.from0 aZ) ?_
   exact f2
  ·intro A ba
   have bb:=H.extk ba
   rintro _ _ _ _ rfl _ rfl;iterate 26 intro _
   refine sw<|ei (x:=i) 1 wN tE (F.from0 bb) ?_
   exact f2
  ·intro A ce
   iterate 31 intro _
   refine sw<|mw (vs B i.length C) ?_
   exact f2
  ·intro A bc
   have bd:=H.extk bc
   rintro _ _ _ _ _ _ _ rfl;iterate 24 intro _
   refine sw<|ix wN 2 uQ (F.from0 bd) ?_
   exact f2
  ·intro A be
   have bg:=H.extk be
   rintro _ _ _ _ _ _ _ rfl _ rfl;iterate 23 intro _
   refine sw<|ei (x:=i) 2 wN tE (F.from0 bg) ?_
   exact f2
  ·intro A cg
   iterate 31 intro _
   refine sw<|mw (vs B i.length C) ?_
   exact f2
  ·intro A bh
   have bi:=H.extk bh
   rintro _ _ _ _ _ _ _ _ _ _ rfl;iterate 21 intro _
   refine sw<|ix wN 3 uQ (F.from0 bi) ?_
   exact f2
  ·intro A bj
   have bk:=H.extk bj
   rintro _ _ _ _ _ _ _ _ _ _ rfl _ rfl;iterate 20 intro _
   refine sw<|ei (x:=i) 3 wN tE (F.from0 bk) ?_
   exact f2
  ·intro A ci
   iterate 31 intro _
   refine sw<|mw (vs B i.length C) ?_
   exact f2
  ·intro A bl
   have bm:=H.extk bl
   (iterate 13 intro _);rintro rfl;iterate 18 intro _
   refine sw<|ix wN 4 uQ (F.from0 bm) ?_
   exact f2
  ·intro A bn
   have bo:=H.extk bn
   (iterate 13 intro _);rintro rfl _ rfl;iterate 17 intro _
   refine sw<|ei (x:=i) 4 wN tE (F.from0 bo) ?_
   exact f2
  ·intro A cj
   iterate 31 intro _
   refine sw<|mw (vs B i.length C) ?_
   exact f2
  ·intro A bp
   have bq:=H.extk bp
   (iterate 16 intro _);rintro rfl;iterate 15 intro _
   refine sw<|ix wN 5 uQ (F.from0 bq) ?_
   exact f2
  ·intro A br
   have bu:=H.extk br
   (iterate 16 intro _);rintro rfl _ rfl;iterate 14 intro _
   refine sw<|ei (x:=i) 5 wN tE (F.from0 bu) ?_
   exact f2
  ·intro A ck
   iterate 31 intro _
   refine sw<|mw (vs B i.length C) ?_
   exact f2
  ·intro A bv
   have bw:=H.extk bv
   (iterate 19 intro _);rintro rfl _ _ _ _ _ _ _ _ _ _ _ _
   refine sw<|ix wN 6 uQ (F.from0 bw) ?_
   exact f2
  ·intro A bz
   have b0:=H.extk bz
   (iterate 19 intro _);rintro rfl _ rfl _ _ _ _ _ _ _ _ _ _ _
   refine sw<|ei (x:=i) 6 wN tE (F.from0 b0) ?_
   exact f2
  ·intro A cm
   iterate 31 intro _
   refine sw<|mw (vs B i.length C) ?_
   exact f2
  ·intro A b1
   have b2:=H.extk b1
   (iterate 22 intro _);rintro rfl _ _ _ _ _ _ _ _ _
   refine sw<|ix wN 7 uQ (F.from0 b2) ?_
   exact f2
  ·intro A b3
   have b4:=H.extk b3
   (iterate 22 intro _);rintro rfl _ rfl _ _ _ _ _ _ _ _
   refine sw<|ei (x:=i) 7 wN tE (F.from0 b4) ?_
   exact f2
  ·intro A cn
   rintro _ rfl _ rfl _ rfl;iterate 28 intro _
   refine sw<|aw (vi (i.getD 0 0)) ?_
   exact f2
  ·intro A co
   rintro _ rfl _ rfl _ rfl _ rfl _ rfl _ rfl;(iterate 19 intro _);rintro rfl _ _ _ _ _ _
   refine sw<|aw (vi (i.getD 1 0)) ?_
   exact f2
  ·intro A cp
   rintro _ rfl _ rfl _ rfl _ rfl _ rfl _ rfl _ rfl _ rfl _ rfl;(iterate 16 intro _);rintro rfl _ rfl _ _ _ _ _
   refine sw<|aw (vi (i.getD 2 0)) ?_
   exact f2
  ·intro A cq
   iterate 12 rintro _ rfl
   rintro _ _ _ _ _ _ _ _ _ _ _ _ _ rfl _ rfl _ rfl _ _ _ _
   refine sw<|aw (vi (i.getD 3 0)) ?_
   exact f2
  ·intro A cr
   iterate 15 rintro _ rfl
   rintro _ _ _ _ _ _ _ _ _ _ rfl _ rfl _ rfl _ rfl _ _ _
   refine sw<|aw (vi (i.getD 4 0)) ?_
   exact f2
  ·intro A cs
   iterate 18 rintro _ rfl
   rintro _ _ _ _ _ _ _ rfl _ rfl _ rfl _ rfl _ rfl _ _
   refine sw<|aw (vi (i.getD 5 0)) ?_
   exact f2
  ·intro A cu
   iterate 21 rintro _ rfl
   rintro _ _ _ _ rfl _ rfl _ rfl _ rfl _ rfl _ rfl _
   refine sw<|aw (vi (i.getD 6 0)) ?_
   exact f2
 ·intro A M
  have b5:=H.extk M
  iterate 31 rintro _ rfl
  refine sw<|aw (vi (i.getD 7 0)) ?_
  refine n4<|aw (vi 0) ?_
  refine uD<|rg<|uJ<|Ge [(0,(vs B i.length C)),(4,(vs none 0 0)),(5,(vs I i.length J)),(6,(vs O (schedP p).length P)),(7,(vi ((Gu (schedP p) (GL i) 0).a))),(8,(vi ((Gu (schedP p) (GL i) 0).b))),(9,(vi ((Gu (schedP p) (GL i) 0).c))),(10,(vi ((Gu (schedP p) (GL i) 0).d))),(11,(vi ((Gu (schedP p) (GL i) 0).e))),(12,(vi ((Gu (schedP p) (GL i) 0).f))),(13,(vi ((Gu (schedP p) (GL i) 0).g))),(14,(vi ((Gu (schedP p) (GL i) 0).z))),(15,(vi ((0:Nat):Int)))] ⟨rfl,rfl,rfl,rfl,(cA (Value.int .i64) (show ((i.getD 0 0):Int)=(Gu (schedP p) (GL i) 0).a by rfl)),(cA (Value.int .i64) (show ((i.getD 1 0):Int)=(Gu (schedP p) (GL i) 0).b by rfl)),(cA (Value.int .i64) (show ((i.getD 2 0):Int)=(Gu (schedP p) (GL i) 0).c by rfl)),(cA (Value.int .i64) (show ((i.getD 3 0):Int)=(Gu (schedP p) (GL i) 0).d by rfl)),(cA (Value.int .i64) (show ((i.getD 4 0):Int)=(Gu (schedP p) (GL i) 0).e by rfl)),(cA (Value.int .i64) (show ((i.getD 5 0):Int)=(Gu (schedP p) (GL i) 0).f by rfl)),(cA (Value.int .i64) (show ((i.getD 6 0):Int)=(Gu (schedP p) (GL i) 0).g by rfl)),(cA (Value.int .i64) (show ((i.getD 7 0):Int)=(Gu (schedP p) (GL i) 0).z by rfl)),(cA (Value.int .i64) (show (0:Int)=((0:Nat):Int) by omega)),trivial⟩ (fun e' K=>∃ (k:Nat) (o:Int) (q:Int) (r:Int) (D:Int) (j:Int) (s:Int) (t:Int) (y:Int) (a6:Env),e'=pt a6 [(0,(vs B i.length C)),(4,(vs none 0 0)),(5,(vs I i.length J)),(6,(vs O (schedP p).length P)),(7,(vi o)),(8,(vi q)),(9,(vi r)),(10,(vi D)),(11,(vi j)),(12,(vi s)),(13,(vi t)),(14,(vi y)),(15,(vi ((k:Nat):Int)))]∧Ch (fun k=>G.heap.size≤k) G K∧Ch (fun k=>A.heap.size≤k) A K∧k≤64∧o=(Gu (schedP p) (GL i) k).a∧q=(Gu (schedP p) (GL i) k).b∧r=(Gu (schedP p) (GL i) k).c∧D=(Gu (schedP p) (GL i) k).d∧j=(Gu (schedP p) (GL i) k).e∧s=(Gu (schedP p) (GL i) k).f∧t=(Gu (schedP p) (GL i) k).g∧y=(Gu (schedP p) (GL i) k).z) (fun e' _=>(64 - (intOf (e' 15))).toNat) ?_ ?_
  ·exact fun u=>⟨0,(Gu (schedP p) (GL i) 0).a,(Gu (schedP p) (GL i) 0).b,(Gu (schedP p) (GL i) 0).c,(Gu (schedP p) (GL i) 0).d,(Gu (schedP p) (GL i) 0).e,(Gu (schedP p) (GL i) 0).f,(Gu (schedP p) (GL i) 0).g,(Gu (schedP p) (GL i) 0).z,u,rfl,b5,(Ch.refl (fun k=>A.heap.size≤k) A),(by omega),(by first|rfl|assumption),(by first|rfl|assumption),(by first|rfl|assumption),(by first|rfl|assumption),(by first|rfl|assumption),(by first|rfl|assumption),(by first|rfl|assumption),(by first|rfl|assumption)⟩
  ·rintro _ aj ⟨k,o,q,r,D,j,s,t,y,a6,rfl,a7,T,cv,hi_a,hi_b,hi_c,hi_d,hi_e,hi_f,hi_g,hi_z⟩
   obtain ⟨zw,hzw⟩:∃ z,(schedP p).getD k 0=z:=⟨_,rfl⟩
   have hwd:0≤zw∧zw < 4294967296:=hzw ▸ Ki (OK p) k
   obtain ⟨zk,hzk⟩:∃ z,kw.getD k 0=z:=⟨_,rfl⟩
   have hkw:0≤zk∧zk < 4294967296:=hzk ▸ Ki UW k
   have hkl:kw.length=64:=rfl
   have hok:=LW (w:=schedP p) (MN (IT (by first|assumption|exact ‹ws8 i=true›)).1) k
   unfold S8.ok at hok
   rw [← hi_a,← hi_b,← hi_c,← hi_d,← hi_e,← hi_f,← hi_g,← hi_z] at hok
   refine uK<|sr<|mw (vi ((k:Nat):Int)) ?_
   refine pu (vb (decide (((k:Nat):Int) < 64))) wN ?_
   refine n2 ?_
   rcases bf (decide (((k:Nat):Int) < 64)) with V|V
   ·have cw:=dF V
    refine cf V<|Gn<|uA ?_
    obtain rfl:k=64:=by omega
    refine uA<|wr<|rg<|uK<|sr<|mw (vi o) ?_
    refine mw (vi q) ?_
    refine mw (vi r) ?_
    refine mw (vi D) ?_
    refine mw (vi j) ?_
    refine mw (vi s) ?_
    refine mw (vi t) ?_
    refine mw (vi y) ?_
    refine ltI ([o,q,r,D,j,s,t,y]:List Int) wN uQ ?_
    intro ab ac E a8 ak
    have b6:=a7.extk a8
    refine ln wN uQ (Rd.of_own ak) ?_
    refine mw (vi 0) ?_
    refine uD<|rg<|uJ ?_
    have b7:=(gc (tC (gc (gc (gc Q R) Z) M) T (fun g hg hlt hk=>by have am:=(uI Q g hg).2;have an:a1.heap.size≤A.heap.size:=(z3 R Z M);have ao:A.heap.size≤g:=hk;omega)) a8)
    have b8:(i:List Int)=(Kr i (S8.list (Gu (schedP p) (GL i) 64))).take 0++i.drop 0:=by first|rfl|simp
    have b9:(([o,q,r,D,j,s,t,y]:List Int):List Int)=([o,q,r,D,j,s,t,y]:List Int):=by first|rfl|simp
    refine Ge [(0,(vs B i.length C)),(4,(vs none 0 0)),(5,(vs I i.length J)),(133,(vs ab ([o,q,r,D,j,s,t,y]:List Int).length ac)),(134,(vi (([o,q,r,D,j,s,t,y]:List Int).length:Int))),(135,(vi ((0:Nat):Int)))] ⟨rfl,rfl,rfl,rfl,rfl,(cA (Value.int .i64) (show (0:Int)=((0:Nat):Int) by omega)),trivial⟩ (fun e' K=>∃ (m:Nat) (a9:Env),e'=pt a9 [(0,(vs B i.length C)),(4,(vs none 0 0)),(5,(vs I i.length J)),(133,(vs ab ([o,q,r,D,j,s,t,y]:List Int).length ac)),(134,(vi (([o,q,r,D,j,s,t,y]:List Int).length:Int))),(135,(vi ((m:Nat):Int)))]∧Ch (fun k=>G.heap.size≤k) G K∧Ch (fun k=>G.heap.size≤k) E K∧m≤8∧World.ownsRow K G.heap.size 3 1 (.slice I i.length J) i.length (((Kr i (S8.list (Gu (schedP p) (GL i) 64))).take m++i.drop m).map iV)∧World.ownsRow K aj.heap.size 3 1 (.slice ab ([o,q,r,D,j,s,t,y]:List Int).length ac) ([o,q,r,D,j,s,t,y]:List Int).length ((([o,q,r,D,j,s,t,y]:List Int)).map iV)) (fun e' _=>(8 - (intOf (e' 135))).toNat) ?_ ?_
    ·exact fun u=>⟨0,u,rfl,b6,(Ch.refl (fun k=>G.heap.size≤k) E),(by omega),(by rw [← b8];exact b7),(by rw [← b9];exact ak)⟩
    ·rintro _ N ⟨m,a9,rfl,ad,bA,cx,ap,aq⟩
     have hlL:([o,q,r,D,j,s,t,y]:List Int).length=8:=rfl
     have hll:(Kr i (S8.list (Gu (schedP p) (GL i) 64))).length=8:=Ni (by omega) rfl
     have cy:(i.length:Int)=8:=(IT (by first|assumption|exact ‹ws8 i=true›)).2
     have cz:=Ki (IT (by first|assumption|exact ‹ws8 i=true›)).1 m
     have hle:([o,q,r,D,j,s,t,y]:List Int)=(S8.list (Gu (schedP p) (GL i) 64)):=by rw [hi_a,hi_b,hi_c,hi_d,hi_e,hi_f,hi_g,hi_z];rfl
     have c0:0≤([o,q,r,D,j,s,t,y]:List Int).getD m 0∧([o,q,r,D,j,s,t,y]:List Int).getD m 0 < 4294967296:=hle ▸ Ki (Uf (LW (w:=schedP p) (MN (IT (by first|assumption|exact ‹ws8 i=true›)).1) 64)) m
     refine sr<|pu (vb (decide (((m:Nat):Int) < (([o,q,r,D,j,s,t,y]:List Int).length:Int)))) wN ?_
     refine uD<|rg<|uK ?_
     rcases bf (decide (((m:Nat):Int) < (([o,q,r,D,j,s,t,y]:List Int).length:Int))) with W|W
     ·have c1:=dF W
      refine cf W<|Gn<|uA<|uA<|wr<|rg<|sr<|mw (vs I i.length J) ?_
      refine aw (vs I i.length J) ?_
      refine n3<|rt (vs I i.length J) ?_
      refine ⟨ad.keep0,?_⟩
      have bB:GP i p=((Kr i (S8.list (Gu (schedP p) (GL i) 64))).take m++i.drop m):=by first|exact Jb (by first|assumption|exact ‹ws8 i=false›)|exact Ja (by omega)|exact IZ (by first|assumption|exact ‹ws8 i=true›) (by omega) (by omega)
      rw [bB]
      have aA:i.length=(((Kr i (S8.list (Gu (schedP p) (GL i) 64))).take m++i.drop m)).length:=by simp only [List.length_append,List.length_take,List.length_drop];omega
      rw [aA] at ap ⊢
      exact ⟨_,_,rfl,ap,(by rw [← aA];exact af),⟨trivial,trivial⟩⟩
     have c2:=dT W
     refine ct W<|FR<|rg<|uK<|uJ<|sr<|mw (vi ((m:Nat):Int)) ?_
     refine ix wN ((m:Nat):Int) uQ (Rd.of_own aq) ?_
     refine ei (x:=(([o,q,r,D,j,s,t,y]:List Int))) m wN tE (Rd.of_own aq) ?_
     refine aw (vi ((m:Nat):Int)) ?_
     refine aw (vi ((([o,q,r,D,j,s,t,y]:List Int)).getD m 0)) ?_
     refine uD<|rg<|uG ?_
     refine mw (vs I i.length J) ?_
     refine mw (vi ((m:Nat):Int)) ?_
     refine mw (vs B i.length C) ?_
     refine mw (vi ((m:Nat):Int)) ?_
     refine ix wN ((m:Nat):Int) uQ (F.from0 ad) ?_
     refine ei (x:=i) m wN tE (F.from0 ad) ?_
     refine mw (vi ((([o,q,r,D,j,s,t,y]:List Int)).getD m 0)) ?_
     refine cl wN (Oz N (i.getD m 0) ((([o,q,r,D,j,s,t,y]:List Int)).getD m 0) (by omega) (by omega) (by omega) (by omega)) ?_
     rintro _ aB ⟨ae,rfl⟩
     have aC:=(gc ap ae)
     refine ix wN ((m:Nat):Int) uQ (Rd.of_own aC) ?_
     refine Il ((Kr i (S8.list (Gu (schedP p) (GL i) 64))).take m++i.drop m) (m) ((JW (i.getD m 0) ((([o,q,r,D,j,s,t,y]:List Int)).getD m 0))) wN rfl rfl rfl (by simp) rfl GI aC (by first|omega|(simp only [List.length_append,List.length_take,List.length_drop];omega)) ?_
     intro aD au bC
     have bD:=(ad.extk ae).ext au (fun k hk=>nT (Nat.le_refl G.heap.size) (uI Q k hk).1)
     refine uD<|uB<|rg<|uG ?_
     refine ar (((m:Nat):Int)+1) wN ?_
     refine mw (vi (((m:Nat):Int)+1)) ?_
     refine uD ?_
     have bE:((((Kr i (S8.list (Gu (schedP p) (GL i) 64))).take m++i.drop m).set m (JW (i.getD m 0) ((([o,q,r,D,j,s,t,y]:List Int)).getD m 0))):List Int)=(Kr i (S8.list (Gu (schedP p) (GL i) 64))).take (m+1)++i.drop (m+1):=by first|rfl|(rw [hle];exact KS (l:=(S8.list (Gu (schedP p) (GL i) 64))) (by omega) (by show i.length=8;omega))
     have bF:=(tC (gc aq ae) au (fun g hg hlt hk=>by have am:=(uI ak g hg).1;have an:=(uI Q g hk).2;have ao:=(z4 R Z M T);omega))
     have bG:((([o,q,r,D,j,s,t,y]:List Int)):List Int)=([o,q,r,D,j,s,t,y]:List Int):=by first|rfl|(rw [hle];exact KS (l:=(S8.list (Gu (schedP p) (GL i) 64))) (by omega) (by show i.length=8;omega))
     refine FX (w0:=N) [(0,(vs B i.length C)),(4,(vs none 0 0)),(5,(vs I i.length J)),(133,(vs ab ([o,q,r,D,j,s,t,y]:List Int).length ac)),(134,(vi (([o,q,r,D,j,s,t,y]:List Int).length:Int))),(135,(vi (((m+1):Nat):Int)))] ?_ ?_ ?_
     · exact ⟨rfl,rfl,rfl,rfl,rfl,(cA (Value.int .i64) (show ((((m:Nat):Int)+1):Int)=(((m+1):Nat):Int) by omega)),trivial⟩
     · exact fun u=>⟨(m+1),u,rfl,bD,((((Ch.refl (fun k=>G.heap.size≤k) E).ext bA (fun k hk=>hk)).extk ae).ext au (fun k hk=>nT (Nat.le_refl G.heap.size) (uI Q k hk).1)),(by omega),(by rw [← bE];exact bC),(by rw [← bG];exact bF)⟩
     · show (8 - (((m+1):Nat):Int)).toNat < (8 - ((m:Nat):Int)).toNat;omega
   have c3:=dT V
   refine ct V<|FR<|rg<|uK<|uJ<|sr<|mw (vi j) ?_
   refine mw (vi s) ?_
   refine Ju j s wN rfl rfl (by kernel_rfl) (by omega) (by omega) (by omega) (by omega) ?_
   have c4:=Iy (a:=j) (b:=s) (by omega)
   refine mw (vi j) ?_
   refine HJ 4294967295 j wN rfl rfl (by kernel_rfl) (by omega) (by omega) (by omega) (by omega) ?_
   have c5:=GD (a:=4294967295) (b:=j) (by omega) (by omega)
   refine mw (vi t) ?_
   refine Ju (FA 4294967295 j) t wN rfl rfl (by kernel_rfl) (by omega) (by omega) (by omega) (by omega) ?_
   have c6:=Iy (a:=(FA 4294967295 j)) (b:=t) (by omega)
   refine HJ (Gy j s) (Gy (FA 4294967295 j) t) wN rfl rfl (by kernel_rfl) (by omega) (by omega) (by omega) (by omega) ?_
   have c7:=GD (a:=(Gy j s)) (b:=(Gy (FA 4294967295 j) t)) (by omega) (by omega)
   refine aw (vi (FA (Gy j s) (Gy (FA 4294967295 j) t))) ?_
   refine nx<|mw (vi o) ?_
   refine mw (vi q) ?_
   refine Ju o q wN rfl rfl (by kernel_rfl) (by omega) (by omega) (by omega) (by omega) ?_
   have c8:=Iy (a:=o) (b:=q) (by omega)
   refine mw (vi o) ?_
   refine mw (vi r) ?_
   refine Ju o r wN rfl rfl (by kernel_rfl) (by omega) (by omega) (by omega) (by omega) ?_
   have c9:=Iy (a:=o) (b:=r) (by omega)
   refine HJ (Gy o q) (Gy o r) wN rfl rfl (by kernel_rfl) (by omega) (by omega) (by omega) (by omega) ?_
   have cC:=GD (a:=(Gy o q)) (b:=(Gy o r)) (by omega) (by omega)
   refine mw (vi q) ?_
   refine mw (vi r) ?_
   refine Ju q r wN rfl rfl (by kernel_rfl) (by omega) (by omega) (by omega) (by omega) ?_
   have cD:=Iy (a:=q) (b:=r) (by omega)
   refine HJ (FA (Gy o q) (Gy o r)) (Gy q r) wN rfl rfl (by kernel_rfl) (by omega) (by omega) (by omega) (by omega) ?_
   have cE:=GD (a:=(FA (Gy o q) (Gy o r))) (b:=(Gy q r)) (by omega) (by omega)
   refine aw (vi (FA (FA (Gy o q) (Gy o r)) (Gy q r))) ?_
   refine uD<|rg<|uK<|Ga ([(83,[],[],(fun _ v _=>v=(vi y))),(84,[],[],(fun _ v _=>v=(vi j))),(85,[],[1],(fun _ v w=>v=.int .i64 (rot j 6))),(86,[],[],(fun _ v _=>v=(vi j))),(87,[],[1,2,3],(fun _ v w=>v=.int .i64 (rot j 11))),(88,[],[1,2,3,4],(fun _ v _=>v=(vi (FA (rot j 6) (rot j 11))))),(89,[],[],(fun _ v _=>v=(vi j))),(90,[],[1,2,3,4,6],(fun _ v w=>v=.int .i64 (rot j 25))),(91,[],[1,2,3,4,5,6,7],(fun _ v _=>v=(vi (FA (FA (rot j 6) (rot j 11)) (rot j 25))))),(92,[],[0,1,2,3,4,5,6,7,8],(fun _ v _=>v=(vi (y+(FA (FA (rot j 6) (rot j 11)) (rot j 25)))))),(93,[],[],(fun _ v _=>v=(vi (FA (Gy j s) (Gy (FA 4294967295 j) t))))),(94,[],[0,1,2,3,4,5,6,7,8,9,10],(fun _ v _=>v=(vi ((y+(FA (FA (rot j 6) (rot j 11)) (rot j 25)))+(FA (Gy j s) (Gy (FA 4294967295 j) t)))))),(95,[],[],(fun _ v _=>v=(vi ((k:Nat):Int)))),(96,[],[1,2,3,4,6,7,12],(fun _ v w=>v=.int .i64 (KU ((k:Nat):Int)))),(97,[],[0,1,2,3,4,5,6,7,8,9,10,11,12,13],(fun _ v _=>v=(vi (((y+(FA (FA (rot j 6) (rot j 11)) (rot j 25)))+(FA (Gy j s) (Gy (FA 4294967295 j) t)))+(KU ((k:Nat):Int)))))),(98,[],[],(fun _ v _=>v=(vs O (schedP p).length P))),(99,[],[],(fun _ v _=>v=(vi ((k:Nat):Int)))),(100,[],[15,16],(fun _ v _=>v=(ve (vs O (schedP p).length P) ((((k:Nat):Int)).toNat*1)))),(101,[],[15,16,17],(fun _ v _=>v=(vi zw)))]:GV) (fun _ K=>Keep aj K) [] GU rfl (by kernel_rfl) (by kernel_rfl) ?_ (fun _ _ h=>h) (fun _ _ _ _ h _ k=>h.trans k) trivial ?_ ?_ ?_
   ·exact ⟨hV,hE,⟨hV,hE,⟨hV,hE,⟨hV,hE,⟨hV,hE,⟨hV,hE,⟨hV,hE,⟨hV,hE,⟨hV,hE,⟨hV,hE,⟨hV,hE,⟨hV,hE,⟨hV,hE,⟨hV,hE,⟨hV,hE,⟨hV,hE,⟨hV,hE,⟨hV,hE,⟨hV,hE,trivial⟩⟩⟩⟩⟩⟩⟩⟩⟩⟩⟩⟩⟩⟩⟩⟩⟩⟩⟩
   ·exact trivial
   ·refine ⟨?_,⟨?_,⟨?_,⟨?_,⟨?_,⟨?_,⟨?_,⟨?_,⟨?_,⟨?_,⟨?_,⟨?_,⟨?_,⟨?_,⟨?_,⟨?_,⟨?_,⟨?_,⟨?_,trivial⟩⟩⟩⟩⟩⟩⟩⟩⟩⟩⟩⟩⟩⟩⟩⟩⟩⟩⟩
    ·intro _ E cF _
     iterate 19 intro _
     refine sw<|mw (vi y) ?_
     exact f1
    ·intro _ E cG _
     iterate 19 intro _
     refine sw<|mw (vi j) ?_
     exact f1
    ·intro _ E cH _
     rintro _ _ rfl;iterate 17 intro _
     refine sw<|cl wN (Ml E j 6 (by omega) (by omega)) ?_
     rintro _ N ⟨bH,rfl⟩
     have cI:=GM j 6
     exact FY bH rfl
    ·intro _ E cJ _
     iterate 19 intro _
     refine sw<|mw (vi j) ?_
     exact f1
    ·intro _ E cK _
     rintro _ _ rfl _ rfl
     have cL:=GM j 6
     rintro _ rfl;iterate 15 intro _
     refine sw<|cl wN (Ml E j 11 (by omega) (by omega)) ?_
     rintro _ N ⟨bI,rfl⟩
     have cM:=GM j 11
     exact FY bI rfl
    ·intro _ E cN _
     rintro _ _ rfl _ rfl
     have cO:=GM j 6
     rintro _ rfl _ rfl
     have cP:=GM j 11
     iterate 14 intro _
     refine sw<|HJ (rot j 6) (rot j 11) wN rfl rfl (by kernel_rfl) (by omega) (by omega) (by omega) (by omega) ?_
     have cQ:=GD (a:=(rot j 6)) (b:=(rot j 11)) (by omega) (by omega)
     exact f1
    ·intro _ E cR _
     iterate 19 intro _
     refine sw<|mw (vi j) ?_
     exact f1
    ·intro _ E cS _
     rintro _ _ rfl _ rfl
     have cT:=GM j 6
     rintro _ rfl _ rfl
     have cU:=GM j 11
     rintro _ _ rfl _ _ _ _ _ _ _ _ _ _ _ _
     refine sw<|cl wN (Ml E j 25 (by omega) (by omega)) ?_
     rintro _ N ⟨bJ,rfl⟩
     have cV:=GM j 25
     exact FY bJ rfl
    ·intro _ E cW _
     rintro _ _ rfl _ rfl
     have cX:=GM j 6
     rintro _ rfl _ rfl
     have cY:=GM j 11
     rintro _ rfl
     have cZ:=GD (a:=(rot j 6)) (b:=(rot j 11)) (by omega) (by omega)
     rintro _ rfl _ rfl
     have da:=GM j 25
     rintro _ _ _ _ _ _ _ _ _ _ _
     refine sw<|HJ (FA (rot j 6) (rot j 11)) (rot j 25) wN rfl rfl (by kernel_rfl) (by omega) (by omega) (by omega) (by omega) ?_
     have db:=GD (a:=(FA (rot j 6) (rot j 11))) (b:=(rot j 25)) (by omega) (by omega)
     exact f1
    ·intro _ E dc _
     rintro _ rfl _ rfl _ rfl
     have dd:=GM j 6
     rintro _ rfl _ rfl
     have de:=GM j 11
     rintro _ rfl
     have df:=GD (a:=(rot j 6)) (b:=(rot j 11)) (by omega) (by omega)
     rintro _ rfl _ rfl
     have dg:=GM j 25
     rintro _ rfl
     have dh:=GD (a:=(FA (rot j 6) (rot j 11))) (b:=(rot j 25)) (by omega) (by omega)
     rintro _ _ _ _ _ _ _ _ _ _
     refine sw<|ar (y+(FA (FA (rot j 6) (rot j 11)) (rot j 25))) wN ?_
     exact f1
    ·intro _ E di _
     iterate 19 intro _
     refine sw<|mw (vi (FA (Gy j s) (Gy (FA 4294967295 j) t))) ?_
     exact f1
    ·intro _ E dj _
     rintro _ rfl _ rfl _ rfl
     have dk:=GM j 6
     rintro _ rfl _ rfl
     have dl:=GM j 11
     rintro _ rfl
     have dm:=GD (a:=(rot j 6)) (b:=(rot j 11)) (by omega) (by omega)
     rintro _ rfl _ rfl
     have dn:=GM j 25
     rintro _ rfl
     have dp:=GD (a:=(FA (rot j 6) (rot j 11))) (b:=(rot j 25)) (by omega) (by omega)
     rintro _ rfl _ rfl _ _ _ _ _ _ _ _
     refine sw<|ar ((y+(FA (FA (rot j 6) (rot j 11)) (rot j 25)))+(FA (Gy j s) (Gy (FA 4294967295 j) t))) wN ?_
     exact f1
    ·intro _ E dq _
     iterate 19 intro _
     refine sw<|mw (vi ((k:Nat):Int)) ?_
     exact f1
    ·intro _ E dr _
     rintro _ _ rfl _ rfl
     have ds:=GM j 6
     rintro _ rfl _ rfl
     have dt:=GM j 11
     rintro _ _ rfl _ rfl
     have du:=GM j 25
     rintro _ _ _ _ _ rfl _ _ _ _ _ _
     refine sw<|cl wN (Oy E ((k:Nat):Int)) ?_
     rintro _ N ⟨bK,rfl⟩
     have dv:=Qm ((k:Nat):Int)
     exact FY bK rfl
    ·intro _ E dw _
     rintro _ rfl _ rfl _ rfl
     have dx:=GM j 6
     rintro _ rfl _ rfl
     have dy:=GM j 11
     rintro _ rfl
     have dz:=GD (a:=(rot j 6)) (b:=(rot j 11)) (by omega) (by omega)
     rintro _ rfl _ rfl
     have d0:=GM j 25
     rintro _ rfl
     have d1:=GD (a:=(FA (rot j 6) (rot j 11))) (b:=(rot j 25)) (by omega) (by omega)
     rintro _ rfl _ rfl _ rfl _ rfl _ rfl
     have d2:=Qm ((k:Nat):Int)
     rintro _ _ _ _ _
     refine sw<|ar (((y+(FA (FA (rot j 6) (rot j 11)) (rot j 25)))+(FA (Gy j s) (Gy (FA 4294967295 j) t)))+(KU ((k:Nat):Int))) wN ?_
     exact f1
    ·intro _ E d3 _
     iterate 19 intro _
     refine sw<|mw (vs O (schedP p).length P) ?_
     exact f1
    ·intro _ E d4 _
     iterate 19 intro _
     refine sw<|mw (vi ((k:Nat):Int)) ?_
     exact f1
    ·intro _ E bL _
     (iterate 16 intro _);rintro rfl _ rfl _ _
     refine sw ?_
     have bM:=(gc (tC (gc aa M) T (fun g hg hlt hk=>by have am:=(uI aa g hg).2;have an:a5.heap.size≤A.heap.size:=M.size;have ao:A.heap.size≤g:=hk;omega)) bL)
     refine ix wN ((k:Nat):Int) uQ (Rd.of_own bM) ?_
     exact f1
    ·intro _ E bN _
     (iterate 16 intro _);rintro rfl _ rfl _ rfl _
     refine sw ?_
     have bO:=(gc (tC (gc aa M) T (fun g hg hlt hk=>by have am:=(uI aa g hg).2;have an:a5.heap.size≤A.heap.size:=M.size;have ao:A.heap.size≤g:=hk;omega)) bN)
     refine GW (iV zw) wN rfl rfl rfl rfl tE (Rd.of_own bO) (by rw [← hzw];exact Px (by simp) (by first|omega|(simp <;> omega))) ?_
     exact f1
   ·intro _ E aE
    rintro _ rfl _ rfl _ rfl
    have d5:=GM j 6
    rintro _ rfl _ rfl
    have d6:=GM j 11
    rintro _ rfl
    have d7:=GD (a:=(rot j 6)) (b:=(rot j 11)) (by omega) (by omega)
    rintro _ rfl _ rfl
    have d8:=GM j 25
    rintro _ rfl
    have d9:=GD (a:=(FA (rot j 6) (rot j 11))) (b:=(rot j 25)) (by omega) (by omega)
    rintro _ rfl _ rfl _ rfl _ rfl _ rfl
    have dA:=Qm ((k:Nat):Int)
    rintro _ rfl _ rfl _ rfl _ rfl _ rfl
    refine sw<|ar ((((y+(FA (FA (rot j 6) (rot j 11)) (rot j 25)))+(FA (Gy j s) (Gy (FA 4294967295 j) t)))+(KU ((k:Nat):Int)))+zw) wN ?_
    refine aw (vi ((((y+(FA (FA (rot j 6) (rot j 11)) (rot j 25)))+(FA (Gy j s) (Gy (FA 4294967295 j) t)))+(KU ((k:Nat):Int)))+zw)) ?_
    refine nx<|mw (vi o) ?_
    refine cl wN (Ml E o 2 (by omega) (by omega)) ?_
    rintro _ N ⟨aF,rfl⟩
    have bP:=(a7.extk aE).extk aF
    have dB:=GM o 2
    refine mw (vi o) ?_
    refine cl wN (Ml N o 13 (by omega) (by omega)) ?_
    rintro _ aB ⟨aG,rfl⟩
    have dC:=GM o 13
    refine HJ (rot o 2) (rot o 13) wN rfl rfl (by kernel_rfl) (by omega) (by omega) (by omega) (by omega) ?_
    have dD:=GD (a:=(rot o 2)) (b:=(rot o 13)) (by omega) (by omega)
    refine mw (vi o) ?_
    refine cl wN (Ml aB o 22 (by omega) (by omega)) ?_
    rintro _ aD ⟨aH,rfl⟩
    have bQ:=(bP.extk aG).extk aH
    have dE:=GM o 22
    refine HJ (FA (rot o 2) (rot o 13)) (rot o 22) wN rfl rfl (by kernel_rfl) (by omega) (by omega) (by omega) (by omega) ?_
    have dG:=GD (a:=(FA (rot o 2) (rot o 13))) (b:=(rot o 22)) (by omega) (by omega)
    refine mw (vi (FA (FA (Gy o q) (Gy o r)) (Gy q r))) ?_
    refine ar ((FA (FA (rot o 2) (rot o 13)) (rot o 22))+(FA (FA (Gy o q) (Gy o r)) (Gy q r))) wN ?_
    refine aw (vi ((FA (FA (rot o 2) (rot o 13)) (rot o 22))+(FA (FA (Gy o q) (Gy o r)) (Gy q r)))) ?_
    refine nx<|mw (vi t) ?_
    refine mw (vi s) ?_
    refine mw (vi j) ?_
    refine mw (vi D) ?_
    refine mw (vi ((((y+(FA (FA (rot j 6) (rot j 11)) (rot j 25)))+(FA (Gy j s) (Gy (FA 4294967295 j) t)))+(KU ((k:Nat):Int)))+zw)) ?_
    refine cl wN (Oz aD D ((((y+(FA (FA (rot j 6) (rot j 11)) (rot j 25)))+(FA (Gy j s) (Gy (FA 4294967295 j) t)))+(KU ((k:Nat):Int)))+zw) (by omega) (by omega) (by omega) (by omega)) ?_
    rintro _ bR ⟨aI,rfl⟩
    refine aw (vi t) ?_
    refine aw (vi s) ?_
    refine aw (vi j) ?_
    refine aw (vi (JW D ((((y+(FA (FA (rot j 6) (rot j 11)) (rot j 25)))+(FA (Gy j s) (Gy (FA 4294967295 j) t)))+(KU ((k:Nat):Int)))+zw))) ?_
    refine uD<|rg<|uG ?_
    refine mw (vi r) ?_
    refine mw (vi q) ?_
    refine mw (vi o) ?_
    refine mw (vi ((((y+(FA (FA (rot j 6) (rot j 11)) (rot j 25)))+(FA (Gy j s) (Gy (FA 4294967295 j) t)))+(KU ((k:Nat):Int)))+zw)) ?_
    refine mw (vi ((FA (FA (rot o 2) (rot o 13)) (rot o 22))+(FA (FA (Gy o q) (Gy o r)) (Gy q r)))) ?_
    refine cl wN (Oz bR ((((y+(FA (FA (rot j 6) (rot j 11)) (rot j 25)))+(FA (Gy j s) (Gy (FA 4294967295 j) t)))+(KU ((k:Nat):Int)))+zw) ((FA (FA (rot o 2) (rot o 13)) (rot o 22))+(FA (FA (Gy o q) (Gy o r)) (Gy q r))) (by omega) (by omega) (by omega) (by omega)) ?_
    rintro _ dH ⟨aJ,rfl⟩
    have bS:=(bQ.extk aI).extk aJ
    refine aw (vi r) ?_
    refine aw (vi q) ?_
    refine aw (vi o) ?_
    refine aw (vi (JW ((((y+(FA (FA (rot j 6) (rot j 11)) (rot j 25)))+(FA (Gy j s) (Gy (FA 4294967295 j) t)))+(KU ((k:Nat):Int)))+zw) ((FA (FA (rot o 2) (rot o 13)) (rot o 22))+(FA (FA (Gy o q) (Gy o r)) (Gy q r))))) ?_
    refine uD<|uB<|rg<|uG ?_
    refine mw (vi ((k:Nat):Int)) ?_
    refine ar (((k:Nat):Int)+1) wN ?_
    refine aw (vi (((k:Nat):Int)+1)) ?_
    refine uD<|FX (w0:=aj) [(0,(vs B i.length C)),(4,(vs none 0 0)),(5,(vs I i.length J)),(6,(vs O (schedP p).length P)),(7,(vi ((Gu (schedP p) (GL i) (k+1)).a))),(8,(vi ((Gu (schedP p) (GL i) (k+1)).b))),(9,(vi ((Gu (schedP p) (GL i) (k+1)).c))),(10,(vi ((Gu (schedP p) (GL i) (k+1)).d))),(11,(vi ((Gu (schedP p) (GL i) (k+1)).e))),(12,(vi ((Gu (schedP p) (GL i) (k+1)).f))),(13,(vi ((Gu (schedP p) (GL i) (k+1)).g))),(14,(vi ((Gu (schedP p) (GL i) (k+1)).z))),(15,(vi (((k+1):Nat):Int)))] ?_ ?_ ?_
    · exact ⟨rfl,rfl,rfl,rfl,(cA (Value.int .i64) (show ((JW ((((y+(FA (FA (rot j 6) (rot j 11)) (rot j 25)))+(FA (Gy j s) (Gy (FA 4294967295 j) t)))+(KU ((k:Nat):Int)))+zw) ((FA (FA (rot o 2) (rot o 13)) (rot o 22))+(FA (FA (Gy o q) (Gy o r)) (Gy q r)))):Int)=(Gu (schedP p) (GL i) (k+1)).a by subst hzw hzk hi_a hi_b hi_c hi_d hi_e hi_f hi_g hi_z;exact Ux (by omega) rfl)),(cA (Value.int .i64) (show (o:Int)=(Gu (schedP p) (GL i) (k+1)).b by rw [hi_a];rfl)),(cA (Value.int .i64) (show (q:Int)=(Gu (schedP p) (GL i) (k+1)).c by rw [hi_b];rfl)),(cA (Value.int .i64) (show (r:Int)=(Gu (schedP p) (GL i) (k+1)).d by rw [hi_c];rfl)),(cA (Value.int .i64) (show ((JW D ((((y+(FA (FA (rot j 6) (rot j 11)) (rot j 25)))+(FA (Gy j s) (Gy (FA 4294967295 j) t)))+(KU ((k:Nat):Int)))+zw)):Int)=(Gu (schedP p) (GL i) (k+1)).e by subst hzw hzk hi_a hi_b hi_c hi_d hi_e hi_f hi_g hi_z;exact Uw (by omega) rfl)),(cA (Value.int .i64) (show (j:Int)=(Gu (schedP p) (GL i) (k+1)).f by rw [hi_e];rfl)),(cA (Value.int .i64) (show (s:Int)=(Gu (schedP p) (GL i) (k+1)).g by rw [hi_f];rfl)),(cA (Value.int .i64) (show (t:Int)=(Gu (schedP p) (GL i) (k+1)).z by rw [hi_g];rfl)),(cA (Value.int .i64) (show ((((k:Nat):Int)+1):Int)=(((k+1):Nat):Int) by omega)),trivial⟩
    · exact fun u=>⟨(k+1),(Gu (schedP p) (GL i) (k+1)).a,(Gu (schedP p) (GL i) (k+1)).b,(Gu (schedP p) (GL i) (k+1)).c,(Gu (schedP p) (GL i) (k+1)).d,(Gu (schedP p) (GL i) (k+1)).e,(Gu (schedP p) (GL i) (k+1)).f,(Gu (schedP p) (GL i) (k+1)).g,(Gu (schedP p) (GL i) (k+1)).z,u,rfl,bS,((((((((Ch.refl (fun k=>A.heap.size≤k) A).ext T (fun k hk=>hk)).extk aE).extk aF).extk aG).extk aH).extk aI).extk aJ),(by omega),(by first|rfl|assumption),(by first|rfl|assumption),(by first|rfl|assumption),(by first|rfl|assumption),(by first|rfl|assumption),(by first|rfl|assumption),(by first|rfl|assumption),(by first|rfl|assumption)⟩
    · show (64 - (((k+1):Nat):Int)).toNat < (64 - ((k:Nat):Int)).toNat;omega

def TN (w:World) (v:Value) (x:(List Int)×(List UInt8)):Prop:=∃ (a:Option Addr) (b:Nat) (d:Option Addr) (e:Nat),v=.tuple #[.slice a x.1.length b,.slice d x.2.length e]∧Rd w 1 (.slice a x.1.length b) x.1.length (x.1.map iV)∧x.1.length≤1073741824∧Rd w 1 (.slice d x.2.length e) x.2.length (x.2.map bV)∧x.2.length≤1073741824
theorem KO (e:World) (y:Value) (b:List Int) (L:RC e y b) (A:Value) (a:List UInt8) (M:HP e A a) :Fn Tryz.prog 127 #[y,A] e (fun v g=>Keep e g∧TN g v (FQ b a)):=by
 obtain ⟨o,p,rfl,N,O⟩:=L
 obtain ⟨q,r,rfl,P,Q⟩:=M
 refine FI (n:=17) [(vs o b.length p),(vs q a.length r)] Tryz.func127 rfl rfl ?_
 refine sr<|aw (vs none 0 0) ?_
 refine aw (vs none 0 0) ?_
 refine uD<|rg<|uK<|uJ ?_
 have B:(b:List Int)=Hf b a 0:=by rfl
 have C:(a:List UInt8)=a.drop (64*0):=by rfl
 refine Ge [(0,(.slice o (Hf b a 0).length p)),(1,(.slice q (a.drop (64*0)).length r)),(4,(vs none 0 0)),(5,(vs none 0 0))] ⟨(cA (fun l:List Int=>Value.slice o l.length p) B),(cA (fun l:List UInt8=>Value.slice q l.length r) C),rfl,rfl,trivial⟩ (fun e' g=>∃ (k:Nat) (D:Env) (h:Option Addr) (i:Nat) (f:Option Addr) (d:Nat),e'=pt D [(0,(.slice h (Hf b a k).length i)),(1,(.slice f (a.drop (64*k)).length d)),(4,(vs none 0 0)),(5,(vs none 0 0))]∧Ch (fun k=>e.heap.size≤k) e g∧Ch (fun k=>e.heap.size≤k) e g∧64*k≤a.length∧(Rd g 1 (.slice h (Hf b a k).length i) (Hf b a k).length ((Hf b a k).map iV)∧(Hf b a k).length≤1073741824)∧(Rd g 1 (.slice f (a.drop (64*k)).length d) (a.drop (64*k)).length ((a.drop (64*k)).map bV)∧(a.drop (64*k)).length≤1073741824)) (fun e' _=>(lenOf (e' 1))) ?_ ?_
 ·exact fun u=>⟨0,u,o,p,q,r,rfl,(Ch.base e),(Ch.refl (fun k=>e.heap.size≤k) e),(by omega),(B ▸ ⟨N,O⟩),(C ▸ ⟨P,Q⟩)⟩
 ·rintro _ E ⟨k,D,h,i,f,d,rfl,F,R,ab,⟨G,H⟩,⟨j,w⟩⟩
  have hdl:(a.drop (64*k)).length=a.length - 64*k:=List.length_drop
  refine uK<|sr<|mw (vs f (a.drop (64*k)).length d) ?_
  refine ln wN tD j ?_
  refine pu (vb (decide (64≤((a.drop (64*k)).length:Int)))) wN ?_
  refine n2 ?_
  rcases bf (decide (64≤((a.drop (64*k)).length:Int))) with m|m
  ·have ac:=dF m
   refine cf m<|Gn<|uA<|uA<|wr<|rg<|sr<|mw (vs h (Hf b a k).length i) ?_
   refine mw (vs f (a.drop (64*k)).length d) ?_
   refine aw (vs h (Hf b a k).length i) ?_
   refine aw (vs f (a.drop (64*k)).length d) ?_
   refine n3<|Jv (.inl rfl) (vs h (Hf b a k).length i) (vs f (a.drop (64*k)).length d) rfl rfl rfl ?_
   refine ⟨F.keep0,?_⟩
   have S:FQ b a=((Hf b a k),(a.drop (64*k))):=by exact QV (by omega) (by omega)
   rw [S]
   exact ⟨_,_,_,_,rfl,G,H,j,w⟩
  have ad:=dT m
  refine ct m<|FR<|rg<|uJ<|sr<|mw (vs h (Hf b a k).length i) ?_
  refine mw (vs f (a.drop (64*k)).length d) ?_
  refine slv ((a.drop (64*k)).take 64) 0 64 wN tD j (by first|omega|(simp <;> omega)) (by first|omega|(simp <;> omega)) (by first|rfl|(simp;done)|(rw [List.take_of_length_le (by first|(simp;done)|(simp;omega))])) rfl rfl rfl rfl (.inl ⟨rfl,rfl⟩) (.inr ⟨_,_,_,rfl,rfl,by omega⟩) ?_
  have T:0≤64:=(by first|omega|(simp <;> omega))
  have V:64≤(a.drop (64*k)).length:=(by first|omega|(simp <;> omega))
  refine cl wN (PK E _ (Hf b a k) (Lq G H) _ ((a.drop (64*k)).take 64) (FV (Rd.subV (x':=((a.drop (64*k)).take 64)) j T V (by first|rfl|(simp;done)|(rw [List.take_of_length_le (by first|(simp;done)|(simp;omega))]))) (nT (by simp only [List.length_take,List.length_drop];omega) w))) ?_
  rintro _ ae ⟨x,⟨s,t,rfl,W,X,af⟩⟩
  have Y:=F.extk x
  refine aw (vs s (GP (Hf b a k) ((a.drop (64*k)).take 64)).length t) ?_
  refine uD<|rg<|uG ?_
  refine mw (vs f (a.drop (64*k)).length d) ?_
  have I:=(j.kp x)
  refine slv ((a.drop (64*k)).drop 64) 64 ((a.drop (64*k)).length) wN tD I (by first|omega|(simp <;> omega)) (by first|omega|(simp <;> omega)) (by first|rfl|(simp;done)|(rw [List.take_of_length_le (by first|(simp;done)|(simp;omega))])) rfl rfl rfl rfl (.inr ⟨_,_,_,rfl,rfl,by omega⟩) (.inl ⟨rfl,rfl⟩) ?_
  have Z:64≤((a.drop (64*k)).length):=(by first|omega|(simp <;> omega))
  have aa:((a.drop (64*k)).length)≤(a.drop (64*k)).length:=(by first|omega|(simp <;> omega))
  refine aw (vs (NW f d 64 1) ((a.drop (64*k)).drop 64).length (d - 64)) ?_
  refine uD<|uB ?_
  have J:((GP (Hf b a k) ((a.drop (64*k)).take 64)):List Int)=Hf b a (k+1):=by rfl
  have K:(((a.drop (64*k)).drop 64):List UInt8)=a.drop (64*(k+1)):=by rw [List.drop_drop];congr 1
  refine FX (w0:=E) [(0,(.slice s (Hf b a (k+1)).length t)),(1,(.slice (NW f d 64 1) (a.drop (64*(k+1))).length (d - 64))),(4,(vs none 0 0)),(5,(vs none 0 0))] ?_ ?_ ?_
  · exact ⟨(cA (fun l:List Int=>Value.slice s l.length t) J),(cA (fun l:List UInt8=>Value.slice (NW f d 64 1) l.length (d - 64)) K),rfl,rfl,trivial⟩
  · exact fun u=>⟨(k+1),u,s,t,(NW f d 64 1),(d - 64),rfl,Y,(((Ch.refl (fun k=>e.heap.size≤k) e).ext R (fun k hk=>hk)).extk x),(by omega),(J ▸ ⟨(Rd.of_own W),X⟩),(K ▸ ⟨(Rd.subV (x':=((a.drop (64*k)).drop 64)) I Z aa (by first|rfl|(simp;done)|(rw [List.take_of_length_le (by first|(simp;done)|(simp;omega))]))),(nT (by simp only [List.length_take,List.length_drop];omega) w)⟩)⟩
  · show (a.drop (64*(k+1))).length < (a.drop (64*k)).length;simp only [List.length_drop];omega

theorem OT {w:World} {x:PHash} {a:Option Addr} {b:Nat} {d:Option Addr} {e:Nat} (f:Rd w 1 (.slice a x.H.length b) x.H.length (x.H.map iV)) (g:x.H.length≤1073741824) (h:Rd w 1 (.slice d x.Held.length e) x.Held.length (x.Held.map bV)) (i:x.Held.length≤1073741824):Sz w (va (Lk x a b d e)) x:=⟨_,_,_,_,rfl,f,g,h,i⟩
def Rt (w:World) (lo:Nat) (v:Value) (x:(List UInt8)) (k:Option Addr×Nat→Prop):Prop:=∃ (a:Option Addr) (b:Nat),v=.slice a x.length b∧w.ownsRow lo 5 1 (.slice a x.length b) x.length (x.map bV)∧x.length≤1073741824∧Aps [(a,b)]∧k (a,b)
theorem LO {w:World} {x:List (List UInt8)} {a:Option Addr} {b:Nat} (d:RLv Nj w 1073741824 a x.length b x) (e:x.length≤1073741824):UH w (vs a x.length b) x:=⟨_,_,rfl,d,e⟩
def Hs (a:PHash) (b:List UInt8):(PHash):=bif (Ho a) then (bif (decide ((1048576 - a.N) < (b.length:Int))) then (a) else ({H:=(FQ a.H (uN [a.Held,b])).1,Held:=(((FQ a.H (uN [a.Held,b])).2)),N:=(a.N+(b.length:Int)):PHash})) else (a)
theorem Rb (K:World) (av:Value) (a:PHash) (aM:Sz K av a) (ax:Value) (b:List UInt8) (aN:HP K ax b) :Fn Tryz.prog 91 #[av,ax] K (fun v M=>Keep K M∧UJ M K.heap.size v (Hs a b)):=by
 obtain ⟨f,s,t,u,rfl,ae,af,ah,ai⟩:=aM
 obtain ⟨x,y,rfl,aj,aO⟩:=aN
 refine FI (n:=50) [(va (Lk a f s t u)),(vs x b.length y)] Tryz.func91 rfl rfl ?_
 refine sr<|bx (Lk a f s t u) wN ?_
 intro l A c6 c7 E Q
 refine al [(vs none 0 0),(vs none 0 0),(vi 0)] wN OE ?_
 intro aP aQ ay R B az
 have S:=((Ch.base K).extk E).extk B
 refine n4<|jT1 [(1,(vs x b.length y)),(2,(vp l 0)),(4,(vp aP 0))] (Hs a b=a) ?_ fun a1=>?_
 ·intro aR F C c8
  have ak:=S.extk C
  refine uK<|Ga ([(18,[],[],(fun _ v w=>∃ a0:Addr,v=.slice (some a0) 0 0∧w.ownsRow F.heap.size 3 1 (.slice (some a0) 0 0) 0 [])),(19,[],[],(fun _ v _=>v=(vp l 0))),(20,[],[1],(fun _ v _=>v=(vs f a.H.length s))),(21,[],[0,1,2],(fun _ v w=>∃ (f:Option Addr) (p:Nat),v=.slice f a.H.length p∧w.ownsRow F.heap.size 3 1 (.slice f a.H.length p) a.H.length (a.H.map iV)∧a.H.length≤1073741824∧Aps [(f,p)])),(22,[],[],(fun _ v _=>v=(vp l 1))),(23,[],[4],(fun _ v _=>v=(vs t a.Held.length u))),(24,[21],[0,1,2,3,4,5],(fun e v w=>Rt w F.heap.size v a.Held (fun am=>Ap (sp (e 21)) am))),(25,[],[],(fun _ v _=>v=(vp l 2))),(26,[],[7],(fun _ v _=>v=(vi a.N)))]:GV) (fun _ M=>Keep F M) [] GU rfl (by kernel_rfl) (by kernel_rfl) ?_ (fun _ _ h=>h) (fun _ _ _ _ h _ k=>h.trans k) trivial ?_ ?_ ?_
  ·exact ⟨(fun e v w A h hk=>by obtain ⟨i,he,j⟩:=h;exact ⟨i,he,gc j hk⟩),hE,⟨hV,hE,⟨hV,hE,⟨(fun e v w A h hk=>by obtain ⟨i,q,he,j,r,hap⟩:=h;exact ⟨i,q,he,gc j hk,r,hap⟩),hE,⟨hV,hE,⟨hV,hE,⟨(fun e v w A h hk=>by obtain ⟨i,q,he,j,r,hap,hx⟩:=h;exact ⟨i,q,he,gc j hk,r,hap,hx⟩),(fun O P v w hx h=>by have aS:=hx 21 (by simp);simp only [aS] at h;exact h),⟨hV,hE,⟨hV,hE,trivial⟩⟩⟩⟩⟩⟩⟩⟩⟩
  ·exact trivial
  ·refine ⟨?_,⟨?_,⟨?_,⟨?_,⟨?_,⟨?_,⟨?_,⟨?_,⟨?_,trivial⟩⟩⟩⟩⟩⟩⟩⟩⟩
   ·intro _ d aT _
    rintro _ _ _ _ _ _ _ _ _
    refine sw<|Gc wN rfl rfl uQ (fun w=>by kernel_rfl) ?_
    intro c9 g aU aV
    exact FY aU ⟨_,rfl,tA aV aT.size⟩
   ·intro _ d cC _
    rintro _ _ _ _ _ _ _ _ _
    refine sw<|pu (vp l 0) wN ?_
    exact f1
   ·intro _ d aW _
    rintro _ _ rfl _ _ _ _ _ _ _
    refine sw ?_
    have aX:=(((Q.kp B).kp C).kp aW)
    refine ld (vs f a.H.length s) wN GO aX ?_
    exact f1
   ·intro _ d a2 _
    have aY:=ak.extk a2
    rintro _ ⟨cD,rfl,aZ⟩ _ rfl _ rfl _ _ _ _ _ _
    refine sw<|TJ a.H wN uQ aZ (ae.from0 aY) a2.size ?_
    intro cE cF g ba bb cG
    exact FY ba ⟨_,_,rfl,bb,af,⟨trivial,trivial⟩⟩
   ·intro _ d cH _
    rintro _ _ _ _ _ _ _ _ _
    refine sw<|pu (vp l 1) wN ?_
    exact f1
   ·intro _ d bc _
    rintro _ _ _ _ _ rfl _ _ _ _
    refine sw ?_
    have bd:=(((Q.kp B).kp C).kp bc)
    refine ld (vs t a.Held.length u) wN uH bd ?_
    exact f1
   ·intro _ d a3 _
    have be:=ak.extk a3
    rintro _ ⟨cI,rfl,cJ⟩ _ rfl _ rfl _ ⟨cK,cL,rfl,bg,cM,-⟩ _ rfl _ rfl _ _ _
    refine sw<|cl wN (IR d _ a.Held (FV (ah.from0 be) ai)) ?_
    rintro _ g ⟨bh,⟨cN,cO,rfl,a4,bi,bj⟩⟩
    exact FY bh ⟨_,_,rfl,(tA a4 a3.size),bi,bj,(Ap.lt bg a4 (Nat.le_refl _))⟩
   ·intro _ d cP _
    rintro _ _ _ _ _ _ _ _ _
    refine sw<|pu (vp l 2) wN ?_
    exact f1
   ·intro _ d bk _
    rintro _ _ _ _ _ _ _ _ rfl _
    refine sw ?_
    have bl:=(((Q.kp B).kp C).kp bk)
    refine ld (vi a.N) wN tE bl ?_
    exact f1
  ·intro _ d a5
   rintro _ ⟨cQ,rfl,cR⟩ _ rfl _ rfl _ ⟨T,V,rfl,a6,bm,-⟩ _ rfl _ rfl _ ⟨W,X,rfl,a7,bn,cS,bo⟩ _ rfl _ rfl
   refine sw<|pu (va (Lk a T V W X)) wN ?_
   have bp:=((az.kp C).kp a5)
   refine sv (Lk a T V W X) wN Ih bp ?_
   intro g an bq cT
   have br:=(ak.extk a5).ext an (fun k hk=>by subst hk;exact nT E.size ay)
   refine n1 ?_
   have bu:=(tC a6 an (ne1 a6 (nL R C.size)))
   have bv:=(tC a7 an (ne1 a7 (nL R C.size)))
   refine Jz (.inl rfl) (va (Lk a T V W X)) rfl (HL (Lk a T V W X) rfl bq JV Ih) ?_
   refine ⟨br.keep0,?_⟩
   rw [aR]
   exact ⟨_,_,_,_,rfl,(tA bu (z3 E B C)),bm,(tA bv (z3 E B C)),bn,⟨⟨bo,trivial⟩,⟨trivial,trivial⟩⟩⟩
 have a8:=(Q.kp B)
 refine lN (Lk a f s t u) wN JV Ih a8 ?_
 refine cl wN (Pb aQ _ a (OT (ae.from0 S) af (ah.from0 S) ai)) ?_
 rintro _ F ⟨D,rfl⟩
 have Y:=S.extk D
 refine pu (vb (!(Ho a))) wN ?_
 refine mw (vb (!(Ho a))) ?_
 rcases bf (Ho a) with o|o
 ·iterate 6 refine sk (cA not o) ?_
  refine pk (vb true) wN (cA not o) ?_
  refine n2<|ct T1 ?_
  have bw:Hs a b=a:=by simp only [Hs,o,cond_true,cond_false]
  exact wj (a1 bw _ D)
 have cU:=Ly o
 refine mv (vs x b.length y) (wS (cA not o)) ?_
 refine ln (wS (cA not o)) tD (aj.from0 Y) ?_
 refine pu (vp l 2) (wS (cA not o)) ?_
 have Z:=(a8.kp D)
 refine ld (vi a.N) (wS (cA not o)) tE Z ?_
 refine ar (1048576 - a.N) (wS (cA not o)) ?_
 refine pu (vb (decide ((1048576 - a.N) < (b.length:Int)))) (wS (cA not o)) ?_
 refine pf (vb (decide ((1048576 - a.N) < (b.length:Int)))) wN (cA not o) ?_
 refine n2 ?_
 rcases bt (decide ((1048576 - a.N) < (b.length:Int))) with G|G
 ·have cV:=dT G
  refine ct G ?_
  have bz:Hs a b=a:=by simp only [Hs,o,G,cond_true,cond_false]
  exact wj (a1 bz _ D)
 have cW:=dF G
 refine cf G<|FR<|rg<|uK<|IM ([(29,[],[],(fun _ v _=>v=(vp l 0))),(30,[],[0],(fun _ v _=>v=(vs f a.H.length s))),(31,[],[],(fun _ v _=>v=(vp l 1))),(32,[],[2],(fun _ v _=>v=(vs t a.Held.length u))),(33,[],[],(fun _ v _=>v=(vs x b.length y))),(34,[],[2,3,4],(fun _ v w=>∃ (f:Option Addr) (p:Nat),v=.slice f 2 p∧w.ownsRow F.heap.size 22 1 (.slice f 2 p) 2 [(vs t a.Held.length u),(vs x b.length y)])),(35,[],[2,3,4,5],(fun _ v w=>JF w F.heap.size v (uN [a.Held,b]))),(36,[],[0,1,2,3,4,5,6],(fun _ v w=>∃ (f:Option Addr) (p:Nat) (a9:Option Addr) (s:Nat),v=.tuple #[.slice f ((FQ a.H (uN [a.Held,b])).1).length p,.slice a9 ((FQ a.H (uN [a.Held,b])).2).length s]∧Rd w 1 (.slice f ((FQ a.H (uN [a.Held,b])).1).length p) ((FQ a.H (uN [a.Held,b])).1).length (((FQ a.H (uN [a.Held,b])).1).map iV)∧((FQ a.H (uN [a.Held,b])).1).length≤1073741824∧Rd w 1 (.slice a9 ((FQ a.H (uN [a.Held,b])).2).length s) ((FQ a.H (uN [a.Held,b])).2).length (((FQ a.H (uN [a.Held,b])).2).map bV)∧((FQ a.H (uN [a.Held,b])).2).length≤1073741824)),(28,[36],[0,1,2,3,4,5,6,7],(fun e v _=>v=(.tuple #[(Gl (e 36) 0),(Gl (e 36) 1)]))),(37,[36],[0,1,2,3,4,5,6,7,8],(fun e v _=>v=(Gl (e 36) 0))),(38,[36],[0,1,2,3,4,5,6,7,8],(fun e v _=>v=(Gl (e 36) 1))),(5,[36],[0,1,2,3,4,5,6,7,8,9],(fun e v _=>v=(Gl (e 36) 0)))]:GV) GU rfl (by kernel_rfl) (by kernel_rfl) ?_ ?_ ?_
 ·exact ⟨hV,hE,⟨hV,hE,⟨hV,hE,⟨hV,hE,⟨hV,hE,⟨(fun e v w A h hk=>by obtain ⟨i,q,he,j⟩:=h;exact ⟨i,q,he,gc j hk⟩),hE,⟨(fun e v w A h hk=>by obtain ⟨i,q,he,j,r,hap⟩:=h;exact ⟨i,q,he,gc j hk,r,hap⟩),hE,⟨(fun e v w A h hk=>by obtain ⟨i,q,b0,b1,he,j,r,b2,b3⟩:=h;exact ⟨i,q,b0,b1,he,Rd.kp j hk,r,Rd.kp b2 hk,b3⟩),hE,⟨hV,(fun O P v w hx h=>by have I:=hx 36 (by simp);simp only [I] at h;exact h),⟨hV,(fun O P v w hx h=>by have I:=hx 36 (by simp);simp only [I] at h;exact h),⟨hV,(fun O P v w hx h=>by have I:=hx 36 (by simp);simp only [I] at h;exact h),⟨hV,(fun O P v w hx h=>by have I:=hx 36 (by simp);simp only [I] at h;exact h),trivial⟩⟩⟩⟩⟩⟩⟩⟩⟩⟩⟩⟩
 ·refine ⟨?_,⟨?_,⟨?_,⟨?_,⟨?_,⟨?_,⟨?_,⟨?_,⟨?_,⟨?_,⟨?_,⟨?_,trivial⟩⟩⟩⟩⟩⟩⟩⟩⟩⟩⟩⟩
  ·intro d cX
   rintro _ _ _ _ _ _ _ _ _ _ _ _
   refine sw<|pu (vp l 0) wN ?_
   exact f2
  ·intro d b4
   rintro _ rfl _ _ _ _ _ _ _ _ _ _ _
   refine sw ?_
   have b5:=(Z.kp b4)
   refine ld (vs f a.H.length s) wN GO b5 ?_
   exact f2
  ·intro d cY
   rintro _ _ _ _ _ _ _ _ _ _ _ _
   refine sw<|pu (vp l 1) wN ?_
   exact f2
  ·intro d b6
   rintro _ _ _ rfl _ _ _ _ _ _ _ _ _
   refine sw ?_
   have b7:=(Z.kp b6)
   refine ld (vs t a.Held.length u) wN uH b7 ?_
   exact f2
  ·intro d cZ
   rintro _ _ _ _ _ _ _ _ _ _ _ _
   refine sw<|mw (vs x b.length y) ?_
   exact f2
  ·intro d b8
   rintro _ _ _ rfl _ rfl _ rfl _ _ _ _ _ _ _
   refine sw<|JS [(vs t a.Held.length u),(vs x b.length y)] wN rfl rfl IW (m:=2) rfl (by simp only [maxLen];omega) (fun w=>by kernel_rfl) ?_
   intro da g b9 aA
   obtain ⟨db,dc,rfl⟩:=Hg aA
   exact JO b9 ⟨_,_,rfl,tA aA b8.size⟩
  ·intro d aB
   have aC:=Y.extk aB
   rintro _ _ _ rfl _ rfl _ rfl _ ⟨dd,de,rfl,bA⟩ _ _ _ _ _ _
   refine sw<|cl wN (JN d _ [a.Held,b] (LO (RLv.mk (L:=Nj) [(a.Held,[(t,u)]),(b,[(x,y)])] (Rd.of_own bA) rfl ⟨⟨⟨(ah.from0 aC),ai⟩,trivial⟩,⟨⟨⟨(aj.from0 aC),aO⟩,trivial⟩,trivial⟩⟩ (by first|decide|exact Nat.le_of_ble_eq_true rfl)) (by first|decide|exact Nat.le_of_ble_eq_true rfl)) (by first|omega|(rw [HN];omega)|(rw [HN];simp only [List.length_cons,List.length_nil,Gz];omega)|(rw [JK];simp only [List.length_cons,List.length_nil,Gz];omega)|(simp only [uN,List.flatten_cons,List.flatten_nil,List.length_append,List.length_cons,List.length_nil,Gz];omega))) ?_
   rintro _ g ⟨bB,⟨df,dg,rfl,bC,bD,bE⟩⟩
   have dh:=(show (uN [a.Held,b]).length=a.Held.length+b.length by simp only [uN,List.flatten_cons,List.flatten_nil,List.length_append,List.length_cons,List.length_nil];omega)
   exact JO bB ⟨_,_,rfl,(tA bC aB.size),bD,bE⟩
  ·intro d bF
   have bG:=Y.extk bF
   rintro _ rfl _ rfl _ rfl _ rfl _ rfl _ ⟨di,dj,rfl,dk⟩ _ ⟨dl,dm,rfl,bH,bI,dn⟩
   have dp:=(show (uN [a.Held,b]).length=a.Held.length+b.length by simp only [uN,List.flatten_cons,List.flatten_nil,List.length_append,List.length_cons,List.length_nil];omega)
   rintro _ _ _ _ _
   refine sw<|cl wN (KO d _ a.H (Lq (ae.from0 bG) af) _ (uN [a.Held,b]) (FV (Rd.of_own bH) bI)) ?_
   rintro _ g ⟨bJ,⟨dq,dr,ds,dt,rfl,bK,bL,bM,bN⟩⟩
   exact JO bJ ⟨_,_,_,_,rfl,bK,bL,bM,bN⟩
  ·intro d du
   rintro _ rfl _ rfl _ rfl _ rfl _ rfl _ ⟨dv,dw,rfl,dx⟩ _ ⟨dy,dz,rfl,_⟩
   have d0:=(show (uN [a.Held,b]).length=a.Held.length+b.length by simp only [uN,List.flatten_cons,List.flatten_nil,List.length_append,List.length_cons,List.length_nil];omega)
   rintro _ ⟨bO,bP,bQ,bR,rfl,_⟩ _ _ _ _
   refine sw<|mw (.tuple #[(vs bO ((FQ a.H (uN [a.Held,b])).1).length bP),(vs bQ ((FQ a.H (uN [a.Held,b])).2).length bR)]) ?_
   exact f2
  ·intro d d1
   rintro _ rfl _ rfl _ rfl _ rfl _ rfl _ ⟨d2,d3,rfl,d4⟩ _ ⟨d5,d6,rfl,_⟩
   have d7:=(show (uN [a.Held,b]).length=a.Held.length+b.length by simp only [uN,List.flatten_cons,List.flatten_nil,List.length_append,List.length_cons,List.length_nil];omega)
   rintro _ ⟨bS,bT,d8,d9,rfl,_⟩ _ rfl _ _ _
   refine sw<|pu (vs bS ((FQ a.H (uN [a.Held,b])).1).length bT) wN ?_
   exact f2
  ·intro d dA
   rintro _ rfl _ rfl _ rfl _ rfl _ rfl _ ⟨dB,dC,rfl,dD⟩ _ ⟨dE,dG,rfl,_⟩
   have dH:=(show (uN [a.Held,b]).length=a.Held.length+b.length by simp only [uN,List.flatten_cons,List.flatten_nil,List.length_append,List.length_cons,List.length_nil];omega)
   rintro _ ⟨dI,dJ,bU,bW,rfl,_⟩ _ rfl _ _ _
   refine sw<|pu (vs bU ((FQ a.H (uN [a.Held,b])).2).length bW) wN ?_
   exact f2
  ·intro d dK
   rintro _ rfl _ rfl _ rfl _ rfl _ rfl _ ⟨dL,dM,rfl,dN⟩ _ ⟨dO,dP,rfl,_⟩
   have dQ:=(show (uN [a.Held,b]).length=a.Held.length+b.length by simp only [uN,List.flatten_cons,List.flatten_nil,List.length_append,List.length_cons,List.length_nil];omega)
   rintro _ ⟨bX,bY,dR,dS,rfl,_⟩ _ rfl _ rfl _ _
   refine sw<|aw (vs bX ((FQ a.H (uN [a.Held,b])).1).length bY) ?_
   exact f2
 ·intro d J
  have aD:=Y.extk J
  rintro _ rfl _ rfl _ rfl _ rfl _ rfl _ ⟨dU,dV,rfl,dW⟩ _ ⟨dX,dY,rfl,_⟩
  have dZ:=(show (uN [a.Held,b]).length=a.Held.length+b.length by simp only [uN,List.flatten_cons,List.flatten_nil,List.length_append,List.length_cons,List.length_nil];omega)
  rintro _ ⟨aE,aF,ao,ap,rfl,bZ,ca,cb,cc⟩ _ rfl _ rfl _ rfl _ rfl
  refine sw<|aw (vs ao ((FQ a.H (uN [a.Held,b])).2).length ap) ?_
  refine uD<|rg<|uK<|Ga ([(39,[],[],(fun _ v w=>∃ a0:Addr,v=.slice (some a0) 0 0∧w.ownsRow d.heap.size 3 1 (.slice (some a0) 0 0) 0 [])),(40,[],[],(fun _ v _=>v=(vs aE ((FQ a.H (uN [a.Held,b])).1).length aF))),(41,[],[0,1],(fun _ v w=>∃ (f:Option Addr) (p:Nat),v=.slice f ((FQ a.H (uN [a.Held,b])).1).length p∧w.ownsRow d.heap.size 3 1 (.slice f ((FQ a.H (uN [a.Held,b])).1).length p) ((FQ a.H (uN [a.Held,b])).1).length (((FQ a.H (uN [a.Held,b])).1).map iV)∧((FQ a.H (uN [a.Held,b])).1).length≤1073741824∧Aps [(f,p)])),(42,[],[],(fun _ v _=>v=(vs ao ((FQ a.H (uN [a.Held,b])).2).length ap))),(43,[41],[0,1,2,3],(fun e v w=>Rt w d.heap.size v ((FQ a.H (uN [a.Held,b])).2) (fun am=>Ap (sp (e 41)) am))),(44,[],[],(fun _ v _=>v=(vp l 2))),(45,[],[5],(fun _ v _=>v=(vi a.N))),(46,[],[],(fun _ v _=>v=(vs x b.length y))),(47,[],[7],(fun _ v _=>v=(vi (b.length:Int)))),(48,[],[5,6,7,8],(fun _ v _=>v=(vi (a.N+(b.length:Int)))))]:GV) (fun _ M=>Keep d M) [] GU rfl (by kernel_rfl) (by kernel_rfl) ?_ (fun _ _ h=>h) (fun _ _ _ _ h _ k=>h.trans k) trivial ?_ ?_ ?_
  ·exact ⟨(fun e v w A h hk=>by obtain ⟨i,he,j⟩:=h;exact ⟨i,he,gc j hk⟩),hE,⟨hV,hE,⟨(fun e v w A h hk=>by obtain ⟨i,q,he,j,r,hap⟩:=h;exact ⟨i,q,he,gc j hk,r,hap⟩),hE,⟨hV,hE,⟨(fun e v w A h hk=>by obtain ⟨i,q,he,j,r,hap,hx⟩:=h;exact ⟨i,q,he,gc j hk,r,hap,hx⟩),(fun O P v w hx h=>by have cd:=hx 41 (by simp);simp only [cd] at h;exact h),⟨hV,hE,⟨hV,hE,⟨hV,hE,⟨hV,hE,⟨hV,hE,trivial⟩⟩⟩⟩⟩⟩⟩⟩⟩⟩
  ·exact trivial
  ·refine ⟨?_,⟨?_,⟨?_,⟨?_,⟨?_,⟨?_,⟨?_,⟨?_,⟨?_,⟨?_,trivial⟩⟩⟩⟩⟩⟩⟩⟩⟩⟩
   ·intro _ g ce _
    rintro _ _ _ _ _ _ _ _ _ _
    refine sw<|Gc wN rfl rfl uQ (fun w=>by kernel_rfl) ?_
    intro ea aq cg ci
    exact FY cg ⟨_,rfl,tA ci ce.size⟩
   ·intro _ g ec _
    rintro _ _ _ _ _ _ _ _ _ _
    refine sw<|mw (vs aE ((FQ a.H (uN [a.Held,b])).1).length aF) ?_
    exact f1
   ·intro _ g aG _
    rintro _ ⟨ed,rfl,cj⟩ _ rfl _ _ _ _ _ _ _ _
    refine sw ?_
    have ck:=(bZ.kp aG)
    refine TJ ((FQ a.H (uN [a.Held,b])).1) wN uQ cj ck aG.size ?_
    intro ee ef aq cm cn eg
    exact FY cm ⟨_,_,rfl,cn,ca,⟨trivial,trivial⟩⟩
   ·intro _ g eh _
    rintro _ _ _ _ _ _ _ _ _ _
    refine sw<|mw (vs ao ((FQ a.H (uN [a.Held,b])).2).length ap) ?_
    exact f1
   ·intro _ g aH _
    rintro _ ⟨ej,rfl,ek⟩ _ rfl _ ⟨em,en,rfl,co,eo,-⟩ _ rfl _ _ _ _ _ _
    refine sw ?_
    have cp:=(cb.kp aH)
    refine cl wN (IR g _ ((FQ a.H (uN [a.Held,b])).2) (FV cp cc)) ?_
    rintro _ aq ⟨cq,⟨ep,er,rfl,aI,cr,cs⟩⟩
    exact FY cq ⟨_,_,rfl,(tA aI aH.size),cr,cs,(Ap.lt co aI (Nat.le_refl _))⟩
   ·intro _ g es _
    rintro _ _ _ _ _ _ _ _ _ _
    refine sw<|pu (vp l 2) wN ?_
    exact f1
   ·intro _ g cu _
    rintro _ _ _ _ _ _ rfl _ _ _ _
    refine sw ?_
    have cv:=((Z.kp J).kp cu)
    refine ld (vi a.N) wN tE cv ?_
    exact f1
   ·intro _ g et _
    rintro _ _ _ _ _ _ _ _ _ _
    refine sw<|mw (vs x b.length y) ?_
    exact f1
   ·intro _ g cw _
    have cx:=aD.extk cw
    rintro _ _ _ _ _ _ _ _ rfl _ _
    refine sw<|ln wN tD (aj.from0 cx) ?_
    exact f1
   ·intro _ g eu _
    rintro _ _ _ _ _ _ rfl _ rfl _ rfl _ rfl _
    refine sw<|ar (a.N+(b.length:Int)) wN ?_
    exact f1
  ·intro _ g aJ
   rintro _ ⟨ew,rfl,ex⟩ _ rfl _ ⟨aa,ab,rfl,aK,cy,-⟩ _ rfl _ ⟨ac,ad,rfl,aL,cz,ey,c0⟩ _ rfl _ rfl _ rfl _ rfl _ rfl
   refine sw<|pu (va [(vs aa ((FQ a.H (uN [a.Held,b])).1).length ab),(vs ac (((FQ a.H (uN [a.Held,b])).2)).length ad),(vi (a.N+(b.length:Int)))]) wN ?_
   have c1:=(((az.kp D).kp J).kp aJ)
   refine sv [(vs aa ((FQ a.H (uN [a.Held,b])).1).length ab),(vs ac (((FQ a.H (uN [a.Held,b])).2)).length ad),(vi (a.N+(b.length:Int)))] wN Ih c1 ?_
   intro aq au c2 ez
   have c3:=(aD.extk aJ).ext au (fun k hk=>by subst hk;exact nT E.size ay)
   refine n3 ?_
   have c4:=(tC aK au (ne1 aK (nL R (z2 D J))))
   have c5:=(tC aL au (ne1 aL (nL R (z2 D J))))
   refine Jz (.inl rfl) (va [(vs aa ((FQ a.H (uN [a.Held,b])).1).length ab),(vs ac (((FQ a.H (uN [a.Held,b])).2)).length ad),(vi (a.N+(b.length:Int)))]) rfl (HL [(vs aa ((FQ a.H (uN [a.Held,b])).1).length ab),(vs ac (((FQ a.H (uN [a.Held,b])).2)).length ad),(vi (a.N+(b.length:Int)))] rfl c2 JV Ih) ?_
   refine ⟨c3.keep0,?_⟩
   simp only [Hs,o,G,cond_true,cond_false]
   exact ⟨_,_,_,_,rfl,(tA c4 (z4 E B D J)),cy,(tA c5 (z4 E B D J)),cz,⟨⟨c0,trivial⟩,⟨trivial,trivial⟩⟩⟩

theorem NQ (e:World) (B:Value) (d:List UInt8) (S:HP e B d) (b:Int) (a:Int) (aj:d.length≤1000000):Fn Tryz.prog 147 #[B,(vi b),(vi a)] e (fun v o=>Keep e o∧JF o e.heap.size v (HE d b a)):=by
 obtain ⟨C,D,rfl,T,E⟩:=S
 refine FI (n:=35) [(vs C d.length D),(vi b),(vi a)] Tryz.func147 rfl rfl ?_
 refine sr<|aw (vs none 0 0) ?_
 refine nx<|Gc wN rfl rfl tD (fun w=>by kernel_rfl) ?_
 intro ak am y V
 have F:=(Ch.base e).extk y
 refine mw (vs C d.length D) ?_
 refine ap0 d wN tD V (T.from0 F) y.size ?_
 intro f g A G H an
 have I:=F.extk G
 refine aw (vs f d.length g) ?_
 refine n4<|jT1 [(1,(vi b)),(2,(vi a)),(6,(vs none 0 0)),(7,(vs f d.length g))] (HE d b a=d) ?_ fun J=>?_
 ·intro W K L ao
  have X:=I.extk L
  refine sr<|mw (vs f d.length g) ?_
  refine aw (vs f d.length g) ?_
  refine n1 ?_
  have Y:=(gc H L)
  refine rt (vs f d.length g) ?_
  refine ⟨X.keep0,?_⟩
  rw [W]
  exact ⟨_,_,rfl,Y,E,⟨trivial,trivial⟩⟩
 refine mw (vi a) ?_
 refine pu (vb (decide (a < 1))) wN ?_
 refine mw (vb (decide (a < 1))) ?_
 rcases bt (decide (a < 1)) with h|h
 ·have ap:=dT h
  iterate 2 refine sk h ?_
  refine pk (vb true) wN h ?_
  refine n2<|ct T1 ?_
  have Z:HE d b a=d:=by first|exact Ka (by omega)|exact Kb (by omega) (by omega) (by omega)
  exact wj (J Z _ (Ch.refl _ _))
 have aq:=dF h
 refine mv (vi a) (wS h) ?_
 refine pu (vb (decide (6 < a))) (wS h) ?_
 refine pf (vb (decide (6 < a))) wN h ?_
 refine n2 ?_
 rcases bt (decide (6 < a)) with p|p
 ·have au:=dT p
  refine ct p ?_
  have aa:HE d b a=d:=by first|exact Ka (by omega)|exact Kb (by omega) (by omega) (by omega)
  exact wj (J aa _ (Ch.refl _ _))
 have av:=dF p
 refine cf p<|y2<|mw (vi a) ?_
 refine ar (a - 1) wN ?_
 refine aw (vi (a - 1)) ?_
 refine uD<|rg<|uJ ?_
 have M:(d:List UInt8)=d++Ix b a 0:=by simp [Ix]
 refine Ge [(1,(vi b)),(6,(vs none 0 0)),(7,(.slice f (d++Ix b a 0).length g)),(8,(vi (a - 1 - ((0:Nat):Int))))] ⟨rfl,rfl,(cA (fun l:List UInt8=>Value.slice f l.length g) M),(cA (Value.int .i64) (show ((a - 1):Int)=(a - 1 - ((0:Nat):Int)) by omega)),trivial⟩ (fun e' o=>∃ (j:Nat) (N:Env) (i:Option Addr) (m:Nat),e'=pt N [(1,(vi b)),(6,(vs none 0 0)),(7,(.slice i (d++Ix b a j).length m)),(8,(vi (a - 1 - ((j:Nat):Int))))]∧Ch (fun k=>e.heap.size≤k) e o∧Ch (fun k=>e.heap.size≤k) A o∧((j:Nat):Int)≤a∧(World.ownsRow o e.heap.size 5 1 (.slice i (d++Ix b a j).length m) (d++Ix b a j).length ((d++Ix b a j).map bV)∧(d++Ix b a j).length≤1073741824)) (fun e' _=>((intOf (e' 8))+1).toNat) ?_ ?_
 ·exact fun u=>⟨0,u,f,g,rfl,I,(Ch.refl (fun k=>e.heap.size≤k) A),(by omega),(M ▸ ⟨H,E⟩)⟩
 ·rintro _ K ⟨j,N,i,m,rfl,O,P,ax,⟨r,ab⟩⟩
  have hpl:=JJ b a j
  refine uK<|sr<|mw (vi (a - 1 - ((j:Nat):Int))) ?_
  refine pu (vb (decide (0≤(a - 1 - ((j:Nat):Int))))) wN ?_
  refine n2 ?_
  rcases bf (decide (0≤(a - 1 - ((j:Nat):Int)))) with q|q
  ·have ay:=dF q
   refine cf q<|Gn<|uA<|uA<|wr<|rg<|sr<|mw (vs i (d++Ix b a j).length m) ?_
   refine aw (vs i (d++Ix b a j).length m) ?_
   refine n3<|rt (vs i (d++Ix b a j).length m) ?_
   refine ⟨O.keep0,?_⟩
   have ac:HE d b a=(d++Ix b a j):=by first|exact Ka (by omega)|exact Kb (by omega) (by omega) (by omega)
   rw [ac]
   exact ⟨_,_,rfl,r,ab,⟨trivial,trivial⟩⟩
  have az:=dT q
  refine ct q<|FR<|rg<|uK<|uJ<|uG ?_
  refine mw (vs i (d++Ix b a j).length m) ?_
  refine mw (vi b) ?_
  refine mw (vi (a - 1 - ((j:Nat):Int))) ?_
  refine ar (8*(a - 1 - ((j:Nat):Int))) wN ?_
  refine Mp b (8*(a - 1 - ((j:Nat):Int))) wN rfl rfl rfl rfl rfl (by omega) (by omega) ?_
  refine Im (b / (2:Int) ^ ((8*(a - 1 - ((j:Nat):Int)))).toNat) 255 256 8 wN rfl rfl (by decide) (by decide) (by decide) (by kernel_rfl) ?_
  refine IU ((b / (2:Int) ^ ((8*(a - 1 - ((j:Nat):Int)))).toNat) % 256) wN rfl rfl (by kernel_rfl) ?_
  refine ltB ([(by8 ((b / (2:Int) ^ ((8*(a - 1 - ((j:Nat):Int)))).toNat) % 256))]:List UInt8) wN tD ?_
  intro a0 a1 a2 s ad
  have ae:=(gc r s)
  refine apB (d++Ix b a j) ([(by8 ((b / (2:Int) ^ ((8*(a - 1 - ((j:Nat):Int)))).toNat) % 256))]:List UInt8) wN tD ae (Rd.of_own ad) (z4 y G P s) ?_
  intro t x a3 Q af a4 ah
  have ai:=(O.extk s).ext Q (fun k hk=>nT (Nat.le_refl e.heap.size) (uI r k hk).1)
  refine aw (vs t ((d++Ix b a j)++([(by8 ((b / (2:Int) ^ ((8*(a - 1 - ((j:Nat):Int)))).toNat) % 256))]:List UInt8)).length x) ?_
  refine uD<|uB<|rg<|uG ?_
  refine mw (vi (a - 1 - ((j:Nat):Int))) ?_
  refine ar ((a - 1 - ((j:Nat):Int)) - 1) wN ?_
  refine aw (vi ((a - 1 - ((j:Nat):Int)) - 1)) ?_
  refine uD ?_
  have R:(((d++Ix b a j)++([(by8 ((b / (2:Int) ^ ((8*(a - 1 - ((j:Nat):Int)))).toNat) % 256))]:List UInt8)):List UInt8)=d++Ix b a (j+1):=by simp [Ix]
  refine FX (w0:=K) [(1,(vi b)),(6,(vs none 0 0)),(7,(.slice t (d++Ix b a (j+1)).length x)),(8,(vi (a - 1 - (((j+1):Nat):Int))))] ?_ ?_ ?_
  · exact ⟨rfl,rfl,(cA (fun l:List UInt8=>Value.slice t l.length x) R),(cA (Value.int .i64) (show (((a - 1 - ((j:Nat):Int)) - 1):Int)=(a - 1 - (((j+1):Nat):Int)) by omega)),trivial⟩
  · exact fun u=>⟨(j+1),u,t,x,rfl,ai,((((Ch.refl (fun k=>e.heap.size≤k) A).ext P (fun k hk=>hk)).extk s).ext Q (fun k hk=>nT (Nat.le_refl e.heap.size) (uI r k hk).1)),(by omega),(R ▸ ⟨af,ah⟩)⟩
  · show ((a - 1 - (((j+1):Nat):Int))+1).toNat < ((a - 1 - ((j:Nat):Int))+1).toNat;omega

theorem Ve (b:World) (a:Int) :Fn Tryz.prog 128 #[(vi a)] b (fun v d=>Keep b d∧JF d b.heap.size v (Hk a)):=by
 refine FI (n:=25) [(vi a)] Tryz.func128 rfl rfl ?_
 refine sr<|aw (vs none 0 0) ?_
 refine n4<|mw (vi a) ?_
 refine cl wN (Hc b a 0 1048576) ?_
 rintro _ h ⟨o,rfl⟩
 have B:=(Ch.base b).extk o
 refine pu (vb (!(i_within a 0 1048576))) wN ?_
 refine n2 ?_
 rcases bf (i_within a 0 1048576) with i|i
 ·have aj:=Gh i
  refine ct (cA not i)<|sr<|aw (vs none 0 0) ?_
  refine n1<|rt (vs none 0 0) ?_
  refine ⟨B.keep0,?_⟩
  have N:Hk a=[]:=by first|exact Mt (by omega)|exact SL (by omega) (by omega) (by omega) (by omega)
  rw [N]
  exact ⟨_,_,rfl,(by first|exact FL _ _ _ _|exact OLv.nil _ _ _ _),(by simp),⟨trivial,trivial⟩⟩
 have ak:=FU i
 refine cf (cA not i)<|y1<|ltB ([128]:List UInt8) wN tD ?_
 intro p q A r O
 have P:=B.extk r
 refine aw (vs p ([128]:List UInt8).length q) ?_
 refine uD<|rg<|uK<|uJ ?_
 have C:(([128]:List UInt8):List UInt8)=[(128:UInt8)]++List.replicate 0 (0:UInt8):=by first|rfl|(rw [List.replicate_succ',List.append_assoc])
 refine Ge [(0,(vi a)),(2,(vs none 0 0)),(3,(.slice p ([(128:UInt8)]++List.replicate 0 (0:UInt8)).length q))] ⟨rfl,rfl,(cA (fun l:List UInt8=>Value.slice p l.length q) C),trivial⟩ (fun e' d=>∃ (j:Nat) (D:Env) (e:Option Addr) (f:Nat),e'=pt D [(0,(vi a)),(2,(vs none 0 0)),(3,(.slice e ([(128:UInt8)]++List.replicate j (0:UInt8)).length f))]∧Ch (fun k=>b.heap.size≤k) b d∧Ch (fun k=>h.heap.size≤k) A d∧((j:Nat):Int)≤(64 - (a+9) % 64) % 64∧(World.ownsRow d h.heap.size 5 1 (.slice e ([(128:UInt8)]++List.replicate j (0:UInt8)).length f) ([(128:UInt8)]++List.replicate j (0:UInt8)).length (([(128:UInt8)]++List.replicate j (0:UInt8)).map bV)∧([(128:UInt8)]++List.replicate j (0:UInt8)).length≤1073741824)) (fun e' _=>100 - (lenOf (e' 3))) ?_ ?_
 ·exact fun u=>⟨0,u,p,q,rfl,P,(Ch.refl (fun k=>h.heap.size≤k) A),(by omega),(C ▸ ⟨O,(by simp)⟩)⟩
 ·rintro _ Q ⟨j,D,e,f,rfl,E,s,am,⟨g,an⟩⟩
  have hpl:([(128:UInt8)]++List.replicate j (0:UInt8)).length=1+j:=by rw [List.length_append,List.length_replicate];rfl
  refine uK<|sr<|mw (vi a) ?_
  refine mw (vs e ([(128:UInt8)]++List.replicate j (0:UInt8)).length f) ?_
  refine ln wN tD (Rd.of_own g) ?_
  refine ar (a+(([(128:UInt8)]++List.replicate j (0:UInt8)).length:Int)) wN ?_
  refine ar ((a+(([(128:UInt8)]++List.replicate j (0:UInt8)).length:Int))+8) wN ?_
  refine Ig ((a+(([(128:UInt8)]++List.replicate j (0:UInt8)).length:Int))+8) 64 wN rfl rfl (by kernel_rfl) (by first|omega|assumption) ?_
  refine pu (vb (!(decide ((((a+(([(128:UInt8)]++List.replicate j (0:UInt8)).length:Int))+8) % 64)=0)))) wN ?_
  refine n2 ?_
  rcases bf (decide ((((a+(([(128:UInt8)]++List.replicate j (0:UInt8)).length:Int))+8) % 64)=0)) with m|m
  ·have ao:=dF m
   refine ct (cA not m)<|FR<|rg<|uJ<|uG ?_
   refine mw (vs e ([(128:UInt8)]++List.replicate j (0:UInt8)).length f) ?_
   refine ltB ([0]:List UInt8) wN tD ?_
   intro ap aq R t S
   have T:=(gc g t)
   refine apB ([(128:UInt8)]++List.replicate j (0:UInt8)) ([0]:List UInt8) wN tD T (Rd.of_own S) (z3 r s t) ?_
   intro w x F G V au W
   have X:=(E.extk t).ext G (fun k hk=>nT o.size (uI g k hk).1)
   refine aw (vs w (([(128:UInt8)]++List.replicate j (0:UInt8))++([0]:List UInt8)).length x) ?_
   refine uD<|uB ?_
   have H:((([(128:UInt8)]++List.replicate j (0:UInt8))++([0]:List UInt8)):List UInt8)=[(128:UInt8)]++List.replicate (j+1) (0:UInt8):=by first|rfl|(rw [List.replicate_succ',List.append_assoc])
   refine FX (w0:=Q) [(0,(vi a)),(2,(vs none 0 0)),(3,(.slice w ([(128:UInt8)]++List.replicate (j+1) (0:UInt8)).length x))] ?_ ?_ ?_
   · exact ⟨rfl,rfl,(cA (fun l:List UInt8=>Value.slice w l.length x) H),trivial⟩
   · exact fun u=>⟨(j+1),u,w,x,rfl,X,((((Ch.refl (fun k=>h.heap.size≤k) A).ext s (fun k hk=>hk)).extk t).ext G (fun k hk=>nT (Nat.le_refl h.heap.size) (uI g k hk).1)),(by omega),(H ▸ ⟨V,W⟩)⟩
   · show 100 - ([(128:UInt8)]++List.replicate (j+1) (0:UInt8)).length < 100 - ([(128:UInt8)]++List.replicate j (0:UInt8)).length;simp only [List.length_append,List.length_cons,List.length_nil,List.length_replicate];omega
  have av:=dT m
  refine cf (cA not m)<|Gn<|uA<|uA<|wr<|rg<|sr<|mw (vs e ([(128:UInt8)]++List.replicate j (0:UInt8)).length f) ?_
  refine ltB ([0,0]:List UInt8) wN tD ?_
  intro ax ay R y Y
  have Z:=(gc g y)
  refine apB ([(128:UInt8)]++List.replicate j (0:UInt8)) ([0,0]:List UInt8) wN tD Z (Rd.of_own Y) (z3 r s y) ?_
  intro I J F K aa az ab
  have ac:=(E.extk y).ext K (fun k hk=>nT o.size (uI g k hk).1)
  refine aw (vs I (([(128:UInt8)]++List.replicate j (0:UInt8))++([0,0]:List UInt8)).length J) ?_
  refine nx<|mw (vs I (([(128:UInt8)]++List.replicate j (0:UInt8))++([0,0]:List UInt8)).length J) ?_
  refine mw (vi a) ?_
  refine ar (8*a) wN ?_
  refine cl wN (NQ F _ (([(128:UInt8)]++List.replicate j (0:UInt8))++([0,0]:List UInt8)) (FV (Rd.of_own aa) ab) (8*a) 6 (by first|omega|(simp;done)|(simp;omega)|(simp only [List.length_append,List.length_cons,List.length_nil] at *;omega))) ?_
  rintro _ a0 ⟨ad,⟨L,M,rfl,ae,af,a1⟩⟩
  have ah:=ac.extk ad
  have a2:=Iq (([(128:UInt8)]++List.replicate j (0:UInt8))++([0,0]:List UInt8)) (8*a) 6
  refine aw (vs L (HE (([(128:UInt8)]++List.replicate j (0:UInt8))++([0,0]:List UInt8)) (8*a) 6).length M) ?_
  refine n3<|rt (vs L (HE (([(128:UInt8)]++List.replicate j (0:UInt8))++([0,0]:List UInt8)) (8*a) 6).length M) ?_
  refine ⟨ah.keep0,?_⟩
  have ai:Hk a=(HE (([(128:UInt8)]++List.replicate j (0:UInt8))++([0,0]:List UInt8)) (8*a) 6):=by first|exact Mt (by omega)|exact SL (by omega) (by omega) (by omega) (by omega)
  rw [ai]
  exact ⟨_,_,rfl,(tA ae (z5 o r s y K)),af,⟨trivial,trivial⟩⟩

theorem Ox (b:World) (s:Value) (a:List Int) (J:RC b s a) (P:a.length=8):Fn Tryz.prog 129 #[s] b (fun v f=>Keep b f∧JF f b.heap.size v (GN a)):=by
 obtain ⟨g,h,rfl,p,Q⟩:=J
 refine FI (n:=18) [(vs g a.length h)] Tryz.func129 rfl rfl ?_
 refine sr<|aw (vs none 0 0) ?_
 refine nx<|Gc wN rfl rfl tD (fun w=>by kernel_rfl) ?_
 intro q r t K
 have y:=(Ch.base b).extk t
 refine aw (vs (some q) 0 0) ?_
 refine n4<|mw (vs g a.length h) ?_
 refine ln wN uQ (p.from0 y) ?_
 refine mw (vi 0) ?_
 refine uD<|rg<|uJ ?_
 have A:([]:List UInt8)=GN (a.take 0):=by rfl
 have B:0=(GN (a.take 0)).length:=by rw [← A];try (first|rfl|simp only [List.length_set]|simp)
 refine Ge [(2,(vs none 0 0)),(3,(.slice (some q) (GN (a.take 0)).length 0)),(7,(vs g a.length h)),(8,(vi (a.length:Int))),(9,(vi ((0:Nat):Int)))] ⟨rfl,rfl,rfl,rfl,(cA (Value.int .i64) (show (0:Int)=((0:Nat):Int) by omega)),trivial⟩ (fun e' f=>∃ (k:Nat) (C:Env) (d:Option Addr) (e:Nat),e'=pt C [(2,(vs none 0 0)),(3,(.slice d (GN (a.take k)).length e)),(7,(vs g a.length h)),(8,(vi (a.length:Int))),(9,(vi ((k:Nat):Int)))]∧Ch (fun k=>b.heap.size≤k) b f∧Ch (fun k=>b.heap.size≤k) r f∧k≤a.length∧(World.ownsRow f b.heap.size 5 1 (.slice d (GN (a.take k)).length e) (GN (a.take k)).length ((GN (a.take k)).map bV)∧(GN (a.take k)).length≤1073741824)) (fun e' _=>a.length - ((intOf (e' 9))).toNat) ?_ ?_
 ·exact fun u=>⟨0,u,(some q),0,rfl,y,(Ch.refl (fun k=>b.heap.size≤k) r),(by omega),⟨(by rw [← B,← A];exact K),(by rw [← B];first|exact (by simp)|(simp only [List.length_append,List.length_take,List.length_replicate];omega))⟩⟩
 ·rintro _ D ⟨k,C,d,e,rfl,j,E,R,⟨F,G⟩⟩
  have hwl:=Kt (a.take k)
  have htl:(a.take k).length=min k a.length:=List.length_take
  refine sr<|pu (vb (decide (((k:Nat):Int) < (a.length:Int)))) wN ?_
  refine uD<|rg<|uK ?_
  rcases bf (decide (((k:Nat):Int) < (a.length:Int))) with i|i
  ·have S:=dF i
   refine cf i<|Gn<|uA<|uA<|wr<|rg<|sr<|mw (vs d (GN (a.take k)).length e) ?_
   refine aw (vs d (GN (a.take k)).length e) ?_
   refine n3<|rt (vs d (GN (a.take k)).length e) ?_
   refine ⟨j.keep0,?_⟩
   have L:GN a=(GN (a.take k)):=by exact Nn (by omega)
   rw [L]
   exact ⟨_,_,rfl,F,G,⟨trivial,trivial⟩⟩
  have T:=dT i
  refine ct i<|FR<|rg<|uK<|uJ<|sr<|ix wN ((k:Nat):Int) uQ (p.from0 j) ?_
  refine ei (x:=a) k wN tE (p.from0 j) ?_
  refine aw (vi (a.getD k 0)) ?_
  refine uD<|rg<|uG ?_
  refine mw (vs d (GN (a.take k)).length e) ?_
  refine mw (vi (a.getD k 0)) ?_
  refine cl wN (NQ D _ (GN (a.take k)) (FV (Rd.of_own F) G) (a.getD k 0) 4 (by first|omega|(simp;done)|(simp;omega)|(simp only [List.length_append,List.length_cons,List.length_nil] at *;omega))) ?_
  rintro _ V ⟨H,⟨m,o,rfl,M,N,W⟩⟩
  have O:=j.extk H
  have X:=Iq (GN (a.take k)) (a.getD k 0) 4
  refine aw (vs m (HE (GN (a.take k)) (a.getD k 0) 4).length o) ?_
  refine uD<|uB<|rg<|uG ?_
  refine ar (((k:Nat):Int)+1) wN ?_
  refine mw (vi (((k:Nat):Int)+1)) ?_
  refine uD ?_
  have I:((HE (GN (a.take k)) (a.getD k 0) 4):List UInt8)=GN (a.take (k+1)):=by exact Mo (by omega)
  refine FX (w0:=D) [(2,(vs none 0 0)),(3,(.slice m (GN (a.take (k+1))).length o)),(7,(vs g a.length h)),(8,(vi (a.length:Int))),(9,(vi (((k+1):Nat):Int)))] ?_ ?_ ?_
  · exact ⟨rfl,(cA (fun l:List UInt8=>Value.slice m l.length o) I),rfl,rfl,(cA (Value.int .i64) (show ((((k:Nat):Int)+1):Int)=(((k+1):Nat):Int) by omega)),trivial⟩
  · exact fun u=>⟨(k+1),u,m,o,rfl,O,(((Ch.refl (fun k=>b.heap.size≤k) r).ext E (fun k hk=>hk)).extk H),(by omega),(I ▸ ⟨(tA M (z2 t E)),N⟩)⟩
  · show a.length - ((((k+1):Nat):Int)).toNat < a.length - (((k:Nat):Int)).toNat;omega

def IK (a:PHash):(List UInt8):=bif (Ho a) then ((GN ((FQ a.H (uN [a.Held,(Hk a.N)])).1))) else ([])
theorem Ra (r:World) (I:Value) (a:PHash) (aa:Sz r I a) :Fn Tryz.prog 90 #[I] r (fun v J=>Keep r J∧JF J r.heap.size v (IK a)):=by
 obtain ⟨d,f,g,i,rfl,K,M,O,P⟩:=aa
 refine FI (n:=23) [(va (Lk a d f g i))] Tryz.func90 rfl rfl ?_
 refine sr<|bx (Lk a d f g i) wN ?_
 intro p s bc bd Q B
 have E:=(Ch.base r).extk Q
 refine aw (vs none 0 0) ?_
 refine n4<|lN (Lk a d f g i) wN JV Ih B ?_
 refine cl wN (Pb s _ a (OT (K.from0 E) M (O.from0 E) P)) ?_
 rintro _ F ⟨t,rfl⟩
 have C:=E.extk t
 refine pu (vb (!(Ho a))) wN ?_
 refine n2 ?_
 rcases bf (Ho a) with q|q
 ·refine ct (cA not q)<|sr<|aw (vs none 0 0) ?_
  refine n1<|rt (vs none 0 0) ?_
  refine ⟨C.keep0,?_⟩
  simp only [IK,q,cond_true,cond_false]
  exact ⟨_,_,rfl,(by first|exact FL _ _ _ _|exact OLv.nil _ _ _ _),(by simp),⟨trivial,trivial⟩⟩
 have be:=Ly q
 refine cf (cA not q)<|FR<|rg<|uK<|IM ([(9,[],[],(fun _ v _=>v=(vp p 0))),(10,[],[0],(fun _ v _=>v=(vs d a.H.length f))),(11,[],[],(fun _ v _=>v=(vp p 1))),(12,[],[2],(fun _ v _=>v=(vs g a.Held.length i))),(13,[],[],(fun _ v _=>v=(vp p 2))),(14,[],[4],(fun _ v _=>v=(vi a.N))),(15,[],[4,5],(fun _ v w=>JF w F.heap.size v (Hk a.N))),(16,[15],[2,3,4,5,6],(fun e v w=>∃ (d:Option Addr) (u:Nat),v=.slice d 2 u∧w.ownsRow F.heap.size 22 1 (.slice d 2 u) 2 [(vs g a.Held.length i),(e 15)])),(17,[15],[2,3,4,5,6,7],(fun e v w=>Rt w F.heap.size v (uN [a.Held,(Hk a.N)]) (fun ab=>Ap (sp (e 15)) ab))),(18,[],[0,1,2,3,4,5,6,7,8],(fun _ v w=>∃ (d:Option Addr) (u:Nat) (R:Option Addr) (f:Nat),v=.tuple #[.slice d ((FQ a.H (uN [a.Held,(Hk a.N)])).1).length u,.slice R ((FQ a.H (uN [a.Held,(Hk a.N)])).2).length f]∧Rd w 1 (.slice d ((FQ a.H (uN [a.Held,(Hk a.N)])).1).length u) ((FQ a.H (uN [a.Held,(Hk a.N)])).1).length (((FQ a.H (uN [a.Held,(Hk a.N)])).1).map iV)∧((FQ a.H (uN [a.Held,(Hk a.N)])).1).length≤1073741824∧Rd w 1 (.slice R ((FQ a.H (uN [a.Held,(Hk a.N)])).2).length f) ((FQ a.H (uN [a.Held,(Hk a.N)])).2).length (((FQ a.H (uN [a.Held,(Hk a.N)])).2).map bV)∧((FQ a.H (uN [a.Held,(Hk a.N)])).2).length≤1073741824)),(8,[18],[0,1,2,3,4,5,6,7,8,9],(fun e v _=>v=(.tuple #[(Gl (e 18) 0),(Gl (e 18) 1)]))),(19,[18],[0,1,2,3,4,5,6,7,8,9,10],(fun e v _=>v=(Gl (e 18) 0))),(20,[18],[0,1,2,3,4,5,6,7,8,9,10],(fun e v _=>v=(Gl (e 18) 1))),(3,[18],[0,1,2,3,4,5,6,7,8,9,10,11],(fun e v _=>v=(Gl (e 18) 0)))]:GV) GU rfl (by kernel_rfl) (by kernel_rfl) ?_ ?_ ?_
 ·exact ⟨hV,hE,⟨hV,hE,⟨hV,hE,⟨hV,hE,⟨hV,hE,⟨hV,hE,⟨(fun e v w s h hk=>by obtain ⟨j,k,he,l,x,hap⟩:=h;exact ⟨j,k,he,gc l hk,x,hap⟩),hE,⟨(fun e v w s h hk=>by obtain ⟨j,k,he,l⟩:=h;exact ⟨j,k,he,gc l hk⟩),(fun y A v w hx h=>by have G:=hx 15 (by simp);simp only [G] at h;exact h),⟨(fun e v w s h hk=>by obtain ⟨j,k,he,l,x,hap,hx⟩:=h;exact ⟨j,k,he,gc l hk,x,hap,hx⟩),(fun y A v w hx h=>by have G:=hx 15 (by simp);simp only [G] at h;exact h),⟨(fun e v w s h hk=>by obtain ⟨j,k,ac,ad,he,l,x,ae,af⟩:=h;exact ⟨j,k,ac,ad,he,Rd.kp l hk,x,Rd.kp ae hk,af⟩),hE,⟨hV,(fun y A v w hx h=>by have o:=hx 18 (by simp);simp only [o] at h;exact h),⟨hV,(fun y A v w hx h=>by have o:=hx 18 (by simp);simp only [o] at h;exact h),⟨hV,(fun y A v w hx h=>by have o:=hx 18 (by simp);simp only [o] at h;exact h),⟨hV,(fun y A v w hx h=>by have o:=hx 18 (by simp);simp only [o] at h;exact h),trivial⟩⟩⟩⟩⟩⟩⟩⟩⟩⟩⟩⟩⟩⟩
 ·refine ⟨?_,⟨?_,⟨?_,⟨?_,⟨?_,⟨?_,⟨?_,⟨?_,⟨?_,⟨?_,⟨?_,⟨?_,⟨?_,⟨?_,trivial⟩⟩⟩⟩⟩⟩⟩⟩⟩⟩⟩⟩⟩⟩
  ·intro b bg
   iterate 14 intro _
   refine sw<|pu (vp p 0) wN ?_
   exact f2
  ·intro b ah
   rintro _ rfl;iterate 13 intro _
   refine sw ?_
   have ai:=((B.kp t).kp ah)
   refine ld (vs d a.H.length f) wN GO ai ?_
   exact f2
  ·intro b bh
   iterate 14 intro _
   refine sw<|pu (vp p 1) wN ?_
   exact f2
  ·intro b aj
   rintro _ _ _ rfl _ _ _ _ _ _ _ _ _ _ _
   refine sw ?_
   have ak:=((B.kp t).kp aj)
   refine ld (vs g a.Held.length i) wN uH ak ?_
   exact f2
  ·intro b bi
   iterate 14 intro _
   refine sw<|pu (vp p 2) wN ?_
   exact f2
  ·intro b am
   rintro _ _ _ _ _ rfl _ _ _ _ _ _ _ _ _
   refine sw ?_
   have an:=((B.kp t).kp am)
   refine ld (vi a.N) wN tE an ?_
   exact f2
  ·intro b ao
   rintro _ _ _ _ _ rfl _ rfl _ _ _ _ _ _ _ _
   refine sw<|cl wN (Ve b a.N) ?_
   rintro _ D ⟨ap,⟨bj,bk,rfl,aq,au,av⟩⟩
   have bl:=IC a.N
   exact JO ap ⟨_,_,rfl,(tA aq ao.size),au,av⟩
  ·intro b ax
   rintro _ _ _ rfl _ rfl _ rfl _ rfl _ ⟨ay,az,rfl,_⟩
   have bm:=IC a.N
   rintro _ _ _ _ _ _ _
   refine sw<|JS [(vs g a.Held.length i),(vs ay (Hk a.N).length az)] wN rfl rfl IW (m:=2) rfl (by simp only [maxLen];omega) (fun w=>by kernel_rfl) ?_
   intro bn D a0 S
   obtain ⟨bo,bp,rfl⟩:=Hg S
   exact JO a0 ⟨_,_,rfl,tA S ax.size⟩
  ·intro b T
   have a1:=C.extk T
   rintro _ _ _ rfl _ rfl _ rfl _ rfl _ ⟨a2,a3,rfl,V,a4,bq⟩
   have br:=IC a.N
   rintro _ ⟨bu,bv,rfl,a5⟩ _ _ _ _ _ _
   refine sw<|cl wN (JN b _ [a.Held,(Hk a.N)] (LO (RLv.mk (L:=Nj) [(a.Held,[(g,i)]),((Hk a.N),[(a2,a3)])] (Rd.of_own a5) rfl ⟨⟨⟨(O.from0 a1),P⟩,trivial⟩,⟨⟨⟨(Rd.of_own V),a4⟩,trivial⟩,trivial⟩⟩ (by first|decide|exact Nat.le_of_ble_eq_true rfl)) (by first|decide|exact Nat.le_of_ble_eq_true rfl)) (by first|omega|(rw [HN];omega)|(rw [HN];simp only [List.length_cons,List.length_nil,Gz];omega)|(rw [JK];simp only [List.length_cons,List.length_nil,Gz];omega)|(simp only [uN,List.flatten_cons,List.flatten_nil,List.length_append,List.length_cons,List.length_nil,Gz];omega))) ?_
   rintro _ D ⟨a6,⟨bw,bz,rfl,W,a7,a8⟩⟩
   have b0:=(show (uN [a.Held,(Hk a.N)]).length=a.Held.length+(Hk a.N).length by simp only [uN,List.flatten_cons,List.flatten_nil,List.length_append,List.length_cons,List.length_nil];omega)
   exact JO a6 ⟨_,_,rfl,(tA W T.size),a7,a8,(Ap.lt V W (Nat.le_refl _))⟩
  ·intro b a9
   have aA:=C.extk a9
   rintro _ rfl _ rfl _ rfl _ rfl _ rfl _ rfl _ ⟨b1,b2,rfl,_⟩
   have b3:=IC a.N
   rintro _ ⟨b4,b5,rfl,b6⟩ _ ⟨b7,b8,rfl,aB,aC,_⟩
   have b9:=(show (uN [a.Held,(Hk a.N)]).length=a.Held.length+(Hk a.N).length by simp only [uN,List.flatten_cons,List.flatten_nil,List.length_append,List.length_cons,List.length_nil];omega)
   rintro _ _ _ _ _
   refine sw<|cl wN (KO b _ a.H (Lq (K.from0 aA) M) _ (uN [a.Held,(Hk a.N)]) (FV (Rd.of_own aB) aC)) ?_
   rintro _ D ⟨aD,⟨bA,bB,bC,bD,rfl,aE,aF,aG,aH⟩⟩
   exact JO aD ⟨_,_,_,_,rfl,aE,aF,aG,aH⟩
  ·intro b bE
   rintro _ rfl _ rfl _ rfl _ rfl _ rfl _ rfl _ ⟨bF,bG,rfl,_⟩
   have bH:=IC a.N
   rintro _ ⟨bI,bJ,rfl,bK⟩ _ ⟨bL,bM,rfl,_⟩
   have bN:=(show (uN [a.Held,(Hk a.N)]).length=a.Held.length+(Hk a.N).length by simp only [uN,List.flatten_cons,List.flatten_nil,List.length_append,List.length_cons,List.length_nil];omega)
   rintro _ ⟨aI,aJ,aK,aL,rfl,_⟩ _ _ _ _
   refine sw<|mw (.tuple #[(vs aI ((FQ a.H (uN [a.Held,(Hk a.N)])).1).length aJ),(vs aK ((FQ a.H (uN [a.Held,(Hk a.N)])).2).length aL)]) ?_
   exact f2
  ·intro b bO
   rintro _ rfl _ rfl _ rfl _ rfl _ rfl _ rfl _ ⟨bP,bQ,rfl,_⟩
   have bR:=IC a.N
   rintro _ ⟨bS,bT,rfl,bU⟩ _ ⟨bW,bX,rfl,_⟩
   have bY:=(show (uN [a.Held,(Hk a.N)]).length=a.Held.length+(Hk a.N).length by simp only [uN,List.flatten_cons,List.flatten_nil,List.length_append,List.length_cons,List.length_nil];omega)
   rintro _ ⟨aM,aN,bZ,ca,rfl,_⟩ _ rfl _ _ _
   refine sw<|pu (vs aM ((FQ a.H (uN [a.Held,(Hk a.N)])).1).length aN) wN ?_
   exact f2
  ·intro b cb
   rintro _ rfl _ rfl _ rfl _ rfl _ rfl _ rfl _ ⟨cc,cd,rfl,_⟩
   have ce:=IC a.N
   rintro _ ⟨cg,ci,rfl,cj⟩ _ ⟨ck,cm,rfl,_⟩
   have cn:=(show (uN [a.Held,(Hk a.N)]).length=a.Held.length+(Hk a.N).length by simp only [uN,List.flatten_cons,List.flatten_nil,List.length_append,List.length_cons,List.length_nil];omega)
   rintro _ ⟨co,cp,aO,aP,rfl,_⟩ _ rfl _ _ _
   refine sw<|pu (vs aO ((FQ a.H (uN [a.Held,(Hk a.N)])).2).length aP) wN ?_
   exact f2
  ·intro b cq
   rintro _ rfl _ rfl _ rfl _ rfl _ rfl _ rfl _ ⟨cr,cs,rfl,_⟩
   have cu:=IC a.N
   rintro _ ⟨cv,cw,rfl,cx⟩ _ ⟨cy,cz,rfl,_⟩
   have c0:=(show (uN [a.Held,(Hk a.N)]).length=a.Held.length+(Hk a.N).length by simp only [uN,List.flatten_cons,List.flatten_nil,List.length_append,List.length_cons,List.length_nil];omega)
   rintro _ ⟨aQ,aR,c1,c2,rfl,_⟩ _ rfl _ rfl _ _
   refine sw<|aw (vs aQ ((FQ a.H (uN [a.Held,(Hk a.N)])).1).length aR) ?_
   exact f2
 ·intro b X
  rintro _ rfl _ rfl _ rfl _ rfl _ rfl _ rfl _ ⟨c3,c4,rfl,_⟩
  have c5:=IC a.N
  rintro _ ⟨c6,c7,rfl,c8⟩ _ ⟨c9,cC,rfl,_⟩
  have cD:=(show (uN [a.Held,(Hk a.N)]).length=a.Held.length+(Hk a.N).length by simp only [uN,List.flatten_cons,List.flatten_nil,List.length_append,List.length_cons,List.length_nil];omega)
  rintro _ ⟨aS,aT,aU,aV,rfl,aW,aX,_⟩ _ rfl _ rfl _ rfl _ rfl
  refine sw<|aw (vs aU ((FQ a.H (uN [a.Held,(Hk a.N)])).2).length aV) ?_
  refine nx<|mw (vs aS ((FQ a.H (uN [a.Held,(Hk a.N)])).1).length aT) ?_
  refine cl wN (Ox b _ ((FQ a.H (uN [a.Held,(Hk a.N)])).1) (Lq aW aX) (by first|omega|exact KK UM _|exact LV (by first|assumption|exact (Ly (by assumption)).1))) ?_
  rintro _ D ⟨aY,⟨Y,Z,rfl,aZ,ba,cE⟩⟩
  have bb:=(C.extk X).extk aY
  refine aw (vs Y (GN ((FQ a.H (uN [a.Held,(Hk a.N)])).1)).length Z) ?_
  refine n3<|rt (vs Y (GN ((FQ a.H (uN [a.Held,(Hk a.N)])).1)).length Z) ?_
  refine ⟨bb.keep0,?_⟩
  simp only [IK,q,cond_true,cond_false]
  exact ⟨_,_,rfl,(tA aZ (z3 Q t X)),ba,⟨trivial,trivial⟩⟩

theorem Vm (b:List UInt8) (h:b.length≤1048576):IK (Hs HD b)=sha b:=by
  have a:Ho HD=true:=rfl
  have hA:Hs HD b={H:=(FQ k0 b).1,Held:=(FQ k0 b).2,N:=(b.length:Int):PHash}:=by
    have d:decide (1048576 - HD.N < (b.length:Int))=false:=decide_eq_false (by show ¬ (1048576 - 0 < (b.length:Int));omega)
    simp only [Hs,a,d,cond_true,cond_false]
    simp [HD,uN,Tr]
  have hO:Ho {H:=(FQ k0 b).1,Held:=(FQ k0 b).2,N:=(b.length:Int):PHash}=true:=by
    have hw:Js (FQ k0 b).1 8=true:=Oq UM _
    have hl:(FQ k0 b).2.length=b.length - 64*(b.length / 64):=List.length_drop
    simp only [Ho,hw,hl,i_within,cond_true,cond_eq_ite]
    (repeat' split) <;> first|rfl|(exfalso;simp_all;done)|(rw [decide_eq_true_eq];omega)|(exfalso;simp at *;omega)
  rw [hA,Qj h]
  have hp:Hk (b.length:Int)=pad b.length:=KZ (by omega) (by omega)
  simp only [IK,hO,cond_true,hp]
  simp [uN]
theorem Ss (b:World) (g:Value) (a:List UInt8) (p:HP b g a) :Fn Tryz.prog 52 #[g] b (fun v h=>Keep b h∧JF h b.heap.size v (sha a)):=by
 obtain ⟨e,f,rfl,i,q⟩:=p
 refine FI (n:=10) [(vs e a.length f)] Tryz.func52 rfl rfl ?_
 refine sr<|aw (vs none 0 0) ?_
 refine n4<|mw (vs e a.length f) ?_
 refine ln wN tD i ?_
 refine pu (vb (decide (1048576 < (a.length:Int)))) wN ?_
 refine n2 ?_
 rcases bt (decide (1048576 < (a.length:Int))) with d|d
 ·have J:=dT d
  refine ct d<|sr<|aw (vs none 0 0) ?_
  refine n1<|rt (vs none 0 0) ?_
  refine ⟨Ch.refl _ _,?_⟩
  have r:sha a=[]:=by first|exact RO (by omega)|exact (Vm a (by omega)).symm
  rw [r]
  exact ⟨_,_,rfl,(by first|exact FL _ _ _ _|exact OLv.nil _ _ _ _),(by simp),⟨trivial,trivial⟩⟩
 have K:=dF d
 refine cf d<|y1<|cl wN (QZ b ) ?_
 rintro _ s ⟨j,⟨L,M,N,O,rfl,t,u,w,x,P⟩⟩
 have k:=(Ch.base b).extk j
 refine mw (vs e a.length f) ?_
 refine cl wN (Rb s _ (HD) (OT (Rd.of_own t) u (Rd.of_own w) x) _ a (FV (i.from0 k) q)) ?_
 rintro _ y ⟨l,⟨Q,R,S,T,rfl,A,B,C,D,V⟩⟩
 refine cl wN (Ra y _ (Hs (HD) a) (OT (Rd.of_own A) B (Rd.of_own C) D)) ?_
 rintro _ W ⟨E,⟨m,o,rfl,F,G,X⟩⟩
 have H:=(k.extk l).extk E
 refine aw (vs m (IK (Hs (HD) a)).length o) ?_
 refine n3<|rt (vs m (IK (Hs (HD) a)).length o) ?_
 refine ⟨H.keep0,?_⟩
 have I:sha a=(IK (Hs (HD) a)):=by first|exact RO (by omega)|exact (Vm a (by omega)).symm
 rw [I]
 exact ⟨_,_,rfl,(tA F (z2 j l)),G,⟨trivial,trivial⟩⟩

def GC (a:Int):(Bool):=bif (decide (a=0)) then (true) else (decide (a=1))
theorem KN (d:World) (a:Int) :Fn Tryz.prog 55 #[(vi a)] d (fun v e=>Keep d e∧O_4 e d.heap.size v (GC a)):=by
 refine FI (n:=9) [(vi a)] Tryz.func55 rfl rfl ?_
 refine sr<|aw (vb false) ?_
 refine nx<|mw (vi a) ?_
 refine pu (vb (decide (a=0))) wN ?_
 refine mw (vb (decide (a=0))) ?_
 rcases bt (decide (a=0)) with b|b
 ·have f:=dT b
  iterate 2 refine sk b ?_
  refine pk (vb true) wN b ?_
  refine aw (vb true) ?_
  refine n3<|rt (vb true) ?_
  refine ⟨Ch.refl _ _,?_⟩
  simp only [GC,b,cond_true,cond_false]
  exact rfl
 have g:=dF b
 refine mv (vi a) (wS b) ?_
 refine pu (vb (decide (a=1))) (wS b) ?_
 refine pf (vb (decide (a=1))) wN b ?_
 refine aw (vb (decide (a=1))) ?_
 refine n3<|rt (vb (decide (a=1))) ?_
 refine ⟨Ch.refl _ _,?_⟩
 simp only [GC,b,cond_true,cond_false]
 exact rfl
theorem Kf {n:Int} (h:GC n=true):n=0∨n=1:=by
  by_cases h0:n=0
  · exact .inl h0
  · simp [GC,h0] at h;exact .inr h
theorem KJ {n:Int} (h:GC n=false):¬ n=0∧¬ n=1:=by
  by_cases h0:n=0 <;> by_cases h1:n=1 <;> simp [GC,h0,h1] at h
  exact ⟨h0,h1⟩
end Go.Proofs.YtacoceibbheccaaGreat.K
