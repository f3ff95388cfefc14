import Derived.Test.YtacoceibbheccaaGreatCore
import Derived.Test.YtacoceibbheccaaGreatProg
import Derived.Test.YtacoceibbheccaaGreatHeld
import Derived.Test.YtacoceibbheccaaGreatFun
import Derived.Test.YtacoceibbheccaaGreatFunZ
import Derived.Test.YtacoceibbheccaaGreatSqz
import Derived.Test.YtacoceibbheccaaGreatHash
import Derived.Test.YtacoceibbheccaaGreatCur
import Derived.Test.YtacoceibbheccaaGreatDrawW
import Derived.Test.YtacoceibbheccaaGreatAead
namespace Go.Proofs.YtacoceibbheccaaGreat.K
open Go.RowKit
set_option linter.unusedVariables false
set_option linter.unusedSimpArgs false
set_option maxRecDepth 100000
set_option maxHeartbeats 4000000
abbrev oj (x:PChan) (a:Option Addr) (b:Nat) (d:Option Addr) (e:Nat) (f:Option Addr) (g:Nat) (h:Option Addr) (i:Nat) (j:Option Addr) (k:Nat) (l:Option Addr) (m:Nat):List Value:=[vi x.Role,vs a x.Sn.length b,vi x.Cur.N,vs d x.Cur.Key.length e,vi x.Cur.Seq,vi x.Cur.Win.Top,vs f x.Cur.Win.Bits.length g,vi x.Old.N,vs h x.Old.Key.length i,vi x.Old.Seq,vi x.Old.Win.Top,vs j x.Old.Win.Bits.length k,vb x.HasOld,vi x.Until,vs l x.Next.length m]
abbrev oi (x:PEp) (a:Option Addr) (b:Nat) (d:Option Addr) (e:Nat):List Value:=[vi x.N,vs a x.Key.length b,vi x.Seq,vi x.Win.Top,vs d x.Win.Bits.length e]
abbrev pn (x:PWin) (a:Option Addr) (b:Nat):List Value:=[vi x.Top,vs a x.Bits.length b]
theorem mR:SlTy Tryz.prog 22 5 1 1 (v8 0):=CN Tryz.underlying22 (by kernel_rfl) rfl rfl
def zx (w:World) (v:Value) (x:(PChan)):Prop:=∃ (a:Option Addr) (b:Nat) (d:Option Addr) (e:Nat) (f:Option Addr) (g:Nat) (h:Option Addr) (i:Nat) (j:Option Addr) (k:Nat) (l:Option Addr) (m:Nat),v=.agg #[.int .i64 x.Role,.slice a x.Sn.length b,.int .i64 x.Cur.N,.slice d x.Cur.Key.length e,.int .i64 x.Cur.Seq,.int .i64 x.Cur.Win.Top,.slice f x.Cur.Win.Bits.length g,.int .i64 x.Old.N,.slice h x.Old.Key.length i,.int .i64 x.Old.Seq,.int .i64 x.Old.Win.Top,.slice j x.Old.Win.Bits.length k,.bool x.HasOld,.int .i64 x.Until,.slice l x.Next.length m]∧Rd w 1 (.slice a x.Sn.length b) x.Sn.length (x.Sn.map bV)∧x.Sn.length≤1073741824∧Rd w 1 (.slice d x.Cur.Key.length e) x.Cur.Key.length (x.Cur.Key.map bV)∧x.Cur.Key.length≤1073741824∧Rd w 1 (.slice f x.Cur.Win.Bits.length g) x.Cur.Win.Bits.length (x.Cur.Win.Bits.map iV)∧x.Cur.Win.Bits.length≤1073741824∧Rd w 1 (.slice h x.Old.Key.length i) x.Old.Key.length (x.Old.Key.map bV)∧x.Old.Key.length≤1073741824∧Rd w 1 (.slice j x.Old.Win.Bits.length k) x.Old.Win.Bits.length (x.Old.Win.Bits.map iV)∧x.Old.Win.Bits.length≤1073741824∧Rd w 1 (.slice l x.Next.length m) x.Next.length (x.Next.map bV)∧x.Next.length≤1073741824
def xn (w:World) (v:Value) (x:(PEp)):Prop:=∃ (a:Option Addr) (b:Nat) (d:Option Addr) (e:Nat),v=.agg #[.int .i64 x.N,.slice a x.Key.length b,.int .i64 x.Seq,.int .i64 x.Win.Top,.slice d x.Win.Bits.length e]∧Rd w 1 (.slice a x.Key.length b) x.Key.length (x.Key.map bV)∧x.Key.length≤1073741824∧Rd w 1 (.slice d x.Win.Bits.length e) x.Win.Bits.length (x.Win.Bits.map iV)∧x.Win.Bits.length≤1073741824
def xP (w:World) (v:Value) (x:(PWin)):Prop:=∃ (a:Option Addr) (b:Nat),v=.agg #[.int .i64 x.Top,.slice a x.Bits.length b]∧Rd w 1 (.slice a x.Bits.length b) x.Bits.length (x.Bits.map iV)∧x.Bits.length≤1073741824
def Df (w:World) (v:Value) (x:(List UInt8)):Prop:=∃ (a:Option Addr) (b:Nat),v=.slice a x.length b∧Rd w 1 (.slice a x.length b) x.length (x.map bV)∧x.length≤9223372036854775807
def O_4 (w:World) (lo:Nat) (v:Value) (x:(Bool)):Prop:=v=.bool x
def zM (a:List UInt8):(Bool):=decide (1048576 < (a.length:Int))
theorem CW (b:World) (d:Value) (a:List UInt8) (h:Df b d a) :Fn Tryz.prog 20 #[d] b (fun v e=>Keep b e∧O_4 e b.heap.size v (zM a)):=by
 obtain ⟨f,g,rfl,i,k⟩:=h
 refine nu (n:=6) [(vs f a.length g)] Tryz.func20 rfl rfl ?_
 refine sr<|aw vF ?_
 refine nx<|mw (vs f a.length g) ?_
 refine ln wN mR i ?_
 refine pu (vb (decide (1048576 < (a.length:Int)))) wN ?_
 refine aw (vb (decide (1048576 < (a.length:Int)))) ?_
 refine n3<|rt (vb (decide (1048576 < (a.length:Int)))) ?_
 refine ⟨Ch.refl _ _,?_⟩
 have j:zM a=decide (1048576 < (a.length:Int)):=by rfl
 rw [j]
 exact rfl
theorem Dc {x:List UInt8} (h:zM x=false):x.length≤1048576:=by
  have:=dF h
  omega

theorem pP:∀ w,(isAgg 5).run Tryz.prog w=.ok false w:=fun w=>by kernel_rfl
def pI (w:World) (v:Value) (x:(List UInt8)):Prop:=∃ (a:Option Addr) (b:Nat),v=.slice a x.length b∧Rd w 1 (.slice a x.length b) x.length (x.map bV)∧x.length≤1073741824
theorem Bo (d:World) (p:Value) (b:List UInt8) (E:pI d p b) :Fn Tryz.prog 59 #[p] d (fun v l=>∃ g,Keep d l∧d.heap.size≤g∧v=vp g 0∧∀ (a:Option Addr) (c:Nat),p=.slice a b.length c→ph l g 110 a c b):=by
 obtain ⟨e,f,rfl,h,w⟩:=E
 refine nu (n:=32) [(vs e b.length f)] Tryz.func59 rfl rfl ?_
 refine sr<|aw (.pointer none) ?_
 refine nx<|mw (vs e b.length f) ?_
 refine ln wN mR h ?_
 refine ar (127812+(b.length:Int)) wN ?_
 refine aw (vi (127812+(b.length:Int))) ?_
 refine n4<|aw (vi 0) ?_
 refine mW<|mP<|ng<|oa [(0,(vs e b.length f)),(2,(.pointer none)),(3,(vi (127812+(b.length:Int)))),(4,(vi ((0:Nat):Int)))] ⟨rfl,rfl,rfl,(cA (Value.int .i64) (show (0:Int)=((0:Nat):Int) by omega)),trivial⟩ (fun e' l=>∃ (k:Nat) (q:Int) (y:Env),e'=pt y [(0,(vs e b.length f)),(2,(.pointer none)),(3,(vi q)),(4,(vi ((k:Nat):Int)))]∧Ch (fun k=>d.heap.size≤k) d l∧Ch (fun k=>d.heap.size≤k) d l∧k≤b.length∧0≤q∧q≤1073869636) (fun e' _=>b.length - ((intOf (e' 4))).toNat) ?_ ?_
 ·exact fun u=>⟨0,(127812+(b.length:Int)),u,rfl,(Ch.base d),(Ch.refl (fun k=>d.heap.size≤k) d),(by omega),(by omega),(by omega)⟩
 ·rintro _ F ⟨k,q,y,rfl,j,m,L,M,N⟩
  have O:(b.getD k 0).toNat < 256:=UInt8.toNat_lt _
  refine nh<|sr<|mw (vi ((k:Nat):Int)) ?_
  refine mw (vs e b.length f) ?_
  refine ln wN mR (h.from0 j) ?_
  refine pu (vb (decide (((k:Nat):Int) < (b.length:Int)))) wN ?_
  refine mw (vb (decide (((k:Nat):Int) < (b.length:Int)))) ?_
  rcases bf (decide (((k:Nat):Int) < (b.length:Int))) with i|i
  ·have P:=dF i
   iterate 2 refine sk i ?_
   refine pf vF wN i ?_
   refine n2<|cf F1<|oh<|mU<|mU<|nq<|mP<|sr<|mw (vs e b.length f) ?_
   refine mw (vi q) ?_
   refine pu (va [(vs e b.length f),(vi 0),(vi q)]) wN ?_
   refine bx [(vs e b.length f),(vi 0),(vi q)] wN ?_
   intro r G A Q H I
   have B:=j.extk H
   refine aw (vp r 0) ?_
   refine n3<|rt (vp r 0) ?_
   refine ⟨r,B.keep0,(nT m.size A),rfl,fun a c hv=>?_⟩
   cases hv
   exact ⟨_,_,I,(h.from0 B),w,(by omega),(fun s z hz=>nN (nL (rF h s z hz) (nT m.size A)))⟩
  have R:=dT i
  refine mv (vi ((k:Nat):Int)) (wS i) ?_
  refine pu (vb (decide (((k:Nat):Int) < 4000))) (wS i) ?_
  refine pk (vb (decide (((k:Nat):Int) < 4000))) wN i ?_
  refine n2 ?_
  rcases bf (decide (((k:Nat):Int) < 4000)) with o|o
  ·have S:=dF o
   refine cf o<|oh<|mU<|mU<|nq<|mP<|sr<|mw (vs e b.length f) ?_
   refine mw (vi q) ?_
   refine pu (va [(vs e b.length f),(vi 0),(vi q)]) wN ?_
   refine bx [(vs e b.length f),(vi 0),(vi q)] wN ?_
   intro t G C T J K
   have D:=j.extk J
   refine aw (vp t 0) ?_
   refine n3<|rt (vp t 0) ?_
   refine ⟨t,D.keep0,(nT m.size C),rfl,fun a c hv=>?_⟩
   cases hv
   exact ⟨_,_,K,(h.from0 D),w,(by omega),(fun s z hz=>nN (nL (rF h s z hz) (nT m.size C)))⟩
  have V:=dT o
  refine ct o<|nm<|mP<|nh<|ng<|mV ?_
  refine mw (vi q) ?_
  refine ar (q*137) wN ?_
  refine mw (vs e b.length f) ?_
  refine mw (vi ((k:Nat):Int)) ?_
  refine ix wN ((k:Nat):Int) mR (h.from0 j) ?_
  refine eb (x:=b) k wN pP (h.from0 j) ?_
  refine ar ((b.getD k 0).toNat:Int) wN ?_
  refine ar ((q*137)+((b.getD k 0).toNat:Int)) wN ?_
  refine ar (((q*137)+((b.getD k 0).toNat:Int))+11) wN ?_
  refine qc (((q*137)+((b.getD k 0).toNat:Int))+11) 1073741823 1073741824 30 wN rfl rfl (by decide) (by decide) (by decide) (by kernel_rfl) ?_
  refine aw (vi ((((q*137)+((b.getD k 0).toNat:Int))+11) % 1073741824)) ?_
  refine mW<|mQ<|mP<|mV ?_
  refine mw (vi ((k:Nat):Int)) ?_
  refine ar (((k:Nat):Int)+1) wN ?_
  refine aw (vi (((k:Nat):Int)+1)) ?_
  refine mW<|nX (w0:=F) [(0,(vs e b.length f)),(2,(.pointer none)),(3,(vi ((((q*137)+((b.getD k 0).toNat:Int))+11) % 1073741824))),(4,(vi (((k+1):Nat):Int)))] ?_ ?_ ?_
  · exact ⟨rfl,rfl,rfl,(cA (Value.int .i64) (show ((((k:Nat):Int)+1):Int)=(((k+1):Nat):Int) by omega)),trivial⟩
  · exact fun u=>⟨(k+1),((((q*137)+((b.getD k 0).toNat:Int))+11) % 1073741824),u,rfl,j,((Ch.refl (fun k=>d.heap.size≤k) d).ext m (fun k hk=>hk)),(by omega),(by omega),(by omega)⟩
  · show b.length - ((((k+1):Nat):Int)).toNat < b.length - (((k:Nat):Int)).toNat;omega

theorem mT:∀ w,(isAgg 3).run Tryz.prog w=.ok false w:=fun w=>by kernel_rfl
theorem nV:∀ w,(sizeOf 3).run Tryz.prog w=.ok 1 w:=fun w=>by kernel_rfl
theorem oM:Tryz.prog.follows .mixedOrders=true:=by kernel_rfl
theorem nd:∀ w,(isAgg 22).run Tryz.prog w=.ok false w:=fun w=>by kernel_rfl
def O_3 (w:World) (lo:Nat) (v:Value) (x:(Int)):Prop:=v=.int .i64 x
theorem rR (m:World) (g:Nat) (ca:Option Addr) (cc:Nat) (cb:List UInt8) (w:ph m g 110 ca cc cb) :Fn Tryz.prog 137 #[(vp g 0)] m (fun v f=>∃ x:(Int),Ch (fun k=>k=g) m f∧ph f g 110 ca cc cb∧O_3 f m.heap.size v x∧(0≤x∧x≤255)):=by
 obtain ⟨ci,chh,hcb,hcr,hcl,hci,hcn⟩:=w
 have hgl:=Blk.lt hcb
 refine nu (n:=58) [(vp g 0)] Tryz.func137 rfl rfl ?_
 have aa:(cb.getD ci.toNat 0).toNat < 256:=UInt8.toNat_lt _
 refine sr<|aw (vi 0) ?_
 refine nx<|mw (vp g 0) ?_
 refine mw (vp g 0) ?_
 refine pu (vp g 0) wN ?_
 refine pu (vp g 2) wN ?_
 refine ld (vi chh) wN mT hcb ?_
 refine ta (IntKind.i64.wrap (chh*6364136223846793005)) wN rfl rfl (by kernel_rfl) ?_
 intro y
 refine ta (IntKind.i64.wrap (y+1442695040888963407)) wN rfl rfl (by kernel_rfl) ?_
 intro a
 refine pu (vp g 0) wN ?_
 refine pu (vp g 2) wN ?_
 refine sf (vi a) wN nV hcb ?_
 intro A B i ab
 have C:=ChG.ext (Ch.refl (fun k=>k=g) m) B iL
 refine mW<|mP<|nh<|ob ([(13,[],[],(fun _ v _=>v=(vp g 0))),(14,[],[0],(fun _ v _=>v=(vp g 0))),(15,[],[0,1],(fun _ v _=>v=(vp g 2))),(16,[],[0,1,2],(fun _ v _=>v=(vi a))),(17,[],[0,1,2,3],(fun _ v _=>v=(vi (a / (2:Int) ^ ((33:Int)).toNat)))),(18,[],[],(fun _ v _=>v=(vp g 0))),(19,[],[5],(fun _ v _=>v=(vp g 0))),(20,[],[5,6],(fun _ v _=>v=(vp g 2))),(21,[],[5,6,7],(fun _ v _=>v=(vi a))),(22,[],[5,6,7,8],(fun _ v _=>v=(vi (a / (2:Int) ^ ((47:Int)).toNat))))]:GV) (fun _ f=>Keep A f) [] oM rfl (by kernel_rfl) (by kernel_rfl) ?_ (fun _ _ h=>h) (fun _ _ _ _ h _ k=>h.trans k) trivial ?_ ?_ ?_
 ·exact ⟨hV,hE,⟨hV,hE,⟨hV,hE,⟨hV,hE,⟨hV,hE,⟨hV,hE,⟨hV,hE,⟨hV,hE,⟨hV,hE,⟨hV,hE,trivial⟩⟩⟩⟩⟩⟩⟩⟩⟩⟩
 ·exact trivial
 ·refine ⟨?_,⟨?_,⟨?_,⟨?_,⟨?_,⟨?_,⟨?_,⟨?_,⟨?_,⟨?_,trivial⟩⟩⟩⟩⟩⟩⟩⟩⟩⟩
  ·intro _ d ac _
   rintro _ _ _ _ _ _ _ _ _ _
   refine sw<|mw (vp g 0) ?_
   exact f1
  ·intro _ d ad _
   rintro _ rfl _ _ _ _ _ _ _ _ _
   refine sw<|pu (vp g 0) wN ?_
   exact f1
  ·intro _ d ae _
   rintro _ rfl _ rfl _ _ _ _ _ _ _ _
   refine sw<|pu (vp g 2) wN ?_
   exact f1
  ·intro _ d D _
   rintro _ rfl _ rfl _ rfl _ _ _ _ _ _ _
   refine sw ?_
   have E:=(i.kp D)
   refine ld (vi a) wN mT E ?_
   exact f1
  ·intro _ d af _
   rintro _ rfl _ rfl _ rfl _ rfl _ _ _ _ _ _
   refine sw<|sJ a (33:Int) wN rfl rfl rfl rfl rfl (by omega) (by omega) ?_
   exact f1
  ·intro _ d ah _
   rintro _ _ _ _ _ _ _ _ _ _
   refine sw<|mw (vp g 0) ?_
   exact f1
  ·intro _ d ai _
   rintro _ _ _ _ _ _ rfl _ _ _ _
   refine sw<|pu (vp g 0) wN ?_
   exact f1
  ·intro _ d aj _
   rintro _ _ _ _ _ _ rfl _ rfl _ _ _
   refine sw<|pu (vp g 2) wN ?_
   exact f1
  ·intro _ d F _
   rintro _ _ _ _ _ _ rfl _ rfl _ rfl _ _
   refine sw ?_
   have G:=(i.kp F)
   refine ld (vi a) wN mT G ?_
   exact f1
  ·intro _ d ak _
   rintro _ _ _ _ _ _ rfl _ rfl _ rfl _ rfl _
   refine sw<|sJ a (47:Int) wN rfl rfl rfl rfl rfl (by omega) (by omega) ?_
   exact f1
 ·intro _ d j
  have r:=ChG.extk C j
  iterate 10 rintro _ rfl
  refine sw<|AS (a / (2:Int) ^ ((33:Int)).toNat) (a / (2:Int) ^ ((47:Int)).toNat) wN rfl rfl (by kernel_rfl) ?_
  refine qc (zr (a / (2:Int) ^ ((33:Int)).toNat) (a / (2:Int) ^ ((47:Int)).toNat)) 255 256 8 wN rfl rfl (by decide) (by decide) (by decide) (by kernel_rfl) ?_
  refine aw (vi ((zr (a / (2:Int) ^ ((33:Int)).toNat) (a / (2:Int) ^ ((47:Int)).toNat)) % 256)) ?_
  refine mW<|mP<|nh<|nh<|ob ([(25,[],[],(fun _ v _=>v=(vp g 0))),(26,[],[0],(fun _ v _=>v=(vp g 0))),(27,[],[0,1],(fun _ v _=>v=(vp g 1))),(28,[],[0,1,2],(fun _ v _=>v=(vi ci))),(29,[],[],(fun _ v _=>v=(vp g 0))),(30,[],[4],(fun _ v _=>v=(vp g 0))),(31,[],[4,5],(fun _ v _=>v=(vp g 0))),(32,[],[4,5,6],(fun _ v _=>v=(vs ca cb.length cc))),(33,[],[4,5,6,7],(fun _ v _=>v=(vi (cb.length:Int))))]:GV) (fun _ f=>Keep d f) [] oM rfl (by kernel_rfl) (by kernel_rfl) ?_ (fun _ _ h=>h) (fun _ _ _ _ h _ k=>h.trans k) trivial ?_ ?_ ?_
  ·exact ⟨hV,hE,⟨hV,hE,⟨hV,hE,⟨hV,hE,⟨hV,hE,⟨hV,hE,⟨hV,hE,⟨hV,hE,⟨hV,hE,trivial⟩⟩⟩⟩⟩⟩⟩⟩⟩
  ·exact trivial
  ·refine ⟨?_,⟨?_,⟨?_,⟨?_,⟨?_,⟨?_,⟨?_,⟨?_,⟨?_,trivial⟩⟩⟩⟩⟩⟩⟩⟩⟩
   ·intro _ e am _
    rintro _ _ _ _ _ _ _ _ _
    refine sw<|mw (vp g 0) ?_
    exact f1
   ·intro _ e an _
    rintro _ rfl _ _ _ _ _ _ _ _
    refine sw<|pu (vp g 0) wN ?_
    exact f1
   ·intro _ e ao _
    rintro _ rfl _ rfl _ _ _ _ _ _ _
    refine sw<|pu (vp g 1) wN ?_
    exact f1
   ·intro _ e H _
    rintro _ rfl _ rfl _ rfl _ _ _ _ _ _
    refine sw ?_
    have I:=((i.kp j).kp H)
    refine ld (vi ci) wN mT I ?_
    exact f1
   ·intro _ e ap _
    rintro _ _ _ _ _ _ _ _ _
    refine sw<|mw (vp g 0) ?_
    exact f1
   ·intro _ e aq _
    rintro _ _ _ _ _ rfl _ _ _ _
    refine sw<|pu (vp g 0) wN ?_
    exact f1
   ·intro _ e au _
    rintro _ _ _ _ _ rfl _ rfl _ _ _
    refine sw<|pu (vp g 0) wN ?_
    exact f1
   ·intro _ e J _
    rintro _ _ _ _ _ rfl _ rfl _ rfl _ _
    refine sw ?_
    have K:=((i.kp j).kp J)
    refine ld (vs ca cb.length cc) wN nd K ?_
    exact f1
   ·intro _ e L _
    have M:=ChG.extk r L
    rintro _ _ _ _ _ rfl _ rfl _ rfl _ rfl _
    refine sw<|ln wN mR (Rd.chP hcr M hcn) ?_
    exact f1
  ·intro _ e o
   have p:=ChG.extk r o
   iterate 9 rintro _ rfl
   refine sw<|pu (vb (decide (ci < (cb.length:Int)))) wN ?_
   refine n2 ?_
   rcases bf (decide (ci < (cb.length:Int))) with q|q
   ·have av:=dF q
    refine cf q<|y1<|mw (vi ((zr (a / (2:Int) ^ ((33:Int)).toNat) (a / (2:Int) ^ ((47:Int)).toNat)) % 256)) ?_
    refine aw (vi ((zr (a / (2:Int) ^ ((33:Int)).toNat) (a / (2:Int) ^ ((47:Int)).toNat)) % 256)) ?_
    refine n3<|rt (vi ((zr (a / (2:Int) ^ ((33:Int)).toNat) (a / (2:Int) ^ ((47:Int)).toNat)) % 256)) ?_
    have N:=((i.kp j).kp o)
    exact ⟨((zr (a / (2:Int) ^ ((33:Int)).toNat) (a / (2:Int) ^ ((47:Int)).toNat)) % 256),p,(cx N hcr p hcl hcn),rfl,(by omega)⟩
   have ax:=dT q
   refine ct q<|nh<|ob ([(35,[],[],(fun _ v _=>v=(vi ((zr (a / (2:Int) ^ ((33:Int)).toNat) (a / (2:Int) ^ ((47:Int)).toNat)) % 256)))),(36,[],[],(fun _ v _=>v=(vp g 0))),(37,[],[1],(fun _ v _=>v=(vp g 0))),(38,[],[1,2],(fun _ v _=>v=(vp g 0))),(39,[],[1,2,3],(fun _ v _=>v=(vs ca cb.length cc))),(40,[],[],(fun _ v _=>v=(vp g 0))),(41,[],[5],(fun _ v _=>v=(vp g 0))),(42,[],[5,6],(fun _ v _=>v=(vp g 1))),(43,[],[5,6,7],(fun _ v _=>v=(vi ci))),(44,[],[1,2,3,4,5,6,7,8],(fun _ v _=>v=(ve (vs ca cb.length cc) ((ci).toNat*1)))),(45,[],[1,2,3,4,5,6,7,8,9],(fun _ v _=>v=(v8 ((cb.getD (ci).toNat 0).toNat:Int)))),(46,[],[1,2,3,4,5,6,7,8,9,10],(fun _ v _=>v=(vi ((cb.getD (ci).toNat 0).toNat:Int))))]:GV) (fun _ f=>Keep e f) [] oM rfl (by kernel_rfl) (by kernel_rfl) ?_ (fun _ _ h=>h) (fun _ _ _ _ h _ k=>h.trans k) trivial ?_ ?_ ?_
   ·exact ⟨hV,hE,⟨hV,hE,⟨hV,hE,⟨hV,hE,⟨hV,hE,⟨hV,hE,⟨hV,hE,⟨hV,hE,⟨hV,hE,⟨hV,hE,⟨hV,hE,⟨hV,hE,trivial⟩⟩⟩⟩⟩⟩⟩⟩⟩⟩⟩⟩
   ·exact trivial
   ·refine ⟨?_,⟨?_,⟨?_,⟨?_,⟨?_,⟨?_,⟨?_,⟨?_,⟨?_,⟨?_,⟨?_,⟨?_,trivial⟩⟩⟩⟩⟩⟩⟩⟩⟩⟩⟩⟩
    ·intro _ b ay _
     rintro _ _ _ _ _ _ _ _ _ _ _ _
     refine sw<|mw (vi ((zr (a / (2:Int) ^ ((33:Int)).toNat) (a / (2:Int) ^ ((47:Int)).toNat)) % 256)) ?_
     exact f1
    ·intro _ b az _
     rintro _ _ _ _ _ _ _ _ _ _ _ _
     refine sw<|mw (vp g 0) ?_
     exact f1
    ·intro _ b a0 _
     rintro _ _ rfl _ _ _ _ _ _ _ _ _ _
     refine sw<|pu (vp g 0) wN ?_
     exact f1
    ·intro _ b a1 _
     rintro _ _ rfl _ rfl _ _ _ _ _ _ _ _ _
     refine sw<|pu (vp g 0) wN ?_
     exact f1
    ·intro _ b O _
     rintro _ _ rfl _ rfl _ rfl _ _ _ _ _ _ _ _
     refine sw ?_
     have P:=(((i.kp j).kp o).kp O)
     refine ld (vs ca cb.length cc) wN nd P ?_
     exact f1
    ·intro _ b a2 _
     rintro _ _ _ _ _ _ _ _ _ _ _ _
     refine sw<|mw (vp g 0) ?_
     exact f1
    ·intro _ b a3 _
     rintro _ _ _ _ _ _ rfl _ _ _ _ _ _
     refine sw<|pu (vp g 0) wN ?_
     exact f1
    ·intro _ b a4 _
     rintro _ _ _ _ _ _ rfl _ rfl _ _ _ _ _
     refine sw<|pu (vp g 1) wN ?_
     exact f1
    ·intro _ b Q _
     rintro _ _ _ _ _ _ rfl _ rfl _ rfl _ _ _ _
     refine sw ?_
     have R:=(((i.kp j).kp o).kp Q)
     refine ld (vi ci) wN mT R ?_
     exact f1
    ·intro _ b S _
     have T:=ChG.extk p S
     rintro _
     iterate 8 rintro _ rfl
     intro _ _ _
     refine sw<|ix wN ci mR (Rd.chP hcr T hcn) ?_
     exact f1
    ·intro _ b V _
     have W:=ChG.extk p V
     rintro _
     iterate 9 rintro _ rfl
     intro _ _
     refine sw<|eb (x:=cb) ((ci).toNat) wN pP (Rd.chP hcr W hcn) ?_
     exact f1
    ·intro _ b a5 _
     rintro _
     iterate 10 rintro _ rfl
     intro _
     refine sw<|ar ((cb.getD (ci).toNat 0).toNat:Int) wN ?_
     exact f1
   ·intro _ b s
    have X:=ChG.extk p s
    iterate 12 rintro _ rfl
    refine sw<|ta (IntKind.i64.wrap (((zr (a / (2:Int) ^ ((33:Int)).toNat) (a / (2:Int) ^ ((47:Int)).toNat)) % 256)+((cb.getD (ci).toNat 0).toNat:Int))) wN rfl rfl (by kernel_rfl) ?_
    intro l
    refine qc l 255 256 8 wN rfl rfl (by decide) (by decide) (by decide) (by kernel_rfl) ?_
    refine aw (vi (l % 256)) ?_
    refine mW<|mP<|mV ?_
    refine mw (vp g 0) ?_
    refine mw (vp g 0) ?_
    refine pu (vp g 0) wN ?_
    refine pu (vp g 1) wN ?_
    have t:=(((i.kp j).kp o).kp s)
    refine ld (vi ci) wN mT t ?_
    refine ar (ci+1) wN ?_
    refine pu (vp g 0) wN ?_
    refine pu (vp g 1) wN ?_
    refine sf (vi (ci+1)) wN nV t ?_
    intro a6 Y Z a7
    have u:=ChG.ext X Y iL
    refine nx<|mw (vi (l % 256)) ?_
    refine aw (vi (l % 256)) ?_
    refine n3<|rt (vi (l % 256)) ?_
    exact ⟨(l % 256),u,(cx Z hcr u hcl hcn),rfl,(by omega)⟩

theorem ow (f:World) (g:Nat) (ca:Option Addr) (cc:Nat) (cb:List UInt8) (u:ph f g 110 ca cc cb) (b:Int) :Fn Tryz.prog 97 #[(vp g 0),(vi b)] f (fun v o=>∃ x:(Int),Ch (fun k=>k=g) f o∧ph o g 110 ca cc cb∧O_3 o f.heap.size v x∧(0≤x∧(x < b∨((b:Int)≤0∧x=0)))):=by
 obtain ⟨ci,chh,hcb,hcr,hcl,hci,hcn⟩:=u
 have hgl:=Blk.lt hcb
 refine nu (n:=31) [(vp g 0),(vi b)] Tryz.func97 rfl rfl ?_
 refine sr<|aw (vi 0) ?_
 refine n4<|mw (vi b) ?_
 refine pu (vb (decide (b≤0))) wN ?_
 refine n2 ?_
 rcases bt (decide (b≤0)) with i|i
 ·have H:=dT i
  refine ct i<|sr<|aw (vi 0) ?_
  refine n1<|rt (vi 0) ?_
  exact ⟨0,(Ch.refl (fun k=>k=g) f),⟨_,_,hcb,hcr,hcl,(by omega),hcn⟩,rfl,(by omega)⟩
 have I:=dF i
 refine cf i<|y2<|mw (vi b) ?_
 refine pu (vb (decide (b≤256))) wN ?_
 refine n2 ?_
 rcases bt (decide (b≤256)) with j|j
 ·have J:=dT j
  refine ct j<|sr<|mw (vp g 0) ?_
  refine cl wN (rR f g ca cc cb ⟨_,_,hcb,hcr,hcl,(by omega),hcn⟩) ?_
  rintro _ p ⟨l,w,⟨K,L,y,M,N,O,P⟩,rfl,Q⟩
  have q:=ChG.ext (Ch.refl (fun k=>k=g) f) w iL
  refine mw (vi b) ?_
  refine xW (l) b wN rfl rfl rfl rfl rfl (by omega) (by omega) ?_
  have R:=BU (a:=(l)) (m:=b) (by omega)
  refine aw (vi ((l) % b)) ?_
  refine n1<|rt (vi ((l) % b)) ?_
  exact ⟨((l) % b),q,(cx y hcr q hcl hcn),rfl,(by omega)⟩
 have S:=dF j
 refine cf j<|y1<|mw (vp g 0) ?_
 refine cl wN (rR f g ca cc cb ⟨_,_,hcb,hcr,hcl,(by omega),hcn⟩) ?_
 rintro _ p ⟨d,A,⟨T,V,B,W,X,Y,Z⟩,rfl,aa⟩
 have r:=ChG.ext (Ch.refl (fun k=>k=g) f) A iL
 refine aw (vi (d)) ?_
 refine nx<|mw (vp g 0) ?_
 refine cl wN (rR p g ca cc cb (cx B hcr r hcl hcn)) ?_
 rintro _ C ⟨e,D,⟨ab,ac,E,ad,ae,af,ah⟩,rfl,ai⟩
 have s:=ChG.ext r D iL
 refine aw (vi (e)) ?_
 refine nx<|mw (vp g 0) ?_
 refine cl wN (rR C g ca cc cb (cx E hcr s hcl hcn)) ?_
 rintro _ aj ⟨h,F,⟨ak,am,G,an,ao,ap,aq⟩,rfl,au⟩
 have t:=ChG.ext s F iL
 refine aw (vi (h)) ?_
 refine nx<|mw (vi (d)) ?_
 refine ar ((d)*65536) wN ?_
 refine mw (vi (e)) ?_
 refine ar ((e)*256) wN ?_
 refine ar (((d)*65536)+((e)*256)) wN ?_
 refine mw (vi (h)) ?_
 refine ar ((((d)*65536)+((e)*256))+(h)) wN ?_
 refine mw (vi b) ?_
 refine xW ((((d)*65536)+((e)*256))+(h)) b wN rfl rfl rfl rfl rfl (by omega) (by omega) ?_
 have av:=BU (a:=((((d)*65536)+((e)*256))+(h))) (m:=b) (by omega)
 refine aw (vi (((((d)*65536)+((e)*256))+(h)) % b)) ?_
 refine n3<|rt (vi (((((d)*65536)+((e)*256))+(h)) % b)) ?_
 exact ⟨(((((d)*65536)+((e)*256))+(h)) % b),t,(cx G hcr t hcl hcn),rfl,(by omega)⟩

def rr (w:World) (lo:Nat) (v:Value) (x:(List UInt8)):Prop:=∃ (a:Option Addr) (b:Nat),v=.slice a x.length b∧w.ownsRow lo 5 1 (.slice a x.length b) x.length (x.map bV)∧x.length≤1073741824∧Aps [(a,b)]
theorem oC (a:World) (g:Nat) (ca:Option Addr) (cc:Nat) (cb:List UInt8) (N:ph a g 110 ca cc cb) (b:Int) (ac:b≤100000):Fn Tryz.prog 98 #[(vp g 0),(vi b)] a (fun v e=>∃ x:(List UInt8),Ch (fun k=>k=g) a e∧ph e g 110 ca cc cb∧rr e a.heap.size v x∧(x.length=(b:Int).toNat)):=by
 obtain ⟨ci,chh,hcb,hcr,hcl,hci,hcn⟩:=N
 have hgl:=Blk.lt hcb
 refine nu (n:=20) [(vp g 0),(vi b)] Tryz.func98 rfl rfl ?_
 refine sr<|aw (vs none 0 0) ?_
 refine nx<|nF wN rfl rfl mR (fun w=>by kernel_rfl) ?_
 intro t y A O
 have C:=ChG.extk (Ch.refl (fun k=>k=g) a) A
 refine aw (vs (some t) 0 0) ?_
 refine n4<|aw (vi 0) ?_
 refine mW<|mP<|ng ?_
 have D:([]:List UInt8)=([]:List UInt8):=by simp
 have E:0=(([]:List UInt8)).length:=by rw [← D];try (first|rfl|simp only [List.length_set]|simp)
 have P:=(hcb.kp A)
 refine oa [(0,(vp g 0)),(1,(vi b)),(4,(vs none 0 0)),(5,(.slice (some t) (([]:List UInt8)).length 0)),(6,(vi ((0:Nat):Int)))] ⟨rfl,rfl,rfl,rfl,(cA (Value.int .i64) (show (0:Int)=((0:Nat):Int) by omega)),trivial⟩ (fun e' e=>∃ (k:Nat) (l:List UInt8) (F:Env) (f:Option Addr) (i:Nat),e'=pt F [(0,(vp g 0)),(1,(vi b)),(4,(vs none 0 0)),(5,(.slice f (l).length i)),(6,(vi ((k:Nat):Int)))]∧Ch (fun k=>k=g) a e∧Ch (fun k=>k=g∨a.heap.size≤k) y e∧l.length=k∧k≤b.toNat∧(World.ownsRow e a.heap.size 5 1 (.slice f (l).length i) (l).length ((l).map bV)∧(l).length≤1073741824)∧ph e g 110 ca cc cb) (fun e' _=>(b - (intOf (e' 6))).toNat) ?_ ?_
 ·exact fun u=>⟨0,([]:List UInt8),u,(some t),0,rfl,C,(Ch.refl (fun k=>k=g∨a.heap.size≤k) y),(by first|omega|(simp only [List.length_append,List.length_cons,List.length_nil];omega)),(by omega),⟨(by rw [← E,← D];exact O),(by rw [← E];first|exact (by simp)|(simp only [List.length_append,List.length_take,List.length_replicate];omega))⟩,(cx P hcr C hcl hcn)⟩
 ·rintro _ G ⟨k,l,F,f,i,rfl,p,H,ad,ae,⟨j,Q⟩,⟨af,ah,I,ai,aj,ak,am⟩⟩
  refine nh<|sr<|mw (vi ((k:Nat):Int)) ?_
  refine mw (vi b) ?_
  refine pu (vb (decide (((k:Nat):Int) < b))) wN ?_
  refine n2 ?_
  rcases bf (decide (((k:Nat):Int) < b)) with m|m
  ·have an:=dF m
   refine cf m<|oh<|mU<|mU<|nq<|mP<|sr<|mw (vs f (l).length i) ?_
   refine aw (vs f (l).length i) ?_
   refine n3<|rt (vs f (l).length i) ?_
   have J:(l).length=(l).length:=rfl
   rw [J] at j ⊢
   exact ⟨l,p,(cx I hcr p hcl hcn),⟨_,_,rfl,j,(by rw [← J];exact Q),⟨trivial,trivial⟩⟩,(by omega)⟩
  have ao:=dT m
  refine ct m<|nm<|mP<|nh<|ng<|mV ?_
  refine mw (vs f (l).length i) ?_
  refine mw (vp g 0) ?_
  refine cl wN (rR G g ca cc cb (cx I hcr p hcl hcn)) ?_
  rintro _ ap ⟨d,q,⟨aq,au,R,av,ax,ay,az⟩,rfl,a0⟩
  have S:=ChG.ext p q iL
  refine qj (d) wN rfl rfl (by kernel_rfl) ?_
  refine ltB ([(by8 (d))]:List UInt8) wN mR ?_
  intro a1 a2 a3 o T
  have V:=ChG.extk S o
  have W:=(mz (gc j q (ne1 j (hgl))) o)
  refine rl (v:=(vs f (l).length i)) wN rfl rfl rfl mR rfl rfl W (Rd.of_own T) (zg _) (by first|(simp only [List.length_append,List.length_cons,List.length_nil,List.length_replicate,List.length_take,List.length_drop];omega)|omega) (by simp only [maxLen];first|(simp only [List.length_append,List.length_cons,List.length_nil,List.length_replicate,List.length_take,List.length_drop];omega)|omega) (z4 A H q o) ?_
  intro X Y B Z a4
  have K:Y.ownsRow a.heap.size 5 1 X ((l++([(by8 (d))]:List UInt8)):List UInt8).length (((l++([(by8 (d))]:List UInt8)):List UInt8).map bV):=by simpa [Nat.add_assoc] using Z
  obtain ⟨r,s,rfl⟩:=pe K
  have L:=ChG.ext V B (fun k hk=>.inr (nT (Nat.le_refl a.heap.size) (nb j k hk).1))
  have aa:(l++([(by8 (d))]:List UInt8)).length≤1073741824:=by first|(simp only [List.length_append,List.length_cons,List.length_nil,List.length_replicate,List.length_take,List.length_drop];omega)|omega|assumption
  refine aw (vs r (l++([(by8 (d))]:List UInt8)).length s) ?_
  refine mW<|mQ<|mP<|mV ?_
  refine mw (vi ((k:Nat):Int)) ?_
  refine ar (((k:Nat):Int)+1) wN ?_
  refine aw (vi (((k:Nat):Int)+1)) ?_
  refine mW ?_
  have M:((l++([(by8 (d))]:List UInt8)):List UInt8)=(l++([(by8 (d))]:List UInt8)):=by simp
  have ab:=((R.kp o).ch B (fun h=>by have:=(nb j _ h).1;have:=nL hgl (Nat.le_refl a.heap.size);omega))
  refine nX (w0:=G) [(0,(vp g 0)),(1,(vi b)),(4,(vs none 0 0)),(5,(.slice r ((l++([(by8 (d))]:List UInt8))).length s)),(6,(vi (((k+1):Nat):Int)))] ?_ ?_ ?_
  · exact ⟨rfl,rfl,rfl,(cA (fun l:List UInt8=>Value.slice r l.length s) M),(cA (Value.int .i64) (show ((((k:Nat):Int)+1):Int)=(((k+1):Nat):Int) by omega)),trivial⟩
  · exact fun u=>⟨(k+1),(l++([(by8 (d))]:List UInt8)),u,r,s,rfl,L,(ChO.ext (ChO.extk (ChO.ext (ChO.ext (Ch.refl (fun k=>k=g∨a.heap.size≤k) y) H (fun k hk=>hk.elim .inl (fun hk=>.inr (hk)))) q iL) o) B (fun k hk=>.inr (nT (Nat.le_refl a.heap.size) (nb j k hk).1))),(by first|omega|(simp only [List.length_append,List.length_cons,List.length_nil];omega)),(by omega),(M ▸ ⟨K,aa⟩),(cx ab hcr L hcl hcn)⟩
  · show (b - (((k+1):Nat):Int)).toNat < (b - ((k:Nat):Int)).toNat;omega

def nB (a:Int) (b:Int) (d:Int):(Bool):=bif (decide (b≤a)) then (decide (a≤d)) else (false)
theorem pv (f:World) (a:Int) (e:Int) (d:Int) :Fn Tryz.prog 33 #[(vi a),(vi e),(vi d)] f (fun v g=>Keep f g∧O_4 g f.heap.size v (nB a e d)):=by
 refine nu (n:=15) [(vi a),(vi e),(vi d)] Tryz.func33 rfl rfl ?_
 refine sr<|aw vF ?_
 refine nx<|mw (vi a) ?_
 refine mw (vi e) ?_
 refine pu (vb (decide (e≤a))) wN ?_
 refine mw (vb (decide (e≤a))) ?_
 rcases bf (decide (e≤a)) with b|b
 ·have h:=dF b
  iterate 3 refine sk b ?_
  refine pf vF wN b ?_
  refine aw vF ?_
  refine n3<|rt vF ?_
  refine ⟨Ch.refl _ _,?_⟩
  simp only [nB,b,cond_true,cond_false]
  exact rfl
 have i:=dT b
 refine mv (vi a) (wS b) ?_
 refine mv (vi d) (wS b) ?_
 refine pu (vb (decide (a≤d))) (wS b) ?_
 refine pk (vb (decide (a≤d))) wN b ?_
 refine aw (vb (decide (a≤d))) ?_
 refine n3<|rt (vb (decide (a≤d))) ?_
 refine ⟨Ch.refl _ _,?_⟩
 simp only [nB,b,cond_true,cond_false]
 exact rfl
theorem nS {n a b:Int} (h:nB n a b=true):a≤n∧n≤b:=by
  unfold nB at h
  by_cases h1:a≤n <;> simp [h1] at h
  exact ⟨h1,h⟩
theorem og {n a b:Int} (h:nB n a b=false):n < a∨b < n:=by
  unfold nB at h
  by_cases h1:a≤n <;> simp [h1] at h <;> omega

theorem pX:∀ w,(zeroValue 34).run Tryz.prog w=.ok (va [(vi 0),(vs none 0 0)]) w:=fun w=>by kernel_rfl
theorem ni:∀ w,(sizeOf 34).run Tryz.prog w=.ok 2 w:=fun w=>by kernel_rfl
theorem oA:∀ w,(isAgg 23).run Tryz.prog w=.ok false w:=fun w=>by kernel_rfl
theorem nf:SlTy Tryz.prog 23 3 1 8 (vi 0):=CN Tryz.underlying23 (by kernel_rfl) rfl rfl
theorem vo:∀ w,(sizeOf 23).run Tryz.prog w=.ok 1 w:=fun w=>by kernel_rfl
theorem nJ:∀ w,(isAgg 34).run Tryz.prog w=.ok true w:=fun w=>by kernel_rfl
def BD (w:World) (lo:Nat) (v:Value) (x:(PWin)):Prop:=∃ (a:Option Addr) (b:Nat),v=.agg #[.int .i64 x.Top,.slice a x.Bits.length b]∧w.ownsRow lo 3 1 (.slice a x.Bits.length b) x.Bits.length (x.Bits.map iV)∧x.Bits.length≤1073741824∧Aps [(a,b)]
def qT:PWin:={Top:=(-1),Bits:=List.replicate 32 0}
theorem wT (b:World)  :Fn Tryz.prog 76 #[] b (fun v d=>Keep b d∧BD d b.heap.size v (qT)):=by
 refine nu (n:=14) [] Tryz.func76 rfl rfl ?_
 refine sr<|al [(vi 0),(vs none 0 0)] wN pX ?_
 intro r s H t i I
 refine nx<|pu (va [(vi (-1)),(vs none 0 0)]) wN ?_
 refine al [(vi 0),(vs none 0 0)] wN pX ?_
 intro e ae m B f J
 refine sv [(vi (-1)),(vs none 0 0)] wN ni J ?_
 intro o a K af
 have L:=(((Ch.base b).extk i).extk f).ext a (fun k hk=>by subst hk;exact nT i.size m)
 refine n4<|aw (vi 0) ?_
 refine mW<|mP<|ng ?_
 have M:(([]:List Int):List Int)=List.replicate 0 (0:Int):=by first|rfl|exact List.replicate_succ'.symm
 refine oa [(0,(vp r 0)),(1,(vp e 0)),(2,(vi ((0:Nat):Int)))] ⟨rfl,rfl,(cA (Value.int .i64) (show (0:Int)=((0:Nat):Int) by omega)),trivial⟩ (fun e' d=>∃ (k:Nat) (C:Env) (ab1_1x:Option Addr) (cb1_1x:Nat),e'=pt C [(0,(vp r 0)),(1,(vp e 0)),(2,(vi ((k:Nat):Int)))]∧Ch (fun k=>b.heap.size≤k) b d∧Ch (fun k=>s.heap.size≤k) o d∧k≤32∧(World.ownsRow d o.heap.size 3 1 (.slice ab1_1x (List.replicate k (0:Int)).length cb1_1x) (List.replicate k (0:Int)).length ((List.replicate k (0:Int)).map iV)∧(List.replicate k (0:Int)).length≤1073741824)∧Blk d e 34 [(vi (-1)),(.slice ab1_1x (List.replicate k (0:Int)).length cb1_1x)]) (fun e' _=>(32 - (intOf (e' 2))).toNat) ?_ ?_
 ·exact fun u=>⟨0,u,none,0,rfl,L,(Ch.refl (fun k=>s.heap.size≤k) o),(by omega),(M ▸ ⟨(nM _ _ _ _),(by simp)⟩),K⟩
 ·rintro _ N ⟨k,C,ab1_1x,cb1_1x,rfl,D,w,ah,⟨g,O⟩,x⟩
  have hpl:(List.replicate k (0:Int)).length=k:=List.length_replicate
  refine nh<|sr<|mw (vi ((k:Nat):Int)) ?_
  refine pu (vb (decide (((k:Nat):Int) < 32))) wN ?_
  refine n2 ?_
  rcases bf (decide (((k:Nat):Int) < 32)) with j|j
  ·have ai:=dF j
   refine cf j<|oh<|mU<|mU<|nq<|mP<|sr<|lN [(vi (-1)),(vs ab1_1x (List.replicate k (0:Int)).length cb1_1x)] wN nJ ni x ?_
   have P:=(((I.kp f).ch a (nN (nL t (m)))).ch w (Nat.not_le.2 (t)))
   refine sv [(vi (-1)),(vs ab1_1x (List.replicate k (0:Int)).length cb1_1x)] wN ni P ?_
   intro Q E R aj
   have S:=D.ext E (fun k hk=>by subst hk;exact H)
   refine n3 ?_
   have T:=(gc g E (ne1 g (nL t (z2 f a))))
   refine rc [(vi (-1)),(vs ab1_1x (List.replicate k (0:Int)).length cb1_1x)] R nJ ni ?_
   refine ⟨S.keep0,?_⟩
   have V:qT={Top:=(-1),Bits:=(List.replicate k (0:Int)):PWin}:=by (obtain rfl:k=32:=by omega);rfl
   rw [V]
   exact ⟨_,_,rfl,(mO T (z3 i f a)),O,⟨trivial,trivial⟩⟩
  have ak:=dT j
  refine ct j<|nm<|mP<|nh<|ng<|mV ?_
  refine pu (vp e 1) wN ?_
  refine ld (vs ab1_1x (List.replicate k (0:Int)).length cb1_1x) wN oA x ?_
  refine ltI ([0]:List Int) wN nf ?_
  intro am an Q l W
  have X:=(mz g l)
  refine apI (List.replicate k (0:Int)) ([0]:List Int) wN nf X (Rd.of_own W) (z2 w l) ?_
  intro p q ao y F ap Y
  have Z:=(D.extk l).ext y (fun k hk=>nT (z3 i f a) (nb g k hk).1)
  refine pu (vp e 1) wN ?_
  have aa:=((x.kp l).ch y (fun h=>by have:=(nb g _ h).1;have:=nL B a.size;omega))
  refine sf (vs p ((List.replicate k (0:Int))++([0]:List Int)).length q) wN vo aa ?_
  intro aq A ab au
  have ac:=Z.ext A (fun k hk=>by subst hk;exact nT i.size m)
  refine mW<|mQ<|mP<|mV ?_
  refine mw (vi ((k:Nat):Int)) ?_
  refine ar (((k:Nat):Int)+1) wN ?_
  refine aw (vi (((k:Nat):Int)+1)) ?_
  refine mW ?_
  have ad:=(gc F A (ne1 F (nL B a.size)))
  have G:(((List.replicate k (0:Int))++([0]:List Int)):List Int)=List.replicate (k+1) (0:Int):=by first|rfl|exact List.replicate_succ'.symm
  refine nX (w0:=N) [(0,(vp r 0)),(1,(vp e 0)),(2,(vi (((k+1):Nat):Int)))] ?_ ?_ ?_
  · exact ⟨rfl,rfl,(cA (Value.int .i64) (show ((((k:Nat):Int)+1):Int)=(((k+1):Nat):Int) by omega)),trivial⟩
  · exact fun u=>⟨(k+1),u,p,q,rfl,ac,(((((Ch.refl (fun k=>s.heap.size≤k) o).ext w (fun k hk=>hk)).extk l).ext y (fun k hk=>nT (z2 f a) (nb g k hk).1)).ext A (fun k hk=>by subst hk;exact m)),(by omega),(G ▸ ⟨ad,Y⟩),(by have hb:=ab;first|exact hb|(rw [G] at hb;exact hb))⟩
  · show (32 - (((k+1):Nat):Int)).toNat < (32 - ((k:Nat):Int)).toNat;omega

abbrev se:List Value:=[(vi 0),(vs none 0 0),(vi 0),(vi 0),(vs none 0 0)]
theorem pm:∀ w,(zeroValue 36).run Tryz.prog w=.ok (va se) w:=fun w=>by kernel_rfl
theorem mY:∀ w,(sizeOf 36).run Tryz.prog w=.ok 5 w:=fun w=>by kernel_rfl
theorem nv:∀ w,(isAgg 36).run Tryz.prog w=.ok true w:=fun w=>by kernel_rfl
def Ar (w:World) (lo:Nat) (v:Value) (x:(PEp)):Prop:=∃ (a:Option Addr) (b:Nat) (d:Option Addr) (e:Nat),v=.agg #[.int .i64 x.N,.slice a x.Key.length b,.int .i64 x.Seq,.int .i64 x.Win.Top,.slice d x.Win.Bits.length e]∧w.ownsRow lo 5 1 (.slice a x.Key.length b) x.Key.length (x.Key.map bV)∧x.Key.length≤1073741824∧w.ownsRow lo 3 1 (.slice d x.Win.Bits.length e) x.Win.Bits.length (x.Win.Bits.map iV)∧x.Win.Bits.length≤1073741824∧Aps [(a,b),(d,e)]
def s_EpNew (a:Int) (b:List UInt8):(PEp):=bif (nB a 0 4294967295) then (bif (decide ((b.length:Int)=32)) then ({N:=a,Key:=b,Seq:=0,Win:=(qT):PEp}) else ({N:=0,Key:=[],Seq:=0,Win:={Top:=0,Bits:=[]:PWin}:PEp})) else ({N:=0,Key:=[],Seq:=0,Win:={Top:=0,Bits:=[]:PWin}:PEp})
theorem tM (g:World) (a:Int) (y:Value) (b:List UInt8) (L:pI g y b) :Fn Tryz.prog 38 #[(vi a),y] g (fun v A=>Keep g A∧Ar A g.heap.size v (s_EpNew a b)):=by
 obtain ⟨i,j,rfl,B,M⟩:=L
 refine nu (n:=20) [(vi a),(vs i b.length j)] Tryz.func38 rfl rfl ?_
 refine sr<|al se wN pm ?_
 intro O P C D r E
 have F:=(Ch.base g).extk r
 refine n4<|jT1 [(0,(vi a)),(1,(vs i b.length j)),(4,(vp O 0))] (s_EpNew a b={N:=0,Key:=[],Seq:=0,Win:={Top:=0,Bits:=[]:PWin}:PEp}) ?_ fun G=>?_
 ·intro Q R H ai
  refine sr<|pu (va se) wN ?_
  have S:=(E.kp H)
  refine sv se wN mY S ?_
  intro T V W aj
  have X:=(F.extk H).ext V (fun k hk=>by subst hk;exact C)
  refine n1<|rc se W nv mY ?_
  refine ⟨X.keep0,?_⟩
  rw [Q]
  exact ⟨_,_,_,_,rfl,(nM _ _ _ _),(by simp),(nM _ _ _ _),(by simp),⟨⟨(Ap.nl _),trivial⟩,⟨trivial,trivial⟩⟩⟩
 refine mw (vi a) ?_
 refine cl wN (pv P a 0 4294967295) ?_
 rintro _ R ⟨e,rfl⟩
 have I:=F.extk e
 refine pu (vb (!(nB a 0 4294967295))) wN ?_
 refine mw (vb (!(nB a 0 4294967295))) ?_
 rcases bf (nB a 0 4294967295) with d|d
 ·have ak:=og d
  iterate 3 refine sk (cA not d) ?_
  refine pk vT wN (cA not d) ?_
  refine n2<|ct T1 ?_
  have Y:s_EpNew a b={N:=0,Key:=[],Seq:=0,Win:={Top:=0,Bits:=[]:PWin}:PEp}:=by simp only [s_EpNew,d,cond_true,cond_false]
  exact wj (G Y _ e)
 have am:=nS d
 refine mv (vs i b.length j) (wS (cA not d)) ?_
 refine ln (wS (cA not d)) mR (B.from0 I) ?_
 refine pu (vb (!(decide ((b.length:Int)=32)))) (wS (cA not d)) ?_
 refine pf (vb (!(decide ((b.length:Int)=32)))) wN (cA not d) ?_
 refine n2 ?_
 rcases bf (decide ((b.length:Int)=32)) with f|f
 ·have an:=dF f
  refine ct (cA not f) ?_
  have Z:s_EpNew a b={N:=0,Key:=[],Seq:=0,Win:={Top:=0,Bits:=[]:PWin}:PEp}:=by simp only [s_EpNew,d,f,cond_true,cond_false]
  exact wj (G Z _ e)
 have ao:=dT f
 refine cf (cA not f)<|y1<|mw (vi a) ?_
 refine nF wN rfl rfl mR (fun w=>by kernel_rfl) ?_
 intro ap T h aa
 have J:=I.extk h
 refine mw (vs i b.length j) ?_
 refine ap0 b wN mR aa (B.from0 J) h.size ?_
 intro l m K o s aq
 refine cl wN (wT K ) ?_
 rintro _ au ⟨t,⟨p,q,rfl,u,ab,av⟩⟩
 refine pu (va [(vi a),(vs l b.length m),(vi 0),(vi ((qT).Top)),(vs p ((qT).Bits).length q)]) wN ?_
 have ac:=((((E.kp e).kp h).kp o).kp t)
 refine sv [(vi a),(vs l b.length m),(vi 0),(vi ((qT).Top)),(vs p ((qT).Bits).length q)] wN mY ac ?_
 intro ax x ad ay
 have ae:=((J.extk o).extk t).ext x (fun k hk=>by subst hk;exact C)
 refine n3 ?_
 have af:=(gc (mz s t) x (ne1 s (nL D e.size)))
 have ah:=(gc u x (ne1 u (nL D (z3 e h o))))
 refine rc [(vi a),(vs l b.length m),(vi 0),(vi ((qT).Top)),(vs p ((qT).Bits).length q)] ad nv mY ?_
 refine ⟨ae.keep0,?_⟩
 simp only [s_EpNew,d,f,cond_true,cond_false]
 exact ⟨_,_,_,_,rfl,(mO af (z2 r e)),M,(mO ah (z4 r e h o)),ab,⟨⟨(Ap.lt s u (Nat.le_refl K.heap.size)),trivial⟩,⟨trivial,trivial⟩⟩⟩
theorem Bk (n:Int) (k:List UInt8):0≤(s_EpNew n k).N∧(s_EpNew n k).N≤4294967295:=by
  unfold s_EpNew
  cases h1:nB n 0 4294967295 with
  | false=>exact ⟨Int.le_refl _,(show (0:Int)≤4294967295 by decide)⟩
  | true =>
    cases decide ((k.length:Int)=32) with
    | false=>exact ⟨Int.le_refl _,(show (0:Int)≤4294967295 by decide)⟩
    | true=>exact nS h1

abbrev tT:List Value:=[(vi 0),(vs none 0 0),(vi 0),(vs none 0 0),(vi 0),(vi 0),(vs none 0 0),(vi 0),(vs none 0 0),(vi 0),(vi 0),(vs none 0 0),vF,(vi 0),(vs none 0 0)]
theorem pJ:∀ w,(zeroValue 38).run Tryz.prog w=.ok (va tT) w:=fun w=>by kernel_rfl
theorem mX:∀ w,(sizeOf 38).run Tryz.prog w=.ok 15 w:=fun w=>by kernel_rfl
theorem nj:∀ w,(isAgg 38).run Tryz.prog w=.ok true w:=fun w=>by kernel_rfl
def CF (w:World) (lo:Nat) (v:Value) (x:(PChan)):Prop:=∃ (a:Option Addr) (b:Nat) (d:Option Addr) (e:Nat) (f:Option Addr) (g:Nat) (h:Option Addr) (i:Nat) (j:Option Addr) (k:Nat) (l:Option Addr) (m:Nat),v=.agg #[.int .i64 x.Role,.slice a x.Sn.length b,.int .i64 x.Cur.N,.slice d x.Cur.Key.length e,.int .i64 x.Cur.Seq,.int .i64 x.Cur.Win.Top,.slice f x.Cur.Win.Bits.length g,.int .i64 x.Old.N,.slice h x.Old.Key.length i,.int .i64 x.Old.Seq,.int .i64 x.Old.Win.Top,.slice j x.Old.Win.Bits.length k,.bool x.HasOld,.int .i64 x.Until,.slice l x.Next.length m]∧w.ownsRow lo 5 1 (.slice a x.Sn.length b) x.Sn.length (x.Sn.map bV)∧x.Sn.length≤1073741824∧w.ownsRow lo 5 1 (.slice d x.Cur.Key.length e) x.Cur.Key.length (x.Cur.Key.map bV)∧x.Cur.Key.length≤1073741824∧w.ownsRow lo 3 1 (.slice f x.Cur.Win.Bits.length g) x.Cur.Win.Bits.length (x.Cur.Win.Bits.map iV)∧x.Cur.Win.Bits.length≤1073741824∧w.ownsRow lo 5 1 (.slice h x.Old.Key.length i) x.Old.Key.length (x.Old.Key.map bV)∧x.Old.Key.length≤1073741824∧w.ownsRow lo 3 1 (.slice j x.Old.Win.Bits.length k) x.Old.Win.Bits.length (x.Old.Win.Bits.map iV)∧x.Old.Win.Bits.length≤1073741824∧w.ownsRow lo 5 1 (.slice l x.Next.length m) x.Next.length (x.Next.map bV)∧x.Next.length≤1073741824∧Aps [(a,b),(d,e),(f,g),(h,i),(j,k),(l,m)]
theorem nH {w:World} {x:List UInt8} {a:Option Addr} {b:Nat} (d:Rd w 1 (.slice a x.length b) x.length (x.map bV)) (e:x.length≤1073741824):pI w (vs a x.length b) x:=⟨_,_,rfl,d,e⟩
def s_ChanNew (a:Int) (b:List UInt8) (d:List UInt8):(PChan):=bif (nB a 0 1) then (bif (decide ((b.length:Int)=12)) then (bif (decide ((d.length:Int)=32)) then ({Role:=a,Sn:=b,Cur:=(s_EpNew 0 d),Old:={N:=0,Key:=[],Seq:=0,Win:={Top:=0,Bits:=[]:PWin}:PEp},HasOld:=false,Until:=0,Next:=[]:PChan}) else ({Role:=0,Sn:=[],Cur:={N:=0,Key:=[],Seq:=0,Win:={Top:=0,Bits:=[]:PWin}:PEp},Old:={N:=0,Key:=[],Seq:=0,Win:={Top:=0,Bits:=[]:PWin}:PEp},HasOld:=false,Until:=0,Next:=[]:PChan})) else ({Role:=0,Sn:=[],Cur:={N:=0,Key:=[],Seq:=0,Win:={Top:=0,Bits:=[]:PWin}:PEp},Old:={N:=0,Key:=[],Seq:=0,Win:={Top:=0,Bits:=[]:PWin}:PEp},HasOld:=false,Until:=0,Next:=[]:PChan})) else ({Role:=0,Sn:=[],Cur:={N:=0,Key:=[],Seq:=0,Win:={Top:=0,Bits:=[]:PWin}:PEp},Old:={N:=0,Key:=[],Seq:=0,Win:={Top:=0,Bits:=[]:PWin}:PEp},HasOld:=false,Until:=0,Next:=[]:PChan})
theorem yP (j:World) (d:Int) (K:Value) (b:List UInt8) (X:pI j K b) (L:Value) (a:List UInt8) (Y:pI j L a) :Fn Tryz.prog 134 #[(vi d),K,L] j (fun v M=>Keep j M∧CF M j.heap.size v (s_ChanNew d b a)):=by
 obtain ⟨m,o,rfl,O,Z⟩:=X
 obtain ⟨p,q,rfl,P,aa⟩:=Y
 refine nu (n:=28) [(vi d),(vs m b.length o),(vs p a.length q)] Tryz.func134 rfl rfl ?_
 refine sr<|al tT wN pJ ?_
 intro ab ac Q D r R
 have S:=(Ch.base j).extk r
 refine n4<|jT1 [(0,(vi d)),(1,(vs m b.length o)),(2,(vs p a.length q)),(6,(vp ab 0))] (s_ChanNew d b a={Role:=0,Sn:=[],Cur:={N:=0,Key:=[],Seq:=0,Win:={Top:=0,Bits:=[]:PWin}:PEp},Old:={N:=0,Key:=[],Seq:=0,Win:={Top:=0,Bits:=[]:PWin}:PEp},HasOld:=false,Until:=0,Next:=[]:PChan}) ?_ fun E=>?_
 ·intro ad ae T a3
  refine sr<|pu (va tT) wN ?_
  have af:=(R.kp T)
  refine sv tT wN mX af ?_
  intro ah ai aj a4
  have ak:=(S.extk T).ext ai (fun k hk=>by subst hk;exact Q)
  refine n1<|rc tT aj nj mX ?_
  refine ⟨ak.keep0,?_⟩
  rw [ad]
  exact ⟨_,_,_,_,_,_,_,_,_,_,_,_,rfl,(nM _ _ _ _),(by simp),(nM _ _ _ _),(by simp),(nM _ _ _ _),(by simp),(nM _ _ _ _),(by simp),(nM _ _ _ _),(by simp),(nM _ _ _ _),(by simp),⟨⟨(Ap.nl _),⟨(Ap.nl _),⟨(Ap.nl _),⟨(Ap.nl _),⟨(Ap.nl _),trivial⟩⟩⟩⟩⟩,⟨⟨(Ap.nl _),⟨(Ap.nl _),⟨(Ap.nl _),⟨(Ap.nl _),trivial⟩⟩⟩⟩,⟨⟨(Ap.nl _),⟨(Ap.nl _),⟨(Ap.nl _),trivial⟩⟩⟩,⟨⟨(Ap.nl _),⟨(Ap.nl _),trivial⟩⟩,⟨⟨(Ap.nl _),trivial⟩,⟨trivial,trivial⟩⟩⟩⟩⟩⟩⟩
 refine mw (vi d) ?_
 refine cl wN (pv ac d 0 1) ?_
 rintro _ ae ⟨g,rfl⟩
 have F:=S.extk g
 refine pu (vb (!(nB d 0 1))) wN ?_
 refine mw (vb (!(nB d 0 1))) ?_
 rcases bf (nB d 0 1) with e|e
 ·have a5:=og e
  iterate 3 refine sk (cA not e) ?_
  refine pk vT wN (cA not e) ?_
  refine mw vT ?_
  iterate 3 refine sk T1 ?_
  refine pk vT wN T1 ?_
  refine n2<|ct T1 ?_
  have am:s_ChanNew d b a={Role:=0,Sn:=[],Cur:={N:=0,Key:=[],Seq:=0,Win:={Top:=0,Bits:=[]:PWin}:PEp},Old:={N:=0,Key:=[],Seq:=0,Win:={Top:=0,Bits:=[]:PWin}:PEp},HasOld:=false,Until:=0,Next:=[]:PChan}:=by simp only [s_ChanNew,e,cond_true,cond_false]
  exact wj (E am _ g)
 have a6:=nS e
 refine mv (vs m b.length o) (wS (cA not e)) ?_
 refine ln (wS (cA not e)) mR (O.from0 F) ?_
 refine pu (vb (!(decide ((b.length:Int)=12)))) (wS (cA not e)) ?_
 refine pf (vb (!(decide ((b.length:Int)=12)))) wN (cA not e) ?_
 refine mw (vb (!(decide ((b.length:Int)=12)))) ?_
 rcases bf (decide ((b.length:Int)=12)) with f|f
 ·have a7:=dF f
  iterate 3 refine sk (cA not f) ?_
  refine pk vT wN (cA not f) ?_
  refine n2<|ct T1 ?_
  have an:s_ChanNew d b a={Role:=0,Sn:=[],Cur:={N:=0,Key:=[],Seq:=0,Win:={Top:=0,Bits:=[]:PWin}:PEp},Old:={N:=0,Key:=[],Seq:=0,Win:={Top:=0,Bits:=[]:PWin}:PEp},HasOld:=false,Until:=0,Next:=[]:PChan}:=by simp only [s_ChanNew,e,f,cond_true,cond_false]
  exact wj (E an _ g)
 have a8:=dT f
 refine mv (vs p a.length q) (wS (cA not f)) ?_
 refine ln (wS (cA not f)) mR (P.from0 F) ?_
 refine pu (vb (!(decide ((a.length:Int)=32)))) (wS (cA not f)) ?_
 refine pf (vb (!(decide ((a.length:Int)=32)))) wN (cA not f) ?_
 refine n2 ?_
 rcases bf (decide ((a.length:Int)=32)) with h|h
 ·have a9:=dF h
  refine ct (cA not h) ?_
  have ao:s_ChanNew d b a={Role:=0,Sn:=[],Cur:={N:=0,Key:=[],Seq:=0,Win:={Top:=0,Bits:=[]:PWin}:PEp},Old:={N:=0,Key:=[],Seq:=0,Win:={Top:=0,Bits:=[]:PWin}:PEp},HasOld:=false,Until:=0,Next:=[]:PChan}:=by simp only [s_ChanNew,e,f,h,cond_true,cond_false]
  exact wj (E ao _ g)
 have aA:=dT h
 refine cf (cA not h)<|y1<|mw (vi d) ?_
 refine nF wN rfl rfl mR (fun w=>by kernel_rfl) ?_
 intro aB ah i ap
 have V:=F.extk i
 refine mw (vs m b.length o) ?_
 refine ap0 b wN mR ap (O.from0 V) i.size ?_
 intro s t G l u aC
 have W:=V.extk l
 refine mw (vs p a.length q) ?_
 refine cl wN (tM G 0 _ a (nH (P.from0 W) aa)) ?_
 rintro _ aD ⟨H,⟨x,y,A,B,rfl,I,aq,J,au,av⟩⟩
 refine pu (va [(vi d),(vs s b.length t),(vi ((s_EpNew 0 a).N)),(vs x ((s_EpNew 0 a).Key).length y),(vi ((s_EpNew 0 a).Seq)),(vi (((s_EpNew 0 a).Win).Top)),(vs A (((s_EpNew 0 a).Win).Bits).length B),(vi 0),(vs none 0 0),(vi 0),(vi 0),(vs none 0 0),vF,(vi 0),(vs none 0 0)]) wN ?_
 have ax:=((((R.kp g).kp i).kp l).kp H)
 refine sv [(vi d),(vs s b.length t),(vi ((s_EpNew 0 a).N)),(vs x ((s_EpNew 0 a).Key).length y),(vi ((s_EpNew 0 a).Seq)),(vi (((s_EpNew 0 a).Win).Top)),(vs A (((s_EpNew 0 a).Win).Bits).length B),(vi 0),(vs none 0 0),(vi 0),(vi 0),(vs none 0 0),vF,(vi 0),(vs none 0 0)] wN mX ax ?_
 intro aE C ay aF
 have az:=(W.extk H).ext C (fun k hk=>by subst hk;exact Q)
 refine n3 ?_
 have a0:=(gc (mz u H) C (ne1 u (nL D g.size)))
 have a1:=(gc I C (ne1 I (nL D (z3 g i l))))
 have a2:=(gc J C (ne1 J (nL D (z3 g i l))))
 refine rc [(vi d),(vs s b.length t),(vi ((s_EpNew 0 a).N)),(vs x ((s_EpNew 0 a).Key).length y),(vi ((s_EpNew 0 a).Seq)),(vi (((s_EpNew 0 a).Win).Top)),(vs A (((s_EpNew 0 a).Win).Bits).length B),(vi 0),(vs none 0 0),(vi 0),(vi 0),(vs none 0 0),(vb false),(vi 0),(vs none 0 0)] ay nj mX ?_
 refine ⟨az.keep0,?_⟩
 simp only [s_ChanNew,e,f,h,cond_true,cond_false]
 exact ⟨_,_,_,_,_,_,_,_,_,_,_,_,rfl,(mO a0 (z2 r g)),Z,(mO a1 (z4 r g i l)),aq,(mO a2 (z4 r g i l)),au,(nM _ _ _ _),(by simp),(nM _ _ _ _),(by simp),(nM _ _ _ _),(by simp),⟨⟨(Ap.lt u I (Nat.le_refl G.heap.size)),⟨(Ap.lt u J (Nat.le_refl G.heap.size)),⟨(Ap.nr _),⟨(Ap.nr _),⟨(Ap.nr _),trivial⟩⟩⟩⟩⟩,⟨⟨(av.1.1),⟨(Ap.nr _),⟨(Ap.nr _),⟨(Ap.nr _),trivial⟩⟩⟩⟩,⟨⟨(Ap.nr _),⟨(Ap.nr _),⟨(Ap.nr _),trivial⟩⟩⟩,⟨⟨(Ap.nl _),⟨(Ap.nl _),trivial⟩⟩,⟨⟨(Ap.nl _),trivial⟩,⟨trivial,trivial⟩⟩⟩⟩⟩⟩⟩
theorem By (a:Int) (b d:List UInt8):(s_ChanNew a b d).Sn.length≤b.length:=by
  unfold s_ChanNew
  cases nB a 0 1 <;> cases decide ((b.length:Int)=12) <;> cases decide ((d.length:Int)=32) <;> first|exact Nat.zero_le _|exact Nat.le_refl _

def Dr (w:World) (g:Nat) (v:Value) (x:(List Int)):Prop:=∃ (a:Option Addr) (b:Nat),v=.slice a x.length b∧Rd w 1 (.slice a x.length b) x.length (x.map iV)∧x.length≤1073741824∧(0 < x.length→∀ z,a=some z→z.block ≠ g)
theorem oz (b:World) (g:Nat) (ca:Option Addr) (cc:Nat) (cb:List UInt8) (o:ph b g 110 ca cc cb) (l:Value) (a:List Int) (p:Dr b g l a) (s:0 < a.length):Fn Tryz.prog 61 #[(vp g 0),l] b (fun v f=>∃ x:(Int),Ch (fun k=>k=g) b f∧ph f g 110 ca cc cb∧O_3 f b.heap.size v x∧(x ∈ a)):=by
 obtain ⟨ci,chh,hcb,hcr,hcl,hci,hcn⟩:=o
 have hgl:=Blk.lt hcb
 obtain ⟨h,i,rfl,j,t,m⟩:=p
 refine nu (n:=12) [(vp g 0),(vs h a.length i)] Tryz.func61 rfl rfl ?_
 refine sr<|aw (vi 0) ?_
 refine nx<|mw (vs h a.length i) ?_
 refine mw (vp g 0) ?_
 refine mw (vs h a.length i) ?_
 refine ln wN nf j ?_
 refine cl wN (ow b g ca cc cb ⟨_,_,hcb,hcr,hcl,(by omega),hcn⟩ (a.length:Int)) ?_
 rintro _ u ⟨d,q,⟨w,y,r,A,B,C,D⟩,rfl,E⟩
 have e:=ChG.ext (Ch.refl (fun k=>k=g) b) q iL
 refine ix wN (d) nf (Rd.chP j e m) ?_
 refine ei (x:=a) (((d)).toNat) wN mT (Rd.chP j e m) ?_
 refine aw (vi (a.getD ((d)).toNat 0)) ?_
 refine n3<|rt (vi (a.getD ((d)).toNat 0)) ?_
 exact ⟨(a.getD ((d)).toNat 0),e,(cx r hcr e hcl hcn),rfl,(by exact yC (by omega))⟩

theorem pV (a:World) (g:Nat) (ca:Option Addr) (cc:Nat) (cb:List UInt8) (h:ph a g 110 ca cc cb) (b:Int) :Fn Tryz.prog 63 #[(vp g 0),(vi b)] a (fun v e=>∃ x:(Bool),Ch (fun k=>k=g) a e∧ph e g 110 ca cc cb∧O_4 e a.heap.size v x∧(True)):=by
 obtain ⟨ci,chh,hcb,hcr,hcl,hci,hcn⟩:=h
 have hgl:=Blk.lt hcb
 refine nu (n:=9) [(vp g 0),(vi b)] Tryz.func63 rfl rfl ?_
 refine sr<|aw vF ?_
 refine nx<|mw (vp g 0) ?_
 refine mw (vi b) ?_
 refine cl wN (ow a g ca cc cb ⟨_,_,hcb,hcr,hcl,(by omega),hcn⟩ b) ?_
 rintro _ l ⟨d,i,⟨m,o,j,p,q,r,s⟩,rfl,t⟩
 have f:=ChG.ext (Ch.refl (fun k=>k=g) a) i iL
 refine pu (vb (decide ((d)=0))) wN ?_
 refine aw (vb (decide ((d)=0))) ?_
 refine n3<|rt (vb (decide ((d)=0))) ?_
 exact ⟨decide ((d)=0),f,(cx j hcr f hcl hcn),rfl,trivial⟩

def AP (w:World) (lo:Nat) (v:Value) (x:(List Int)):Prop:=∃ (a:Option Addr) (b:Nat),v=.slice a x.length b∧w.ownsRow lo 3 1 (.slice a x.length b) x.length (x.map iV)∧x.length≤1073741824∧Aps [(a,b)]
def xQ (w:World) (v:Value) (x:(List Int)):Prop:=∃ (a:Option Addr) (b:Nat),v=.slice a x.length b∧Rd w 1 (.slice a x.length b) x.length (x.map iV)∧x.length≤1073741824
theorem zV (a:World) (g:Nat) (ca:Option Addr) (cc:Nat) (cb:List UInt8) (aW:ph a g 110 ca cc cb) (E:Int) (bS:0≤E∧E≤100):Fn Tryz.prog 152 #[(vp g 0),(vi E)] a (fun v F=>∃ x:(List Int),Ch (fun k=>k=g) a F∧ph F g 110 ca cc cb∧AP F a.heap.size v x∧(x.length≤101)):=by
 obtain ⟨ci,chh,hcb,hcr,hcl,hci,hcn⟩:=aW
 have hgl:=Blk.lt hcb
 refine nu (n:=47) [(vp g 0),(vi E)] Tryz.func152 rfl rfl ?_
 refine sr<|aw (vs none 0 0) ?_
 refine nx<|nF wN rfl rfl nf (fun w=>by kernel_rfl) ?_
 intro ak bT s am
 have aX:=ChG.extk (Ch.refl (fun k=>k=g) a) s
 refine aw (vs (some ak) 0 0) ?_
 refine nx<|mw (vp g 0) ?_
 refine ltI ([0,0,0,1000,5000,281474976710000]:List Int) wN nf ?_
 intro bU bW aY t az
 have a0:=ChG.extk aX t
 have aZ:=((hcb.kp s).kp t)
 refine cl wN (oz aY g ca cc cb (cx aZ hcr a0 hcl hcn) _ ([0,0,0,1000,5000,281474976710000]:List Int) ⟨_,_,rfl,(Rd.of_own az),(by simp),(fun _ z hz=>by have Q:=(nb az z.block (by rw [hz];rfl)).1;have R:=nL hgl s.size;omega)⟩ (by simp)) ?_
 rintro _ ba ⟨A,B,⟨bX,bY,bb,bZ,cd,ce,cg⟩,rfl,bc⟩
 have a1:=ChG.ext a0 B iL
 have q15m:A=0∨A=0∨A=0∨A=1000∨A=5000∨A=281474976710000:=by simpa using bc
 refine aw (vi (A)) ?_
 refine n4<|mw (vp g 0) ?_
 refine mw (vi E) ?_
 refine ar (E+1) wN ?_
 refine cl wN (ow ba g ca cc cb (cx bb hcr a1 hcl hcn) (E+1)) ?_
 rintro _ S ⟨an,C,⟨cj,ck,bd,cm,cn,co,cp⟩,rfl,cq⟩
 have a2:=ChG.ext a1 C iL
 refine aw (vi (an)) ?_
 refine mW<|mP<|ng ?_
 have be:=(gc (gc (mz am t) B (ne1 am (hgl))) C (ne1 am (hgl)))
 have a3:([]:List Int)=([]:List Int):=by simp
 have a4:0=(([]:List Int)).length:=by rw [← a3];try (first|rfl|simp only [List.length_set]|simp)
 refine oa [(0,(vp g 0)),(4,(vs none 0 0)),(5,(.slice (some ak) (([]:List Int)).length 0)),(6,(vi (A))),(7,(vi (an)))] ⟨rfl,rfl,rfl,rfl,rfl,trivial⟩ (fun e' F=>∃ (l:List Int) (b:Int) (q:Int) (a5:Env) (j:Option Addr) (m:Nat),e'=pt a5 [(0,(vp g 0)),(4,(vs none 0 0)),(5,(.slice j (l).length m)),(6,(vi b)),(7,(vi q))]∧Ch (fun k=>k=g) a F∧Ch (fun k=>k=g∨a.heap.size≤k) S F∧(l.length:Int)+q≤E∧0≤q∧0≤b∧b+3000*q≤281474977010000∧(World.ownsRow F a.heap.size 3 1 (.slice j (l).length m) (l).length ((l).map iV)∧(l).length≤1073741824)∧ph F g 110 ca cc cb) (fun e' _=>((intOf (e' 7))).toNat) ?_ ?_
 ·exact fun u=>⟨([]:List Int),(A),(an),u,(some ak),0,rfl,a2,(Ch.refl (fun k=>k=g∨a.heap.size≤k) S),(by first|omega|(simp only [List.length_append,List.length_cons,List.length_nil];omega)),(by omega),(by omega),(by omega),⟨(by rw [← a4,← a3];exact be),(by rw [← a4];first|exact (by simp)|(simp only [List.length_append,List.length_take,List.length_replicate];omega))⟩,(cx bd hcr a2 hcl hcn)⟩
 ·rintro _ T ⟨l,b,q,a5,j,m,rfl,V,D,cr,cs,cu,cv,⟨e,bg⟩,⟨cw,cy,a6,cz,c0,c1,c2⟩⟩
  refine nh<|sr<|mw (vi q) ?_
  refine pu (vb (decide (0 < q))) wN ?_
  refine n2 ?_
  rcases bf (decide (0 < q)) with H|H
  ·have c3:=dF H
   refine cf H<|oh<|mU<|mU<|nq<|mP<|nh<|sr<|mw (vp g 0) ?_
   refine cl wN (pV T g ca cc cb (cx a6 hcr V hcl hcn) 5) ?_
   rintro _ a7 ⟨bh,I,⟨c4,c5,a8,c6,c7,c8,c9⟩,rfl,cC⟩
   have ao:=ChG.ext V I iL
   refine n2 ?_
   rcases bf bh with ap|ap
   ·refine cf ap<|y1<|mw (vs j (l).length m) ?_
    refine aw (vs j (l).length m) ?_
    refine n3 ?_
    have a9:=(gc e I (ne1 e (hgl)))
    refine rt (vs j (l).length m) ?_
    have aA:(l).length=(l).length:=rfl
    rw [aA] at a9 ⊢
    exact ⟨l,ao,(cx a8 hcr ao hcl hcn),⟨_,_,rfl,a9,(by rw [← aA];exact bg),⟨trivial,trivial⟩⟩,(by (first|omega|(simp only [List.length_append,List.length_cons,List.length_nil];omega)))⟩
   refine ct ap<|mV ?_
   refine mw (vs j (l).length m) ?_
   refine mw (vp g 0) ?_
   refine ltI ([(-1),281474976710655,281474976710656]:List Int) wN nf ?_
   intro cD cE W X aB
   have aC:=ChG.extk ao X
   have bi:=(a8.kp X)
   refine cl wN (oz W g ca cc cb (cx bi hcr aC hcl hcn) _ ([(-1),281474976710655,281474976710656]:List Int) ⟨_,_,rfl,(Rd.of_own aB),(by simp),(fun _ z hz=>by have Q:=(nb aB z.block (by rw [hz];rfl)).1;have R:=nL hgl (z6 s t B C D I);omega)⟩ (by simp)) ?_
   rintro _ Y ⟨o,aq,⟨cF,cG,bj,cH,cI,cJ,cK⟩,rfl,bk⟩
   have bl:=ChG.ext aC aq iL
   have q208m:o=(-1)∨o=281474976710655∨o=281474976710656:=by simpa using bk
   refine ltI ([(o)]:List Int) wN nf ?_
   intro cL cM aD Z bm
   have bn:=ChG.extk bl Z
   have bo:=(mz (gc (mz (gc e I (ne1 e (hgl))) X) aq (ne1 e (hgl))) Z)
   refine rl (v:=(vs j (l).length m)) wN rfl rfl rfl nf rfl rfl bo (Rd.of_own bm) (vX _) (by first|(simp only [List.length_append,List.length_cons,List.length_nil,List.length_replicate,List.length_take,List.length_drop];omega)|omega) (by simp only [maxLen];first|(simp only [List.length_append,List.length_cons,List.length_nil,List.length_replicate,List.length_take,List.length_drop];omega)|omega) (z9 s t B C D I X aq Z) ?_
   intro bp aa aE bq cN
   have aF:aa.ownsRow a.heap.size 3 1 bp ((l++([(o)]:List Int)):List Int).length (((l++([(o)]:List Int)):List Int).map iV):=by simpa [Nat.add_assoc] using bq
   obtain ⟨ab,ac,rfl⟩:=pe aF
   have aG:=ChG.ext bn aE (fun k hk=>.inr (nT (Nat.le_refl a.heap.size) (nb e k hk).1))
   have br:(l++([(o)]:List Int)).length≤1073741824:=by first|(simp only [List.length_append,List.length_cons,List.length_nil,List.length_replicate,List.length_take,List.length_drop];omega)|omega|assumption
   refine aw (vs ab (l++([(o)]:List Int)).length ac) ?_
   refine nx<|mw (vs ab (l++([(o)]:List Int)).length ac) ?_
   refine aw (vs ab (l++([(o)]:List Int)).length ac) ?_
   refine n3<|rt (vs ab (l++([(o)]:List Int)).length ac) ?_
   have bu:=((bj.kp Z).ch aE (fun h=>by have:=(nb e _ h).1;have:=nL hgl (Nat.le_refl a.heap.size);omega))
   exact ⟨(l++([(o)]:List Int)),aG,(cx bu hcr aG hcl hcn),⟨_,_,rfl,aF,br,⟨trivial,trivial⟩⟩,(by (first|omega|(simp only [List.length_append,List.length_cons,List.length_nil];omega)))⟩
  have cO:=dT H
  refine ct H<|nm<|mP<|nh<|ng<|nh<|sr<|mw (vp g 0) ?_
  refine cl wN (pV T g ca cc cb (cx a6 hcr V hcl hcn) 6) ?_
  rintro _ a7 ⟨bv,y,⟨cP,cQ,aH,cR,cS,cT,cU⟩,rfl,cV⟩
  have au:=ChG.ext V y iL
  refine n2 ?_
  rcases bf bv with av|av
  ·refine cf av<|nm<|mP<|mV ?_
   refine mw (vs j (l).length m) ?_
   refine mw (vi b) ?_
   refine mw (vp g 0) ?_
   refine cl wN (ow a7 g ca cc cb (cx aH hcr au hcl hcn) 40) ?_
   rintro _ W ⟨p,J,⟨cW,cX,bw,cY,cZ,da,db⟩,rfl,dc⟩
   have bz:=ChG.ext au J iL
   refine ar (b+(p)) wN ?_
   refine mw (vp g 0) ?_
   refine ltI ([0,0,20,1000]:List Int) wN nf ?_
   intro dd de Y K aI
   have aJ:=ChG.extk bz K
   have b0:=(bw.kp K)
   refine cl wN (oz Y g ca cc cb (cx b0 hcr aJ hcl hcn) _ ([0,0,20,1000]:List Int) ⟨_,_,rfl,(Rd.of_own aI),(by simp),(fun _ z hz=>by have Q:=(nb aI z.block (by rw [hz];rfl)).1;have R:=nL hgl (z7 s t B C D y J);omega)⟩ (by simp)) ?_
   rintro _ aD ⟨f,ad,⟨df,dg,b1,dh,di,dj,dk⟩,rfl,b2⟩
   have b3:=ChG.ext aJ ad iL
   have q157m:f=0∨f=0∨f=20∨f=1000:=by simpa using b2
   refine ar ((b+(p)) - (f)) wN ?_
   refine ltI ([((b+(p)) - (f))]:List Int) wN nf ?_
   intro dl dm aa L b4
   have b5:=ChG.extk b3 L
   have b6:=(mz (gc (mz (gc (gc e y (ne1 e (hgl))) J (ne1 e (hgl))) K) ad (ne1 e (hgl))) L)
   refine rl (v:=(vs j (l).length m)) wN rfl rfl rfl nf rfl rfl b6 (Rd.of_own b4) (vX _) (by first|(simp only [List.length_append,List.length_cons,List.length_nil,List.length_replicate,List.length_take,List.length_drop];omega)|omega) (by simp only [maxLen];first|(simp only [List.length_append,List.length_cons,List.length_nil,List.length_replicate,List.length_take,List.length_drop];omega)|omega) (z10 s t B C D y J K ad L) ?_
   intro b7 aK ax b8 dn
   have aL:aK.ownsRow a.heap.size 3 1 b7 ((l++([((b+(p)) - (f))]:List Int)):List Int).length (((l++([((b+(p)) - (f))]:List Int)):List Int).map iV):=by simpa [Nat.add_assoc] using b8
   obtain ⟨ae,af,rfl⟩:=pe aL
   have aM:=ChG.ext b5 ax (fun k hk=>.inr (nT (Nat.le_refl a.heap.size) (nb e k hk).1))
   have b9:(l++([((b+(p)) - (f))]:List Int)).length≤1073741824:=by first|(simp only [List.length_append,List.length_cons,List.length_nil,List.length_replicate,List.length_take,List.length_drop];omega)|omega|assumption
   refine aw (vs ae (l++([((b+(p)) - (f))]:List Int)).length af) ?_
   refine mW<|mQ<|mP<|mV ?_
   refine mw (vi q) ?_
   refine ar (q - 1) wN ?_
   refine aw (vi (q - 1)) ?_
   refine mW ?_
   have aN:((l++([((b+(p)) - (f))]:List Int)):List Int)=(l++([((b+(p)) - (f))]:List Int)):=by simp
   have bA:=((b1.kp L).ch ax (fun h=>by have:=(nb e _ h).1;have:=nL hgl (Nat.le_refl a.heap.size);omega))
   refine nX (w0:=T) [(0,(vp g 0)),(4,(vs none 0 0)),(5,(.slice ae ((l++([((b+(p)) - (f))]:List Int))).length af)),(6,(vi b)),(7,(vi (q - 1)))] ?_ ?_ ?_
   · exact ⟨rfl,rfl,(cA (fun l:List Int=>Value.slice ae l.length af) aN),rfl,rfl,trivial⟩
   · exact fun u=>⟨(l++([((b+(p)) - (f))]:List Int)),b,(q - 1),u,ae,af,rfl,aM,(ChO.ext (ChO.extk (ChO.ext (ChO.extk (ChO.ext (ChO.ext (ChO.ext (Ch.refl (fun k=>k=g∨a.heap.size≤k) S) D (fun k hk=>hk.elim .inl (fun hk=>.inr (hk)))) y iL) J iL) K) ad iL) L) ax (fun k hk=>.inr (nT (Nat.le_refl a.heap.size) (nb e k hk).1))),(by first|omega|(simp only [List.length_append,List.length_cons,List.length_nil];omega)),(by omega),(by omega),(by omega),(aN ▸ ⟨aL,b9⟩),(cx bA hcr aM hcl hcn)⟩
   · show ((q - 1)).toNat < (q).toNat;omega
  refine ct av<|mV ?_
  refine mw (vi b) ?_
  refine mw (vp g 0) ?_
  refine ltI ([1,32,900,1023,1024,1025,3000]:List Int) wN nf ?_
  intro dp dq W G aO
  have aP:=ChG.extk au G
  have bB:=(aH.kp G)
  refine cl wN (oz W g ca cc cb (cx bB hcr aP hcl hcn) _ ([1,32,900,1023,1024,1025,3000]:List Int) ⟨_,_,rfl,(Rd.of_own aO),(by simp),(fun _ z hz=>by have Q:=(nb aO z.block (by rw [hz];rfl)).1;have R:=nL hgl (z6 s t B C D y);omega)⟩ (by simp)) ?_
  rintro _ Y ⟨d,M,⟨dr,ds,bC,dt,du,dv,dw⟩,rfl,bD⟩
  have aQ:=ChG.ext aP M iL
  have q79m:d=1∨d=32∨d=900∨d=1023∨d=1024∨d=1025∨d=3000:=by simpa using bD
  refine ar (b+(d)) wN ?_
  refine aw (vi (b+(d))) ?_
  refine mW<|mP<|mV ?_
  refine mw (vs j (l).length m) ?_
  refine mw (vi (b+(d))) ?_
  refine mw (vp g 0) ?_
  refine cl wN (ow Y g ca cc cb (cx bC hcr aQ hcl hcn) 40) ?_
  rintro _ aD ⟨r,N,⟨dx,dy,bE,dz,d0,d1,d2⟩,rfl,d3⟩
  have bF:=ChG.ext aQ N iL
  refine ar ((b+(d))+(r)) wN ?_
  refine mw (vp g 0) ?_
  refine ltI ([0,0,20,1000]:List Int) wN nf ?_
  intro d4 d5 aa O aR
  have aS:=ChG.extk bF O
  have bG:=(bE.kp O)
  refine cl wN (oz aa g ca cc cb (cx bG hcr aS hcl hcn) _ ([0,0,20,1000]:List Int) ⟨_,_,rfl,(Rd.of_own aR),(by simp),(fun _ z hz=>by have Q:=(nb aR z.block (by rw [hz];rfl)).1;have R:=nL hgl (z9 s t B C D y G M N);omega)⟩ (by simp)) ?_
  rintro _ aK ⟨i,ah,⟨d6,d7,bH,d8,d9,dA,dB⟩,rfl,bI⟩
  have bJ:=ChG.ext aS ah iL
  have q108m:i=0∨i=0∨i=20∨i=1000:=by simpa using bI
  refine ar (((b+(d))+(r)) - (i)) wN ?_
  refine ltI ([(((b+(d))+(r)) - (i))]:List Int) wN nf ?_
  intro dC dD dE P bK
  have bL:=ChG.extk bJ P
  have bM:=(mz (gc (mz (gc (gc (mz (gc e y (ne1 e (hgl))) G) M (ne1 e (hgl))) N (ne1 e (hgl))) O) ah (ne1 e (hgl))) P)
  refine rl (v:=(vs j (l).length m)) wN rfl rfl rfl nf rfl rfl bM (Rd.of_own bK) (vX _) (by first|(simp only [List.length_append,List.length_cons,List.length_nil,List.length_replicate,List.length_take,List.length_drop];omega)|omega) (by simp only [maxLen];first|(simp only [List.length_append,List.length_cons,List.length_nil,List.length_replicate,List.length_take,List.length_drop];omega)|omega) (z12 s t B C D y G M N O ah P) ?_
  intro bN bO ay bP dG
  have aT:bO.ownsRow a.heap.size 3 1 bN ((l++([(((b+(d))+(r)) - (i))]:List Int)):List Int).length (((l++([(((b+(d))+(r)) - (i))]:List Int)):List Int).map iV):=by simpa [Nat.add_assoc] using bP
  obtain ⟨ai,aj,rfl⟩:=pe aT
  have aU:=ChG.ext bL ay (fun k hk=>.inr (nT (Nat.le_refl a.heap.size) (nb e k hk).1))
  have bQ:(l++([(((b+(d))+(r)) - (i))]:List Int)).length≤1073741824:=by first|(simp only [List.length_append,List.length_cons,List.length_nil,List.length_replicate,List.length_take,List.length_drop];omega)|omega|assumption
  refine aw (vs ai (l++([(((b+(d))+(r)) - (i))]:List Int)).length aj) ?_
  refine mW<|mQ<|mP<|mV ?_
  refine mw (vi q) ?_
  refine ar (q - 1) wN ?_
  refine aw (vi (q - 1)) ?_
  refine mW ?_
  have aV:((l++([(((b+(d))+(r)) - (i))]:List Int)):List Int)=(l++([(((b+(d))+(r)) - (i))]:List Int)):=by simp
  have bR:=((bH.kp P).ch ay (fun h=>by have:=(nb e _ h).1;have:=nL hgl (Nat.le_refl a.heap.size);omega))
  refine nX (w0:=T) [(0,(vp g 0)),(4,(vs none 0 0)),(5,(.slice ai ((l++([(((b+(d))+(r)) - (i))]:List Int))).length aj)),(6,(vi (b+(d)))),(7,(vi (q - 1)))] ?_ ?_ ?_
  · exact ⟨rfl,rfl,(cA (fun l:List Int=>Value.slice ai l.length aj) aV),rfl,rfl,trivial⟩
  · exact fun u=>⟨(l++([(((b+(d))+(r)) - (i))]:List Int)),(b+(d)),(q - 1),u,ai,aj,rfl,aU,(ChO.ext (ChO.extk (ChO.ext (ChO.extk (ChO.ext (ChO.ext (ChO.extk (ChO.ext (ChO.ext (Ch.refl (fun k=>k=g∨a.heap.size≤k) S) D (fun k hk=>hk.elim .inl (fun hk=>.inr (hk)))) y iL) G) M iL) N iL) O) ah iL) P) ay (fun k hk=>.inr (nT (Nat.le_refl a.heap.size) (nb e k hk).1))),(by first|omega|(simp only [List.length_append,List.length_cons,List.length_nil];omega)),(by omega),(by omega),(by omega),(aV ▸ ⟨aT,bQ⟩),(cx bR hcr aU hcl hcn)⟩
  · show ((q - 1)).toNat < (q).toNat;omega

theorem wQ (f:World) (u:Value) (a:PWin) (G:xP f u a) :Fn Tryz.prog 107 #[u] f (fun v g=>Keep f g∧BD g f.heap.size v (a)):=by
 obtain ⟨b,i,rfl,H,I⟩:=G
 refine nu (n:=10) [(va (pn a b i))] Tryz.func107 rfl rfl ?_
 refine sr<|bx (pn a b i) wN ?_
 intro j x ah ai p y
 refine al [(vi 0),(vs none 0 0)] wN pX ?_
 intro aj q J K l L
 have A:=((Ch.base f).extk p).extk l
 refine mW<|mP<|nh<|ob ([(3,[],[],(fun _ v _=>v=(vp j 0))),(4,[],[0],(fun _ v _=>v=(vi a.Top))),(5,[],[],(fun _ v w=>∃ a0:Addr,v=.slice (some a0) 0 0∧w.ownsRow q.heap.size 3 1 (.slice (some a0) 0 0) 0 [])),(6,[],[],(fun _ v _=>v=(vp j 1))),(7,[],[3],(fun _ v _=>v=(vs b a.Bits.length i))),(8,[],[2,3,4],(fun _ v w=>∃ (b:Option Addr) (r:Nat),v=.slice b a.Bits.length r∧w.ownsRow q.heap.size 3 1 (.slice b a.Bits.length r) a.Bits.length (a.Bits.map iV)∧a.Bits.length≤1073741824∧Aps [(b,r)]))]:GV) (fun _ g=>Keep q g) [] oM rfl (by kernel_rfl) (by kernel_rfl) ?_ (fun _ _ h=>h) (fun _ _ _ _ h _ k=>h.trans k) trivial ?_ ?_ ?_
 ·exact ⟨hV,hE,⟨hV,hE,⟨(fun e v w x h hk=>by obtain ⟨s,he,t⟩:=h;exact ⟨s,he,mz t hk⟩),hE,⟨hV,hE,⟨hV,hE,⟨(fun e v w x h hk=>by obtain ⟨s,M,he,t,N,hap⟩:=h;exact ⟨s,M,he,mz t hk,N,hap⟩),hE,trivial⟩⟩⟩⟩⟩⟩
 ·exact trivial
 ·refine ⟨?_,⟨?_,⟨?_,⟨?_,⟨?_,⟨?_,trivial⟩⟩⟩⟩⟩⟩
  ·intro _ d ak _
   rintro _ _ _ _ _ _
   refine sw<|pu (vp j 0) wN ?_
   exact f1
  ·intro _ d O _
   rintro _ rfl _ _ _ _ _
   refine sw ?_
   have P:=((y.kp l).kp O)
   refine ld (vi a.Top) wN mT P ?_
   exact f1
  ·intro _ d Q _
   rintro _ _ _ _ _ _
   refine sw<|nF wN rfl rfl nf (fun w=>by kernel_rfl) ?_
   intro am B R S
   exact nK R ⟨_,rfl,mO S Q.size⟩
  ·intro _ d an _
   rintro _ _ _ _ _ _
   refine sw<|pu (vp j 1) wN ?_
   exact f1
  ·intro _ d T _
   rintro _ _ _ _ rfl _ _
   refine sw ?_
   have V:=((y.kp l).kp T)
   refine ld (vs b a.Bits.length i) wN oA V ?_
   exact f1
  ·intro _ d C _
   have W:=A.extk C
   rintro _ _ _ ⟨ao,rfl,X⟩ _ rfl _ rfl _
   refine sw<|Bz a.Bits wN nf X (H.from0 W) C.size ?_
   intro ap aq B Y Z au
   exact nK Y ⟨_,_,rfl,Z,I,⟨trivial,trivial⟩⟩
 ·intro _ d D
  rintro _ rfl _ rfl _ ⟨av,rfl,ax⟩ _ rfl _ rfl _ ⟨m,o,rfl,E,aa,-⟩
  refine sw<|pu (va (pn a m o)) wN ?_
  have ab:=(L.kp D)
  refine sv (pn a m o) wN ni ab ?_
  intro B F ac ay
  have ad:=(A.extk D).ext F (fun k hk=>by subst hk;exact nT p.size J)
  refine n3 ?_
  have ae:=(gc E F (ne1 E (K)))
  refine rc (pn a m o) ac nJ ni ?_
  refine ⟨ad.keep0,?_⟩
  have af:a=a:=by rfl
  rw [af]
  exact ⟨_,_,rfl,(mO ae (z2 p l)),aa,⟨trivial,trivial⟩⟩

def oy (b:PWin) (a:Int):(Bool):=decide ((((b.Bits.getD (((a % 1024) / 32)).toNat 0) / (2:Int) ^ (((a % 1024) % 32)).toNat) % 2)=1)
theorem uO (d:World) (h:Value) (b:PWin) (k:xP d h b) (a:Int) (q:b.Bits.length=32) (r:0≤a):Fn Tryz.prog 110 #[h,(vi a)] d (fun v i=>Keep d i∧O_4 i d.heap.size v (oy b a)):=by
 obtain ⟨e,f,rfl,j,s⟩:=k
 refine nu (n:=19) [(va (pn b e f)),(vi a)] Tryz.func110 rfl rfl ?_
 refine sr<|bx (pn b e f) wN ?_
 intro l t u w m o
 have g:=(Ch.base d).extk m
 refine aw vF ?_
 refine nx<|mw (vi a) ?_
 refine qp a 1024 wN rfl rfl (by kernel_rfl) (by first|omega|assumption) ?_
 refine aw (vi (a % 1024)) ?_
 refine nx<|pu (vp l 1) wN ?_
 refine ld (vs e b.Bits.length f) wN oA o ?_
 refine mw (vi (a % 1024)) ?_
 refine rU (a % 1024) 32 wN rfl rfl (by kernel_rfl) (by omega) (by omega) (by omega) ?_
 refine ix wN ((a % 1024) / 32) nf (j.from0 g) ?_
 refine ei (x:=b.Bits) ((((a % 1024) / 32)).toNat) wN mT (j.from0 g) ?_
 refine mw (vi (a % 1024)) ?_
 refine qp (a % 1024) 32 wN rfl rfl (by kernel_rfl) (by first|omega|assumption) ?_
 refine uf (b.Bits.getD (((a % 1024) / 32)).toNat 0) ((a % 1024) % 32) wN rfl rfl rfl rfl rfl (by omega) (by omega) ?_
 refine qc ((b.Bits.getD (((a % 1024) / 32)).toNat 0) / (2:Int) ^ (((a % 1024) % 32)).toNat) 1 2 1 wN rfl rfl (by decide) (by decide) (by decide) (by kernel_rfl) ?_
 refine pu (vb (decide ((((b.Bits.getD (((a % 1024) / 32)).toNat 0) / (2:Int) ^ (((a % 1024) % 32)).toNat) % 2)=1))) wN ?_
 refine aw (vb (decide ((((b.Bits.getD (((a % 1024) / 32)).toNat 0) / (2:Int) ^ (((a % 1024) % 32)).toNat) % 2)=1))) ?_
 refine n3<|rt (vb (decide ((((b.Bits.getD (((a % 1024) / 32)).toNat 0) / (2:Int) ^ (((a % 1024) % 32)).toNat) % 2)=1))) ?_
 refine ⟨g.keep0,?_⟩
 have p:oy b a=decide ((((b.Bits.getD (((a % 1024) / 32)).toNat 0) / (2:Int) ^ (((a % 1024) % 32)).toNat) % 2)=1):=by rfl
 rw [p]
 exact rfl

theorem qX {w:World} {x:PWin} {a:Option Addr} {b:Nat} (d:Rd w 1 (.slice a x.Bits.length b) x.Bits.length (x.Bits.map iV)) (e:x.Bits.length≤1073741824):xP w (va (pn x a b)) x:=⟨_,_,rfl,d,e⟩
def pS (w:PWin):Bool:=bif (decide ((w.Bits.length:Int)=32)) then (bif nB w.Top (-1) 281474976710655 then (bif qf w.Bits then (bif decide (0≤w.Top) && !(oy w w.Top) then false else td (oy w) (w.Top+1) 1024) else false) else false) else false
theorem yM (s:World) (W:Value) (d:PWin) (an:xP s W d) :Fn Tryz.prog 104 #[W] s (fun v t=>Keep s t∧O_4 t s.heap.size v (pS d)):=by
 obtain ⟨E,F,rfl,H,N⟩:=an
 refine nu (n:=46) [(va (pn d E F))] Tryz.func104 rfl rfl ?_
 refine sr<|bx (pn d E F) wN ?_
 intro o ao a9 L ap M
 have O:=(Ch.base s).extk ap
 refine aw vF ?_
 refine n4<|jT1 [(1,(vp o 0)),(2,vF)] (pS d=false) ?_ fun X=>?_
 ·intro aq G au aA
  have av:=O.extk au
  refine sr<|aw vF ?_
  refine n1<|rt vF ?_
  refine ⟨av.keep0,?_⟩
  rw [aq]
  exact rfl
 refine pu (vp o 1) wN ?_
 refine ld (vs E d.Bits.length F) wN oA M ?_
 refine ln wN nf (H.from0 O) ?_
 refine pu (vb (!(decide ((d.Bits.length:Int)=32)))) wN ?_
 refine mw (vb (!(decide ((d.Bits.length:Int)=32)))) ?_
 rcases bf (decide ((d.Bits.length:Int)=32)) with e|e
 ·have aB:=dF e
  iterate 4 refine sk (cA not e) ?_
  refine pk vT wN (cA not e) ?_
  refine n2<|ct T1 ?_
  have ax:pS d=false:=by first|(simp [pS,e];done)|(have hz:=qD (x:=d.Bits) (k:=i) (by omega) (by assumption);simp [pS,e,hz];done)|(have hy:=oB (x:=d.Bits) (k:=i) (by assumption) (by omega);simp [pS,e,hy];done)|(have hy:=oB (x:=d.Bits) (k:=i) (by assumption) (by omega);have hz:=pN (f:=oy d) (a:=d.Top+1) (b:=1024) (q:=q) (by assumption) (by omega) (by omega);simp [pS,e,hy,hz];done)|(have hy:=oB (x:=d.Bits) (k:=i) (by assumption) (by omega);have hz:=pM (f:=oy d) (a:=d.Top+1) (b:=1024) (q:=q) (by assumption) (by omega);simp [pS,e,hy,hz];done)
  exact wj (X ax _ (Ch.refl _ _))
 have aC:=dT e
 refine pu (vp o 0) (wS (cA not e)) ?_
 refine ld (vi d.Top) (wS (cA not e)) mT M ?_
 refine cl (wS (cA not e)) (pv ao d.Top (-1) 281474976710655) ?_
 rintro _ G ⟨B,rfl⟩
 have ay:=O.extk B
 refine pu (vb (!(nB d.Top (-1) 281474976710655))) (wS (cA not e)) ?_
 refine pf (vb (!(nB d.Top (-1) 281474976710655))) wN (cA not e) ?_
 refine n2 ?_
 rcases bf (nB d.Top (-1) 281474976710655) with g|g
 ·have aD:=og g
  refine ct (cA not g) ?_
  have az:pS d=false:=by first|(simp [pS,e,g];done)|(have hz:=qD (x:=d.Bits) (k:=i) (by omega) (by assumption);simp [pS,e,g,hz];done)|(have hy:=oB (x:=d.Bits) (k:=i) (by assumption) (by omega);simp [pS,e,g,hy];done)|(have hy:=oB (x:=d.Bits) (k:=i) (by assumption) (by omega);have hz:=pN (f:=oy d) (a:=d.Top+1) (b:=1024) (q:=q) (by assumption) (by omega) (by omega);simp [pS,e,g,hy,hz];done)|(have hy:=oB (x:=d.Bits) (k:=i) (by assumption) (by omega);have hz:=pM (f:=oy d) (a:=d.Top+1) (b:=1024) (q:=q) (by assumption) (by omega);simp [pS,e,g,hy,hz];done)
  exact wj (X az _ B)
 have aE:=nS g
 refine cf (cA not g)<|y2<|aw (vi 0) ?_
 refine mW<|mP<|ng<|oa [(1,(vp o 0)),(3,(vi ((0:Nat):Int)))] ⟨rfl,(cA (Value.int .i64) (show (0:Int)=((0:Nat):Int) by omega)),trivial⟩ (fun e' t=>∃ (i:Nat) (Y:Env),e'=pt Y [(1,(vp o 0)),(3,(vi ((i:Nat):Int)))]∧Ch (fun k=>s.heap.size≤k) s t∧Ch (fun k=>G.heap.size≤k) G t∧i≤32∧qf (d.Bits.take i)=true) (fun e' _=>(32 - (intOf (e' 3))).toNat) ?_ ?_
 ·exact fun u=>⟨0,u,rfl,ay,(Ch.refl (fun k=>G.heap.size≤k) G),(by omega),(by first|rfl|exact rq (by assumption) (by omega) (by assumption))⟩
 ·rintro _ A ⟨i,Y,rfl,I,K,aF,aG⟩
  refine nh<|sr<|mw (vi ((i:Nat):Int)) ?_
  refine pu (vb (decide (((i:Nat):Int) < 32))) wN ?_
  refine n2 ?_
  rcases bt (decide (((i:Nat):Int) < 32)) with j|j
  ·have aH:=dT j
   refine ct j<|nm<|mP<|nh<|ng<|sr<|pu (vp o 1) wN ?_
   have a0:=((M.kp B).ch K (Nat.not_le.2 (nL L B.size)))
   refine ld (vs E d.Bits.length F) wN oA a0 ?_
   refine mw (vi ((i:Nat):Int)) ?_
   refine ix wN ((i:Nat):Int) nf (H.from0 I) ?_
   refine ei (x:=d.Bits) i wN mT (H.from0 I) ?_
   refine cl wN (pv A (d.Bits.getD i 0) 0 4294967295) ?_
   rintro _ w ⟨Z,rfl⟩
   have aa:=I.extk Z
   refine pu (vb (!(nB (d.Bits.getD i 0) 0 4294967295))) wN ?_
   refine n2 ?_
   rcases bt (nB (d.Bits.getD i 0) 0 4294967295) with y|y
   ·have aI:=nS y
    refine cf (cA not y)<|nm<|mQ<|mP<|mV ?_
    refine mw (vi ((i:Nat):Int)) ?_
    refine ar (((i:Nat):Int)+1) wN ?_
    refine aw (vi (((i:Nat):Int)+1)) ?_
    refine mW<|nX (w0:=A) [(1,(vp o 0)),(3,(vi (((i+1):Nat):Int)))] ?_ ?_ ?_
    · exact ⟨rfl,(cA (Value.int .i64) (show ((((i:Nat):Int)+1):Int)=(((i+1):Nat):Int) by omega)),trivial⟩
    · exact fun u=>⟨(i+1),u,rfl,aa,(((Ch.refl (fun k=>G.heap.size≤k) G).ext K (fun k hk=>hk)).extk Z),(by omega),(by first|rfl|exact rq (by assumption) (by omega) (by assumption))⟩
    · show (32 - (((i+1):Nat):Int)).toNat < (32 - ((i:Nat):Int)).toNat;omega
   have aJ:=og y
   refine ct (cA not y)<|sr<|aw vF ?_
   refine mW<|mP<|oY<|nR<|np<|np<|nR<|np<|rt vF ?_
   refine ⟨aa.keep0,?_⟩
   have a1:pS d=false:=by first|(simp [pS,e,g,j,y];done)|(have hz:=qD (x:=d.Bits) (k:=i) (by omega) (by assumption);simp [pS,e,g,j,y,hz];done)|(have hy:=oB (x:=d.Bits) (k:=i) (by assumption) (by omega);simp [pS,e,g,j,y,hy];done)|(have hy:=oB (x:=d.Bits) (k:=i) (by assumption) (by omega);have hz:=pN (f:=oy d) (a:=d.Top+1) (b:=1024) (q:=q) (by assumption) (by omega) (by omega);simp [pS,e,g,j,y,hy,hz];done)|(have hy:=oB (x:=d.Bits) (k:=i) (by assumption) (by omega);have hz:=pM (f:=oy d) (a:=d.Top+1) (b:=1024) (q:=q) (by assumption) (by omega);simp [pS,e,g,j,y,hy,hz];done)
   rw [a1]
   exact rfl
  have aK:=dF j
  refine cf j<|oh<|mU<|mU<|nq<|mP<|nh<|sr<|pu (vp o 0) wN ?_
  have J:=((M.kp B).ch K (Nat.not_le.2 (nL L B.size)))
  refine ld (vi d.Top) wN mT J ?_
  refine pu (vb (decide (0≤d.Top))) wN ?_
  refine mw (vb (decide (0≤d.Top))) ?_
  rcases bf (decide (0≤d.Top)) with h|h
  ·have aL:=dF h
   iterate 5 refine sk h ?_
   refine pf vF wN h ?_
   refine n2<|cf F1<|y2<|pu (vp o 0) wN ?_
   refine ld (vi d.Top) wN mT J ?_
   refine ar (d.Top+1) wN ?_
   refine aw (vi (d.Top+1)) ?_
   refine mW<|mP<|ng<|oa [(1,(vp o 0)),(4,(vi (d.Top+1)))] ⟨rfl,rfl,trivial⟩ (fun e' t=>∃ (q:Int) (ab:Env),e'=pt ab [(1,(vp o 0)),(4,(vi q))]∧Ch (fun k=>s.heap.size≤k) s t∧Ch (fun k=>A.heap.size≤k) A t∧d.Top+1≤q∧q≤281474976710656∧(∀ m:Int,d.Top+1≤m→m < q→oy d m=false)) (fun e' _=>(1024 - (intOf (e' 4))).toNat) ?_ ?_
   ·exact fun u=>⟨(d.Top+1),u,rfl,I,(Ch.refl (fun k=>A.heap.size≤k) A),(by omega),(by omega),(by first|(intro m P Q;omega)|exact ro (by assumption) (by assumption))⟩
   ·rintro _ w ⟨q,ab,rfl,R,ac,aM,aN,aO⟩
    refine nh<|sr<|mw (vi q) ?_
    refine pu (vb (decide (q < 1024))) wN ?_
    refine n2 ?_
    rcases bf (decide (q < 1024)) with p|p
    ·have aP:=dF p
     refine cf p<|oh<|mU<|mU<|nq<|mP<|sr<|aw vT ?_
     refine n3<|rt vT ?_
     refine ⟨R.keep0,?_⟩
     have a2:pS d=true:=by first|(simp [pS,e,g,j,h,p];done)|(have hz:=qD (x:=d.Bits) (k:=i) (by omega) (by assumption);simp [pS,e,g,j,h,p,hz];done)|(have hy:=oB (x:=d.Bits) (k:=i) (by assumption) (by omega);simp [pS,e,g,j,h,p,hy];done)|(have hy:=oB (x:=d.Bits) (k:=i) (by assumption) (by omega);have hz:=pN (f:=oy d) (a:=d.Top+1) (b:=1024) (q:=q) (by assumption) (by omega) (by omega);simp [pS,e,g,j,h,p,hy,hz];done)|(have hy:=oB (x:=d.Bits) (k:=i) (by assumption) (by omega);have hz:=pM (f:=oy d) (a:=d.Top+1) (b:=1024) (q:=q) (by assumption) (by omega);simp [pS,e,g,j,h,p,hy,hz];done)
     rw [a2]
     exact rfl
    have aQ:=dT p
    refine ct p<|nm<|mP<|nh<|ng<|sr ?_
    have a3:=(J.ch ac (Nat.not_le.2 (nL L (z2 B K))))
    refine lN (pn d E F) wN nJ ni a3 ?_
    refine mw (vi q) ?_
    refine cl wN (uO w _ d (qX (H.from0 R) N) q (by first|assumption|omega) (by first|assumption|omega)) ?_
    rintro _ S ⟨ad,rfl⟩
    have ae:=R.extk ad
    refine n2 ?_
    rcases bf (oy d q) with C|C
    ·refine cf C<|nm<|mQ<|mP<|mV ?_
     refine mw (vi q) ?_
     refine ar (q+1) wN ?_
     refine aw (vi (q+1)) ?_
     refine mW<|nX (w0:=w) [(1,(vp o 0)),(4,(vi (q+1)))] ?_ ?_ ?_
     · exact ⟨rfl,rfl,trivial⟩
     · exact fun u=>⟨(q+1),u,rfl,ae,(((Ch.refl (fun k=>A.heap.size≤k) A).ext ac (fun k hk=>hk)).extk ad),(by omega),(by omega),(by first|(intro m P Q;omega)|exact ro (by assumption) (by assumption))⟩
     · show (1024 - (q+1)).toNat < (1024 - q).toNat;omega
    refine ct C<|sr<|aw vF ?_
    refine mW<|mP<|oY<|nR<|np<|np<|nR<|np<|rt vF ?_
    refine ⟨ae.keep0,?_⟩
    have a4:pS d=false:=by first|(simp [pS,e,g,j,h,p,C];done)|(have hz:=qD (x:=d.Bits) (k:=i) (by omega) (by assumption);simp [pS,e,g,j,h,p,C,hz];done)|(have hy:=oB (x:=d.Bits) (k:=i) (by assumption) (by omega);simp [pS,e,g,j,h,p,C,hy];done)|(have hy:=oB (x:=d.Bits) (k:=i) (by assumption) (by omega);have hz:=pN (f:=oy d) (a:=d.Top+1) (b:=1024) (q:=q) (by assumption) (by omega) (by omega);simp [pS,e,g,j,h,p,C,hy,hz];done)|(have hy:=oB (x:=d.Bits) (k:=i) (by assumption) (by omega);have hz:=pM (f:=oy d) (a:=d.Top+1) (b:=1024) (q:=q) (by assumption) (by omega);simp [pS,e,g,j,h,p,C,hy,hz];done)
    rw [a4]
    exact rfl
  have aR:=dT h
  refine lN (pn d E F) (wS h) nJ ni J ?_
  refine pu (vp o 0) (wS h) ?_
  refine ld (vi d.Top) (wS h) mT J ?_
  refine cl (wS h) (uO A _ d (qX (H.from0 I) N) d.Top (by first|assumption|omega) (by first|assumption|omega)) ?_
  rintro _ w ⟨T,rfl⟩
  have af:=I.extk T
  refine pu (vb (!(oy d d.Top))) (wS h) ?_
  refine pk (vb (!(oy d d.Top))) wN h ?_
  refine n2 ?_
  rcases bf (oy d d.Top) with l|l
  ·refine ct (cA not l)<|sr<|aw vF ?_
   refine n1<|rt vF ?_
   refine ⟨af.keep0,?_⟩
   have a5:pS d=false:=by first|(simp [pS,e,g,j,h,l];done)|(have hz:=qD (x:=d.Bits) (k:=i) (by omega) (by assumption);simp [pS,e,g,j,h,l,hz];done)|(have hy:=oB (x:=d.Bits) (k:=i) (by assumption) (by omega);simp [pS,e,g,j,h,l,hy];done)|(have hy:=oB (x:=d.Bits) (k:=i) (by assumption) (by omega);have hz:=pN (f:=oy d) (a:=d.Top+1) (b:=1024) (q:=q) (by assumption) (by omega) (by omega);simp [pS,e,g,j,h,l,hy,hz];done)|(have hy:=oB (x:=d.Bits) (k:=i) (by assumption) (by omega);have hz:=pM (f:=oy d) (a:=d.Top+1) (b:=1024) (q:=q) (by assumption) (by omega);simp [pS,e,g,j,h,l,hy,hz];done)
   rw [a5]
   exact rfl
  refine cf (cA not l)<|y2<|pu (vp o 0) wN ?_
  have ah:=(J.kp T)
  refine ld (vi d.Top) wN mT ah ?_
  refine ar (d.Top+1) wN ?_
  refine aw (vi (d.Top+1)) ?_
  refine mW<|mP<|ng<|oa [(1,(vp o 0)),(4,(vi (d.Top+1)))] ⟨rfl,rfl,trivial⟩ (fun e' t=>∃ (q:Int) (ai:Env),e'=pt ai [(1,(vp o 0)),(4,(vi q))]∧Ch (fun k=>s.heap.size≤k) s t∧Ch (fun k=>w.heap.size≤k) w t∧d.Top+1≤q∧q≤281474976710656∧(∀ m:Int,d.Top+1≤m→m < q→oy d m=false)) (fun e' _=>(1024 - (intOf (e' 4))).toNat) ?_ ?_
  ·exact fun u=>⟨(d.Top+1),u,rfl,af,(Ch.refl (fun k=>w.heap.size≤k) w),(by omega),(by omega),(by first|(intro m P Q;omega)|exact ro (by assumption) (by assumption))⟩
  ·rintro _ S ⟨q,ai,rfl,V,aj,aS,aT,aU⟩
   refine nh<|sr<|mw (vi q) ?_
   refine pu (vb (decide (q < 1024))) wN ?_
   refine n2 ?_
   rcases bf (decide (q < 1024)) with r|r
   ·have aV:=dF r
    refine cf r<|oh<|mU<|mU<|nq<|mP<|sr<|aw vT ?_
    refine n3<|rt vT ?_
    refine ⟨V.keep0,?_⟩
    have a6:pS d=true:=by first|(simp [pS,e,g,j,h,l,r];done)|(have hz:=qD (x:=d.Bits) (k:=i) (by omega) (by assumption);simp [pS,e,g,j,h,l,r,hz];done)|(have hy:=oB (x:=d.Bits) (k:=i) (by assumption) (by omega);simp [pS,e,g,j,h,l,r,hy];done)|(have hy:=oB (x:=d.Bits) (k:=i) (by assumption) (by omega);have hz:=pN (f:=oy d) (a:=d.Top+1) (b:=1024) (q:=q) (by assumption) (by omega) (by omega);simp [pS,e,g,j,h,l,r,hy,hz];done)|(have hy:=oB (x:=d.Bits) (k:=i) (by assumption) (by omega);have hz:=pM (f:=oy d) (a:=d.Top+1) (b:=1024) (q:=q) (by assumption) (by omega);simp [pS,e,g,j,h,l,r,hy,hz];done)
    rw [a6]
    exact rfl
   have aW:=dT r
   refine ct r<|nm<|mP<|nh<|ng<|sr ?_
   have a7:=(ah.ch aj (Nat.not_le.2 (nL L (z3 B K T))))
   refine lN (pn d E F) wN nJ ni a7 ?_
   refine mw (vi q) ?_
   refine cl wN (uO S _ d (qX (H.from0 V) N) q (by first|assumption|omega) (by first|assumption|omega)) ?_
   rintro _ aX ⟨ak,rfl⟩
   have am:=V.extk ak
   refine n2 ?_
   rcases bf (oy d q) with D|D
   ·refine cf D<|nm<|mQ<|mP<|mV ?_
    refine mw (vi q) ?_
    refine ar (q+1) wN ?_
    refine aw (vi (q+1)) ?_
    refine mW<|nX (w0:=S) [(1,(vp o 0)),(4,(vi (q+1)))] ?_ ?_ ?_
    · exact ⟨rfl,rfl,trivial⟩
    · exact fun u=>⟨(q+1),u,rfl,am,(((Ch.refl (fun k=>w.heap.size≤k) w).ext aj (fun k hk=>hk)).extk ak),(by omega),(by omega),(by first|(intro m P Q;omega)|exact ro (by assumption) (by assumption))⟩
    · show (1024 - (q+1)).toNat < (1024 - q).toNat;omega
   refine ct D<|sr<|aw vF ?_
   refine mW<|mP<|oY<|nR<|np<|np<|nR<|np<|rt vF ?_
   refine ⟨am.keep0,?_⟩
   have a8:pS d=false:=by first|(simp [pS,e,g,j,h,l,r,D];done)|(have hz:=qD (x:=d.Bits) (k:=i) (by omega) (by assumption);simp [pS,e,g,j,h,l,r,D,hz];done)|(have hy:=oB (x:=d.Bits) (k:=i) (by assumption) (by omega);simp [pS,e,g,j,h,l,r,D,hy];done)|(have hy:=oB (x:=d.Bits) (k:=i) (by assumption) (by omega);have hz:=pN (f:=oy d) (a:=d.Top+1) (b:=1024) (q:=q) (by assumption) (by omega) (by omega);simp [pS,e,g,j,h,l,r,D,hy,hz];done)|(have hy:=oB (x:=d.Bits) (k:=i) (by assumption) (by omega);have hz:=pM (f:=oy d) (a:=d.Top+1) (b:=1024) (q:=q) (by assumption) (by omega);simp [pS,e,g,j,h,l,r,D,hy,hz];done)
   rw [a8]
   exact rfl
theorem Ay {w:PWin} (h:pS w=true):qf w.Bits=true∧w.Bits.length=32 ∧ -1≤w.Top∧w.Top≤281474976710655:=by
  unfold pS at h
  cases h0:decide ((w.Bits.length:Int)=32) with
  | false=>simp only [h0,cond_false] at h;cases h
  | true =>
    cases h1:nB w.Top (-1) 281474976710655 with
    | false=>simp only [h0,h1,cond_true,cond_false] at h;cases h
    | true =>
      cases h2:qf w.Bits with
      | false=>simp only [h0,h1,h2,cond_true,cond_false] at h;cases h
      | true =>
        have b:=dT h0
        have a:=nS h1
        exact ⟨rfl,by omega,a.1,a.2⟩

def qd (a:Int):(Int):=bif (decide (a < 1024)) then (0) else (((a - 1024)+1))
theorem yH (d:World) (a:Int) (f:-1≤a∧a≤1000000000000000):Fn Tryz.prog 109 #[(vi a)] d (fun v e=>Keep d e∧O_3 e d.heap.size v (qd a)):=by
 refine nu (n:=8) [(vi a)] Tryz.func109 rfl rfl ?_
 refine sr<|aw (vi 0) ?_
 refine n4<|mw (vi a) ?_
 refine pu (vb (decide (a < 1024))) wN ?_
 refine n2 ?_
 rcases bt (decide (a < 1024)) with b|b
 ·have g:=dT b
  refine ct b<|sr<|aw (vi 0) ?_
  refine n1<|rt (vi 0) ?_
  refine ⟨Ch.refl _ _,?_⟩
  simp only [qd,b,cond_true,cond_false]
  exact rfl
 have h:=dF b
 refine cf b<|y1<|mw (vi a) ?_
 refine ar (a - 1024) wN ?_
 refine ar ((a - 1024)+1) wN ?_
 refine aw (vi ((a - 1024)+1)) ?_
 refine n3<|rt (vi ((a - 1024)+1)) ?_
 refine ⟨Ch.refl _ _,?_⟩
 simp only [qd,b,cond_true,cond_false]
 exact rfl

def oN (a:PWin) (b:Int):(Bool):=bif (pS a) then (bif (nB b 0 281474976710655) then (bif (decide (a.Top < b)) then (true) else (bif (decide ((qd a.Top)≤b)) then (!(oy a b)) else (false))) else (false)) else (false)
theorem wU (h:World) (r:Value) (a:PWin) (C:xP h r a) (b:Int) :Fn Tryz.prog 73 #[r,(vi b)] h (fun v s=>Keep h s∧O_4 s h.heap.size v (oN a b)):=by
 obtain ⟨i,j,rfl,t,u⟩:=C
 refine nu (n:=30) [(va (pn a i j)),(vi b)] Tryz.func73 rfl rfl ?_
 refine sr<|bx (pn a i j) wN ?_
 intro l D P Q E w
 have m:=(Ch.base h).extk E
 refine aw vF ?_
 refine n4<|jT1 [(1,(vi b)),(2,(vp l 0)),(4,vF)] (oN a b=false) ?_ fun x=>?_
 ·intro F y G R
  have H:=m.extk G
  refine sr<|aw vF ?_
  refine n1<|rt vF ?_
  refine ⟨H.keep0,?_⟩
  rw [F]
  exact rfl
 refine lN (pn a i j) wN nJ ni w ?_
 refine cl wN (yM D _ a (qX (t.from0 m) u)) ?_
 rintro _ y ⟨k,rfl⟩
 refine pu (vb (!(pS a))) wN ?_
 refine mw (vb (!(pS a))) ?_
 rcases bf (pS a) with e|e
 ·iterate 3 refine sk (cA not e) ?_
  refine pk vT wN (cA not e) ?_
  refine n2<|ct T1 ?_
  have I:oN a b=false:=by simp only [oN,e,cond_true,cond_false]
  exact wj (x I _ k)
 have S:=Ay e
 refine mv (vi b) (wS (cA not e)) ?_
 refine cl (wS (cA not e)) (pv y b 0 281474976710655) ?_
 rintro _ J ⟨o,rfl⟩
 have A:=(m.extk k).extk o
 refine pu (vb (!(nB b 0 281474976710655))) (wS (cA not e)) ?_
 refine pf (vb (!(nB b 0 281474976710655))) wN (cA not e) ?_
 refine n2 ?_
 rcases bf (nB b 0 281474976710655) with g|g
 ·have T:=og g
  refine ct (cA not g) ?_
  have K:oN a b=false:=by simp only [oN,e,g,cond_true,cond_false]
  exact wj (x K _ (k.trans o))
 have V:=nS g
 refine cf (cA not g)<|y1<|mw (vi b) ?_
 refine pu (vp l 0) wN ?_
 have p:=((w.kp k).kp o)
 refine ld (vi a.Top) wN mT p ?_
 refine pu (vb (decide (a.Top < b))) wN ?_
 refine mw (vb (decide (a.Top < b))) ?_
 rcases bt (decide (a.Top < b)) with d|d
 ·have W:=dT d
  iterate 6 refine sk d ?_
  refine su ?_
  refine su ?_
  refine su ?_
  refine su ?_
  refine sk d ?_
  refine pk vT wN d ?_
  refine aw vT ?_
  refine n3<|rt vT ?_
  refine ⟨A.keep0,?_⟩
  simp only [oN,e,g,d,cond_true,cond_false]
  exact rfl
 have X:=dF d
 refine mv (vi b) (wS d) ?_
 refine pu (vp l 0) (wS d) ?_
 refine ld (vi a.Top) (wS d) mT p ?_
 refine cl (wS d) (yH J a.Top (by omega)) ?_
 rintro _ L ⟨B,rfl⟩
 have q:=A.extk B
 refine pu (vb (decide ((qd a.Top)≤b))) (wS d) ?_
 refine mv (vb (decide ((qd a.Top)≤b))) (wS d) ?_
 rcases bf (decide ((qd a.Top)≤b)) with f|f
 ·have Y:=dF f
  iterate 4 refine sk f ?_
  refine pf vF (wS d) f ?_
  refine pf vF wN d ?_
  refine aw vF ?_
  refine n3<|rt vF ?_
  refine ⟨q.keep0,?_⟩
  simp only [oN,e,g,d,f,cond_true,cond_false]
  exact rfl
 have Z:=dT f
 have M:=(p.kp B)
 refine lN (pn a i j) (wS f) nJ ni M ?_
 refine mv (vi b) (wS f) ?_
 refine cl (wS f) (uO L _ a (qX (t.from0 q) u) b (by first|assumption|omega) (by first|assumption|omega)) ?_
 rintro _ aa ⟨N,rfl⟩
 have O:=q.extk N
 refine pu (vb (!(oy a b))) (wS f) ?_
 refine pk (vb (!(oy a b))) (wS d) f ?_
 refine pf (vb (!(oy a b))) wN d ?_
 refine aw (vb (!(oy a b))) ?_
 refine n3<|rt (vb (!(oy a b))) ?_
 refine ⟨O.keep0,?_⟩
 simp only [oN,e,g,d,f,cond_true,cond_false]
 exact rfl
theorem rn {w:PWin} {n:Int} (h:oN w n=true):qf w.Bits=true∧w.Bits.length=32 ∧ -1≤w.Top∧w.Top≤281474976710655∧0≤n∧n≤281474976710655:=by
  unfold oN at h
  cases h1:pS w with
  | false=>simp only [h1,cond_false] at h;cases h
  | true =>
    cases h2:nB n 0 281474976710655 with
    | false=>simp only [h1,h2,cond_true,cond_false] at h;cases h
    | true =>
      have a:=Ay h1
      have b:=nS h2
      exact ⟨a.1,a.2.1,a.2.2.1,a.2.2.2,b.1,b.2⟩

def zn (w:World) (lo:Nat) (v:Value) (x:(PWin)×(Bool)):Prop:=∃ (a:Option Addr) (b:Nat),v=.tuple #[.agg #[.int .i64 x.1.Top,.slice a x.1.Bits.length b],.bool x.2]∧w.ownsRow lo 3 1 (.slice a x.1.Bits.length b) x.1.Bits.length (x.1.Bits.map iV)∧x.1.Bits.length≤1073741824∧Aps [(a,b)]
def qA (w:PWin) (n:Int):PWin×Bool:=bif oN w n then ({Top:=bif decide (w.Top < n) then n else w.Top,Bits:=wd w.Bits w.Top n:PWin},true) else (w,false)
theorem wV (H:World) (ak:Value) (d:PWin) (aL:xP H ak d) (e:Int) :Fn Tryz.prog 75 #[ak,(vi e)] H (fun v I=>Keep H I∧zn I H.heap.size v (qA d e)):=by
 obtain ⟨Y,Z,rfl,am,an⟩:=aL
 refine nu (n:=73) [(va (pn d Y Z)),(vi e)] Tryz.func75 rfl rfl ?_
 refine sr<|bx (pn d Y Z) wN ?_
 intro P bX bY S t aM
 refine al [(vi 0),(vs none 0 0)] wN pX ?_
 intro ab C T o q V
 have ao:=((Ch.base H).extk t).extk q
 refine aw vF ?_
 refine nx ?_
 have ap:=(aM.kp q)
 refine lN (pn d Y Z) wN nJ ni ap ?_
 refine cl wN (wQ C _ d (qX (am.from0 ao) an)) ?_
 rintro _ W ⟨r,⟨g,i,rfl,m,X,bZ⟩⟩
 refine al [(vi 0),(vs none 0 0)] wN pX ?_
 intro s ca p cb D aN
 refine sv (pn (d) g i) wN ni aN ?_
 intro aO E aq cc
 have au:=((ao.extk r).extk D).ext E (fun k hk=>by subst hk;exact nT (z3 t q r) p)
 refine n4 ?_
 have av:=(((ap.kp r).kp D).ch E (nN (nL S (nT (z2 q r) p))))
 refine lN (pn d Y Z) wN nJ ni av ?_
 refine mw (vi e) ?_
 refine cl wN (wU aO _ d (qX (am.from0 au) an) e) ?_
 rintro _ ac ⟨A,rfl⟩
 have ax:=au.extk A
 refine pu (vb (!(oN d e))) wN ?_
 refine n2 ?_
 rcases bf (oN d e) with F|F
 ·refine ct (cA not F)<|sr ?_
  have aP:=(aq.kp A)
  refine lN (pn (d) g i) wN nJ ni aP ?_
  have aQ:=((((V.kp r).kp D).ch E (nN (nL o (nT r.size p)))).kp A)
  refine sv (pn (d) g i) wN ni aQ ?_
  intro ay az aR cd
  have aS:=ax.ext az (fun k hk=>by subst hk;exact nT t.size T)
  refine aw vF ?_
  refine n1 ?_
  have aT:=(gc (mz (gc (mz m D) E (ne2 m (p))) A) az (ne1 m (o)))
  refine rc2 (pn (d) g i) (vb false) aR nJ ni ?_
  refine ⟨aS.keep0,?_⟩
  have aU:qA d e=((d),false):=by simp only [qA,F,cond_true,cond_false]
  rw [aU]
  exact ⟨_,_,rfl,(mO aT (z2 t q)),X,⟨trivial,trivial⟩⟩
 have ce:=rn F
 refine cf (cA not F)<|y1<|aw (vi 0) ?_
 refine n4<|pu (vp P 0) wN ?_
 have ad:=(av.kp A)
 refine ld (vi d.Top) wN mT ad ?_
 refine ar (d.Top+1) wN ?_
 refine aw (vi (d.Top+1)) ?_
 refine mW<|mP<|ng ?_
 have aV:=(mz (gc (mz m D) E (ne2 m (p))) A)
 have aW:((d).Bits:List Int)=pC d.Bits (d.Top+1) 0:=by rfl
 have aX:=(aq.kp A)
 refine oa [(1,(vi e)),(2,(vp P 0)),(4,(vp ab 0)),(5,vF),(6,(vp s 0)),(7,(vi ((0:Nat):Int))),(8,(vi ((d.Top+1)+((0:Nat):Int))))] ⟨rfl,rfl,rfl,rfl,rfl,(cA (Value.int .i64) (show (0:Int)=((0:Nat):Int) by omega)),(cA (Value.int .i64) (show ((d.Top+1):Int)=((d.Top+1)+((0:Nat):Int)) by omega)),trivial⟩ (fun e' I=>∃ (j:Nat) (a0:Env),e'=pt a0 [(1,(vi e)),(2,(vp P 0)),(4,(vp ab 0)),(5,vF),(6,(vp s 0)),(7,(vi ((j:Nat):Int))),(8,(vi ((d.Top+1)+((j:Nat):Int))))]∧Ch (fun k=>H.heap.size≤k) H I∧Ch (fun k=>C.heap.size≤k) ac I∧j≤1024∧(d.Top+((j:Nat):Int)≤e∨j=0)∧World.ownsRow I C.heap.size 3 1 (.slice g ((d).Bits).length i) ((d).Bits).length ((pC d.Bits (d.Top+1) j).map iV)∧Blk I s 34 [(vi ((d).Top)),(vs g ((d).Bits).length i)]) (fun e' _=>(1024 - (intOf (e' 7))).toNat) ?_ ?_
 ·exact fun u=>⟨0,u,rfl,ax,(Ch.refl (fun k=>C.heap.size≤k) ac),(by omega),(by omega),(by rw [← aW];exact aV),aX⟩
 ·rintro _ ay ⟨j,a0,rfl,ae,J,cg,ci,G,B⟩
  have hwl:=qo d.Bits (d.Top+1) j
  have hwi:=rV (rK (l:=d.Bits) (rn (w:=d) (n:=e) (by assumption)).1 (d.Top+1) j) ((((d.Top+1)+((j:Nat):Int)) % 1024) / 32).toNat
  have hwn:=rV (rK (l:=d.Bits) (rn (w:=d) (n:=e) (by assumption)).1 (d.Top+1) j) ((e % 1024) / 32).toNat
  refine nh<|sr<|mw (vi ((d.Top+1)+((j:Nat):Int))) ?_
  refine mw (vi e) ?_
  refine pu (vb (decide (((d.Top+1)+((j:Nat):Int))≤e))) wN ?_
  refine mw (vb (decide (((d.Top+1)+((j:Nat):Int))≤e))) ?_
  rcases bf (decide (((d.Top+1)+((j:Nat):Int))≤e)) with y|y
  ·have cj:=dF y
   iterate 2 refine sk y ?_
   refine pf vF wN y ?_
   refine n2<|cf F1<|oh<|mU<|mU<|nq<|mP<|sr<|mw (vi e) ?_
   refine qp e 1024 wN rfl rfl (by kernel_rfl) (by first|omega|assumption) ?_
   refine aw (vi (e % 1024)) ?_
   refine mW<|mP<|nh<|qB ([(51,[],[],(fun _ v _=>v=(vp s 1))),(52,[],[0],(fun _ v _=>v=(vs g ((d).Bits).length i))),(53,[],[],(fun _ v _=>v=(vi (e % 1024)))),(54,[],[2],(fun _ v _=>v=(vi ((e % 1024) / 32)))),(55,[],[],(fun _ v _=>v=(vp s 1))),(56,[],[4],(fun _ v _=>v=(vs g ((d).Bits).length i))),(57,[],[],(fun _ v _=>v=(vi (e % 1024)))),(58,[],[6],(fun _ v _=>v=(vi ((e % 1024) / 32)))),(59,[],[4,5,6,7],(fun _ v _=>v=(ve (vs g ((d).Bits).length i) ((((e % 1024) / 32)).toNat*1)))),(60,[],[4,5,6,7,8],(fun _ v _=>v=(vi ((pC d.Bits (d.Top+1) j).getD (((e % 1024) / 32)).toNat 0)))),(61,[],[],(fun _ v _=>v=(vi (e % 1024)))),(62,[],[10],(fun _ v _=>v=(vi ((e % 1024) % 32)))),(63,[],[10,11],(fun _ v _=>v=(vi (1*(2:Int) ^ (((e % 1024) % 32)).toNat)))),(64,[],[4,5,6,7,8,9,10,11,12],(fun _ v _=>v=(vi (orI ((pC d.Bits (d.Top+1) j).getD (((e % 1024) / 32)).toNat 0) (1*(2:Int) ^ (((e % 1024) % 32)).toNat)))))]:GV) oM rfl (by kernel_rfl) (by kernel_rfl) ?_ ?_ ?_
   ·exact ⟨hV,hE,⟨hV,hE,⟨hV,hE,⟨hV,hE,⟨hV,hE,⟨hV,hE,⟨hV,hE,⟨hV,hE,⟨hV,hE,⟨hV,hE,⟨hV,hE,⟨hV,hE,⟨hV,hE,⟨hV,hE,trivial⟩⟩⟩⟩⟩⟩⟩⟩⟩⟩⟩⟩⟩⟩
   ·refine ⟨?_,⟨?_,⟨?_,⟨?_,⟨?_,⟨?_,⟨?_,⟨?_,⟨?_,⟨?_,⟨?_,⟨?_,⟨?_,⟨?_,trivial⟩⟩⟩⟩⟩⟩⟩⟩⟩⟩⟩⟩⟩⟩
    ·intro f ck
     iterate 14 intro _
     refine sw<|pu (vp s 1) wN ?_
     exact f2
    ·intro f aY
     rintro _ rfl;iterate 13 intro _
     refine sw ?_
     have aZ:=(B.kp aY)
     refine ld (vs g ((d).Bits).length i) wN oA aZ ?_
     exact f2
    ·intro f cm
     iterate 14 intro _
     refine sw<|mw (vi (e % 1024)) ?_
     exact f2
    ·intro f cn
     rintro _ _ _ rfl _ _ _ _ _ _ _ _ _ _ _
     refine sw<|rU (e % 1024) 32 wN rfl rfl (by kernel_rfl) (by omega) (by omega) (by omega) ?_
     exact f2
    ·intro f co
     iterate 14 intro _
     refine sw<|pu (vp s 1) wN ?_
     exact f2
    ·intro f ba
     rintro _ _ _ _ _ rfl _ _ _ _ _ _ _ _ _
     refine sw ?_
     have bb:=(B.kp ba)
     refine ld (vs g ((d).Bits).length i) wN oA bb ?_
     exact f2
    ·intro f cp
     iterate 14 intro _
     refine sw<|mw (vi (e % 1024)) ?_
     exact f2
    ·intro f cq
     rintro _ _ _ _ _ _ _ rfl _ _ _ _ _ _ _
     refine sw<|rU (e % 1024) 32 wN rfl rfl (by kernel_rfl) (by omega) (by omega) (by omega) ?_
     exact f2
    ·intro f bc
     rintro _ _ _ _ _ rfl _ rfl _ rfl _ rfl _ _ _ _ _ _
     refine sw ?_
     have bd:=(mz G bc)
     refine ix wN ((e % 1024) / 32) nf (Rd.of_own bd) ?_
     exact f2
    ·intro f be
     rintro _ _ _ _ _ rfl _ rfl _ rfl _ rfl _ rfl _ _ _ _ _
     refine sw ?_
     have bg:=(mz G be)
     refine ei (x:=(pC d.Bits (d.Top+1) j)) ((((e % 1024) / 32)).toNat) wN mT (Rd.of_own bg) ?_
     exact f2
    ·intro f cr
     iterate 14 intro _
     refine sw<|mw (vi (e % 1024)) ?_
     exact f2
    ·intro f cs
     rintro _ _ _ _ _ _ _ _ _ _ _ rfl _ _ _
     refine sw<|qp (e % 1024) 32 wN rfl rfl (by kernel_rfl) (by first|omega|assumption) ?_
     exact f2
    ·intro f cu
     rintro _ _ _ _ _ _ _ _ _ _ _ rfl _ rfl _ _
     refine sw<|tz 1 ((e % 1024) % 32) wN rfl rfl rfl rfl rfl (by omega) (by omega) (by omega) (by omega) ?_
     have cv:=rm (((e % 1024) % 32)).toNat (by omega)
     exact f2
    ·intro f cw
     rintro _ _ _ _
     iterate 9 rintro _ rfl
     have cy:=rm (((e % 1024) % 32)).toNat (by omega)
     intro _
     refine sw<|we ((pC d.Bits (d.Top+1) j).getD (((e % 1024) / 32)).toNat 0) (1*(2:Int) ^ (((e % 1024) % 32)).toNat) wN rfl rfl (by kernel_rfl) (by omega) (by omega) (by omega) (by omega) ?_
     have cz:=uD (a:=((pC d.Bits (d.Top+1) j).getD (((e % 1024) / 32)).toNat 0)) (b:=(1*(2:Int) ^ (((e % 1024) % 32)).toNat)) (by omega) (by omega)
     exact f2
   ·intro f K
    iterate 13 rintro _ rfl
    have c0:=rm (((e % 1024) % 32)).toNat (by omega)
    rintro _ rfl
    have c1:=uD (a:=((pC d.Bits (d.Top+1) j).getD (((e % 1024) / 32)).toNat 0)) (b:=(1*(2:Int) ^ (((e % 1024) % 32)).toNat)) (by omega) (by omega)
    refine sw ?_
    have a1:=(mz G K)
    refine ix wN ((e % 1024) / 32) nf (Rd.of_own a1) ?_
    refine pR (pC d.Bits (d.Top+1) j) ((((e % 1024) / 32)).toNat) ((orI ((pC d.Bits (d.Top+1) j).getD (((e % 1024) / 32)).toNat 0) (1*(2:Int) ^ (((e % 1024) % 32)).toNat))) wN rfl rfl rfl (by simp) rfl nV a1 (by first|omega|(simp only [List.length_append,List.length_replicate,List.length_take,List.length_set,List.length_map];omega)) ?_
    intro a2 Q a3
    have a4:=(ae.extk K).ext Q (fun k hk=>nT (z2 t q) (nb m k hk).1)
    refine n4<|mw (vi e) ?_
    refine pu (vp P 0) wN ?_
    have bh:=(((ad.ch J (Nat.not_le.2 (nL S q.size))).kp K).ch Q (fun h=>by have:=(nb m _ h).1;have:=nL S q.size;omega))
    refine ld (vi d.Top) wN mT bh ?_
    refine pu (vb (decide (d.Top < e))) wN ?_
    refine n2 ?_
    rcases bf (decide (d.Top < e)) with L|L
    ·have c2:=dF L
     refine cf L<|y1 ?_
     have bi:=((B.kp K).ch Q (fun h=>by have:=(nb m _ h).2;have:=nT (Nat.le_refl W.heap.size) p;omega))
     refine lN [(vi ((d).Top)),(vs g ((d).Bits).length i)] wN nJ ni bi ?_
     have bj:=(((((((V.kp r).kp D).ch E (nN (nL o (nT r.size p)))).kp A).ch J (Nat.not_le.2 (o))).kp K).ch Q (fun h=>by have:=(nb m _ h).1;have:=nL o (Nat.le_refl C.heap.size);omega))
     refine sv [(vi ((d).Top)),(vs g ((d).Bits).length i)] wN ni bj ?_
     intro af a5 bk c3
     have bl:=a4.ext a5 (fun k hk=>by subst hk;exact nT t.size T)
     refine aw vT ?_
     refine n3 ?_
     have a6:=(gc a3 a5 (ne1 m (o)))
     refine rc2 [(vi ((d).Top)),(vs g ((d).Bits).length i)] (vb true) bk nJ ni ?_
     refine ⟨bl.keep0,?_⟩
     have bm:qA d e=({Top:=(d).Top,Bits:=((pC d.Bits (d.Top+1) j).set ((((e % 1024) / 32)).toNat) (orI ((pC d.Bits (d.Top+1) j).getD (((e % 1024) / 32)).toNat 0) (1*(2:Int) ^ (((e % 1024) % 32)).toNat))):PWin},true):=by have hz:=sF (l:=d.Bits) (top:=d.Top) (n:=e) (j:=j) (rn (w:=d) (n:=e) (by assumption)).1 (rn (w:=d) (n:=e) (by assumption)).2.1 (by omega) (by omega) (by omega) (by omega);simp only [qA,F,y,L,cond_true,cond_false];rw [← hz];first|rfl|(rw [Ax])|(rw [← Ax])
     rw [bm]
     have a7:((d).Bits).length=(((pC d.Bits (d.Top+1) j).set ((((e % 1024) / 32)).toNat) (orI ((pC d.Bits (d.Top+1) j).getD (((e % 1024) / 32)).toNat 0) (1*(2:Int) ^ (((e % 1024) % 32)).toNat)))).length:=by first|(simp only [List.length_append,List.length_take,List.length_replicate,List.length_set,List.length_map];done)|(simp only [List.length_append,List.length_take,List.length_replicate,List.length_set,List.length_map];omega)
     rw [a7] at a6 ⊢
     exact ⟨_,_,rfl,(mO a6 (z2 t q)),(by rw [← a7];exact X),⟨trivial,trivial⟩⟩
    have c4:=dT L
    refine ct L<|mV ?_
    refine mw (vi e) ?_
    refine pu (vp s 0) wN ?_
    have bn:=((B.kp K).ch Q (fun h=>by have:=(nb m _ h).2;have:=nT (Nat.le_refl W.heap.size) p;omega))
    refine sf (vi e) wN nV bn ?_
    intro af ah bo c5
    have bp:=a4.ext ah (fun k hk=>by subst hk;exact nT (z3 t q r) p)
    refine nx<|lN [(vi e),(vs g ((d).Bits).length i)] wN nJ ni bo ?_
    have bq:=((((((((V.kp r).kp D).ch E (nN (nL o (nT r.size p)))).kp A).ch J (Nat.not_le.2 (o))).kp K).ch Q (fun h=>by have:=(nb m _ h).1;have:=nL o (Nat.le_refl C.heap.size);omega)).ch ah (nN (nL o (nT r.size p))))
    refine sv [(vi e),(vs g ((d).Bits).length i)] wN ni bq ?_
    intro br a8 bu c6
    have bv:=bp.ext a8 (fun k hk=>by subst hk;exact nT t.size T)
    refine aw vT ?_
    refine n3 ?_
    have a9:=(gc (gc a3 ah (ne2 m (p))) a8 (ne1 m (o)))
    refine rc2 [(vi e),(vs g ((d).Bits).length i)] (vb true) bu nJ ni ?_
    refine ⟨bv.keep0,?_⟩
    have bw:qA d e=({Top:=e,Bits:=((pC d.Bits (d.Top+1) j).set ((((e % 1024) / 32)).toNat) (orI ((pC d.Bits (d.Top+1) j).getD (((e % 1024) / 32)).toNat 0) (1*(2:Int) ^ (((e % 1024) % 32)).toNat))):PWin},true):=by have hz:=sF (l:=d.Bits) (top:=d.Top) (n:=e) (j:=j) (rn (w:=d) (n:=e) (by assumption)).1 (rn (w:=d) (n:=e) (by assumption)).2.1 (by omega) (by omega) (by omega) (by omega);simp only [qA,F,y,L,cond_true,cond_false];rw [← hz];first|rfl|(rw [Ax])|(rw [← Ax])
    rw [bw]
    have aA:((d).Bits).length=(((pC d.Bits (d.Top+1) j).set ((((e % 1024) / 32)).toNat) (orI ((pC d.Bits (d.Top+1) j).getD (((e % 1024) / 32)).toNat 0) (1*(2:Int) ^ (((e % 1024) % 32)).toNat)))).length:=by first|(simp only [List.length_append,List.length_take,List.length_replicate,List.length_set,List.length_map];done)|(simp only [List.length_append,List.length_take,List.length_replicate,List.length_set,List.length_map];omega)
    rw [aA] at a9 ⊢
    exact ⟨_,_,rfl,(mO a9 (z2 t q)),(by rw [← aA];exact X),⟨trivial,trivial⟩⟩
  have c7:=dT y
  refine mv (vi ((j:Nat):Int)) (wS y) ?_
  refine pu (vb (decide (((j:Nat):Int) < 1024))) (wS y) ?_
  refine pk (vb (decide (((j:Nat):Int) < 1024))) wN y ?_
  refine n2 ?_
  rcases bt (decide (((j:Nat):Int) < 1024)) with M|M
  ·have c8:=dT M
   refine ct M<|nm<|mP<|nh<|ng<|sr<|mw (vi ((d.Top+1)+((j:Nat):Int))) ?_
   refine qp ((d.Top+1)+((j:Nat):Int)) 1024 wN rfl rfl (by kernel_rfl) (by first|omega|assumption) ?_
   refine aw (vi (((d.Top+1)+((j:Nat):Int)) % 1024)) ?_
   refine mW<|mP<|nh<|qB ([(32,[],[],(fun _ v _=>v=(vp s 1))),(33,[],[0],(fun _ v _=>v=(vs g ((d).Bits).length i))),(34,[],[],(fun _ v _=>v=(vi (((d.Top+1)+((j:Nat):Int)) % 1024)))),(35,[],[2],(fun _ v _=>v=(vi ((((d.Top+1)+((j:Nat):Int)) % 1024) / 32)))),(36,[],[],(fun _ v _=>v=(vp s 1))),(37,[],[4],(fun _ v _=>v=(vs g ((d).Bits).length i))),(38,[],[],(fun _ v _=>v=(vi (((d.Top+1)+((j:Nat):Int)) % 1024)))),(39,[],[6],(fun _ v _=>v=(vi ((((d.Top+1)+((j:Nat):Int)) % 1024) / 32)))),(40,[],[4,5,6,7],(fun _ v _=>v=(ve (vs g ((d).Bits).length i) ((((((d.Top+1)+((j:Nat):Int)) % 1024) / 32)).toNat*1)))),(41,[],[4,5,6,7,8],(fun _ v _=>v=(vi ((pC d.Bits (d.Top+1) j).getD (((((d.Top+1)+((j:Nat):Int)) % 1024) / 32)).toNat 0)))),(42,[],[],(fun _ v _=>v=(vi (((d.Top+1)+((j:Nat):Int)) % 1024)))),(43,[],[10],(fun _ v _=>v=(vi ((((d.Top+1)+((j:Nat):Int)) % 1024) % 32)))),(44,[],[10,11],(fun _ v _=>v=(vi (1*(2:Int) ^ (((((d.Top+1)+((j:Nat):Int)) % 1024) % 32)).toNat)))),(45,[],[4,5,6,7,8,9,10,11,12],(fun _ v _=>v=(vi (sZ ((pC d.Bits (d.Top+1) j).getD (((((d.Top+1)+((j:Nat):Int)) % 1024) / 32)).toNat 0) (1*(2:Int) ^ (((((d.Top+1)+((j:Nat):Int)) % 1024) % 32)).toNat)))))]:GV) oM rfl (by kernel_rfl) (by kernel_rfl) ?_ ?_ ?_
   ·exact ⟨hV,hE,⟨hV,hE,⟨hV,hE,⟨hV,hE,⟨hV,hE,⟨hV,hE,⟨hV,hE,⟨hV,hE,⟨hV,hE,⟨hV,hE,⟨hV,hE,⟨hV,hE,⟨hV,hE,⟨hV,hE,trivial⟩⟩⟩⟩⟩⟩⟩⟩⟩⟩⟩⟩⟩⟩
   ·refine ⟨?_,⟨?_,⟨?_,⟨?_,⟨?_,⟨?_,⟨?_,⟨?_,⟨?_,⟨?_,⟨?_,⟨?_,⟨?_,⟨?_,trivial⟩⟩⟩⟩⟩⟩⟩⟩⟩⟩⟩⟩⟩⟩
    ·intro f c9
     iterate 14 intro _
     refine sw<|pu (vp s 1) wN ?_
     exact f2
    ·intro f bz
     rintro _ rfl;iterate 13 intro _
     refine sw ?_
     have b0:=(B.kp bz)
     refine ld (vs g ((d).Bits).length i) wN oA b0 ?_
     exact f2
    ·intro f cC
     iterate 14 intro _
     refine sw<|mw (vi (((d.Top+1)+((j:Nat):Int)) % 1024)) ?_
     exact f2
    ·intro f cD
     rintro _ _ _ rfl _ _ _ _ _ _ _ _ _ _ _
     refine sw<|rU (((d.Top+1)+((j:Nat):Int)) % 1024) 32 wN rfl rfl (by kernel_rfl) (by omega) (by omega) (by omega) ?_
     exact f2
    ·intro f cE
     iterate 14 intro _
     refine sw<|pu (vp s 1) wN ?_
     exact f2
    ·intro f b1
     rintro _ _ _ _ _ rfl _ _ _ _ _ _ _ _ _
     refine sw ?_
     have b2:=(B.kp b1)
     refine ld (vs g ((d).Bits).length i) wN oA b2 ?_
     exact f2
    ·intro f cF
     iterate 14 intro _
     refine sw<|mw (vi (((d.Top+1)+((j:Nat):Int)) % 1024)) ?_
     exact f2
    ·intro f cG
     rintro _ _ _ _ _ _ _ rfl _ _ _ _ _ _ _
     refine sw<|rU (((d.Top+1)+((j:Nat):Int)) % 1024) 32 wN rfl rfl (by kernel_rfl) (by omega) (by omega) (by omega) ?_
     exact f2
    ·intro f b3
     rintro _ _ _ _ _ rfl _ rfl _ rfl _ rfl _ _ _ _ _ _
     refine sw ?_
     have b4:=(mz G b3)
     refine ix wN ((((d.Top+1)+((j:Nat):Int)) % 1024) / 32) nf (Rd.of_own b4) ?_
     exact f2
    ·intro f b5
     rintro _ _ _ _ _ rfl _ rfl _ rfl _ rfl _ rfl _ _ _ _ _
     refine sw ?_
     have b6:=(mz G b5)
     refine ei (x:=(pC d.Bits (d.Top+1) j)) ((((((d.Top+1)+((j:Nat):Int)) % 1024) / 32)).toNat) wN mT (Rd.of_own b6) ?_
     exact f2
    ·intro f cH
     iterate 14 intro _
     refine sw<|mw (vi (((d.Top+1)+((j:Nat):Int)) % 1024)) ?_
     exact f2
    ·intro f cI
     rintro _ _ _ _ _ _ _ _ _ _ _ rfl _ _ _
     refine sw<|qp (((d.Top+1)+((j:Nat):Int)) % 1024) 32 wN rfl rfl (by kernel_rfl) (by first|omega|assumption) ?_
     exact f2
    ·intro f cJ
     rintro _ _ _ _ _ _ _ _ _ _ _ rfl _ rfl _ _
     refine sw<|tz 1 ((((d.Top+1)+((j:Nat):Int)) % 1024) % 32) wN rfl rfl rfl rfl rfl (by omega) (by omega) (by omega) (by omega) ?_
     have cK:=rm (((((d.Top+1)+((j:Nat):Int)) % 1024) % 32)).toNat (by omega)
     exact f2
    ·intro f cL
     rintro _ _ _ _
     iterate 9 rintro _ rfl
     have cM:=rm (((((d.Top+1)+((j:Nat):Int)) % 1024) % 32)).toNat (by omega)
     intro _
     refine sw<|yb ((pC d.Bits (d.Top+1) j).getD (((((d.Top+1)+((j:Nat):Int)) % 1024) / 32)).toNat 0) (1*(2:Int) ^ (((((d.Top+1)+((j:Nat):Int)) % 1024) % 32)).toNat) wN rfl rfl (by kernel_rfl) (by omega) (by omega) (by omega) (by omega) ?_
     have cN:=tR (a:=((pC d.Bits (d.Top+1) j).getD (((((d.Top+1)+((j:Nat):Int)) % 1024) / 32)).toNat 0)) (b:=(1*(2:Int) ^ (((((d.Top+1)+((j:Nat):Int)) % 1024) % 32)).toNat)) (by omega)
     exact f2
   ·intro f aa
    iterate 13 rintro _ rfl
    have cO:=rm (((((d.Top+1)+((j:Nat):Int)) % 1024) % 32)).toNat (by omega)
    rintro _ rfl
    have cP:=tR (a:=((pC d.Bits (d.Top+1) j).getD (((((d.Top+1)+((j:Nat):Int)) % 1024) / 32)).toNat 0)) (b:=(1*(2:Int) ^ (((((d.Top+1)+((j:Nat):Int)) % 1024) % 32)).toNat)) (by omega)
    refine sw ?_
    have aB:=(mz G aa)
    refine ix wN ((((d.Top+1)+((j:Nat):Int)) % 1024) / 32) nf (Rd.of_own aB) ?_
    refine pR (pC d.Bits (d.Top+1) j) ((((((d.Top+1)+((j:Nat):Int)) % 1024) / 32)).toNat) ((sZ ((pC d.Bits (d.Top+1) j).getD (((((d.Top+1)+((j:Nat):Int)) % 1024) / 32)).toNat 0) (1*(2:Int) ^ (((((d.Top+1)+((j:Nat):Int)) % 1024) % 32)).toNat))) wN rfl rfl rfl (by simp) rfl nV aB (by first|omega|(simp only [List.length_append,List.length_replicate,List.length_take,List.length_set,List.length_map];omega)) ?_
    intro a2 ai b7
    have b8:=(ae.extk aa).ext ai (fun k hk=>nT (z2 t q) (nb m k hk).1)
    refine mW<|mP<|mV ?_
    refine mw (vi ((j:Nat):Int)) ?_
    refine ar (((j:Nat):Int)+1) wN ?_
    refine aw (vi (((j:Nat):Int)+1)) ?_
    refine mW<|mQ<|mP<|mV ?_
    refine mw (vi ((d.Top+1)+((j:Nat):Int))) ?_
    refine ar (((d.Top+1)+((j:Nat):Int))+1) wN ?_
    refine aw (vi (((d.Top+1)+((j:Nat):Int))+1)) ?_
    refine mW ?_
    have b9:(((pC d.Bits (d.Top+1) j).set ((((((d.Top+1)+((j:Nat):Int)) % 1024) / 32)).toNat) (sZ ((pC d.Bits (d.Top+1) j).getD (((((d.Top+1)+((j:Nat):Int)) % 1024) / 32)).toNat 0) (1*(2:Int) ^ (((((d.Top+1)+((j:Nat):Int)) % 1024) % 32)).toNat))):List Int)=pC d.Bits (d.Top+1) (j+1):=by first|rfl|exact Dj _ _
    have bA:=((B.kp aa).ch ai (fun h=>by have:=(nb m _ h).2;have:=nT (Nat.le_refl W.heap.size) p;omega))
    refine nX (w0:=ay) [(1,(vi e)),(2,(vp P 0)),(4,(vp ab 0)),(5,vF),(6,(vp s 0)),(7,(vi (((j+1):Nat):Int))),(8,(vi ((d.Top+1)+(((j+1):Nat):Int))))] ?_ ?_ ?_
    · exact ⟨rfl,rfl,rfl,rfl,rfl,(cA (Value.int .i64) (show ((((j:Nat):Int)+1):Int)=(((j+1):Nat):Int) by omega)),(cA (Value.int .i64) (show ((((d.Top+1)+((j:Nat):Int))+1):Int)=((d.Top+1)+(((j+1):Nat):Int)) by omega)),trivial⟩
    · exact fun u=>⟨(j+1),u,rfl,b8,((((Ch.refl (fun k=>C.heap.size≤k) ac).ext J (fun k hk=>hk)).extk aa).ext ai (fun k hk=>nT (Nat.le_refl C.heap.size) (nb m k hk).1)),(by omega),(by omega),(by rw [← b9];exact b7),bA⟩
    · show (1024 - (((j+1):Nat):Int)).toNat < (1024 - ((j:Nat):Int)).toNat;omega
  have cQ:=dF M
  refine cf M<|oh<|mU<|mU<|nq<|mP<|sr<|mw (vi e) ?_
  refine qp e 1024 wN rfl rfl (by kernel_rfl) (by first|omega|assumption) ?_
  refine aw (vi (e % 1024)) ?_
  refine mW<|mP<|nh<|qB ([(51,[],[],(fun _ v _=>v=(vp s 1))),(52,[],[0],(fun _ v _=>v=(vs g ((d).Bits).length i))),(53,[],[],(fun _ v _=>v=(vi (e % 1024)))),(54,[],[2],(fun _ v _=>v=(vi ((e % 1024) / 32)))),(55,[],[],(fun _ v _=>v=(vp s 1))),(56,[],[4],(fun _ v _=>v=(vs g ((d).Bits).length i))),(57,[],[],(fun _ v _=>v=(vi (e % 1024)))),(58,[],[6],(fun _ v _=>v=(vi ((e % 1024) / 32)))),(59,[],[4,5,6,7],(fun _ v _=>v=(ve (vs g ((d).Bits).length i) ((((e % 1024) / 32)).toNat*1)))),(60,[],[4,5,6,7,8],(fun _ v _=>v=(vi ((pC d.Bits (d.Top+1) j).getD (((e % 1024) / 32)).toNat 0)))),(61,[],[],(fun _ v _=>v=(vi (e % 1024)))),(62,[],[10],(fun _ v _=>v=(vi ((e % 1024) % 32)))),(63,[],[10,11],(fun _ v _=>v=(vi (1*(2:Int) ^ (((e % 1024) % 32)).toNat)))),(64,[],[4,5,6,7,8,9,10,11,12],(fun _ v _=>v=(vi (orI ((pC d.Bits (d.Top+1) j).getD (((e % 1024) / 32)).toNat 0) (1*(2:Int) ^ (((e % 1024) % 32)).toNat)))))]:GV) oM rfl (by kernel_rfl) (by kernel_rfl) ?_ ?_ ?_
  ·exact ⟨hV,hE,⟨hV,hE,⟨hV,hE,⟨hV,hE,⟨hV,hE,⟨hV,hE,⟨hV,hE,⟨hV,hE,⟨hV,hE,⟨hV,hE,⟨hV,hE,⟨hV,hE,⟨hV,hE,⟨hV,hE,trivial⟩⟩⟩⟩⟩⟩⟩⟩⟩⟩⟩⟩⟩⟩
  ·refine ⟨?_,⟨?_,⟨?_,⟨?_,⟨?_,⟨?_,⟨?_,⟨?_,⟨?_,⟨?_,⟨?_,⟨?_,⟨?_,⟨?_,trivial⟩⟩⟩⟩⟩⟩⟩⟩⟩⟩⟩⟩⟩⟩
   ·intro f cR
    iterate 14 intro _
    refine sw<|pu (vp s 1) wN ?_
    exact f2
   ·intro f bB
    rintro _ rfl;iterate 13 intro _
    refine sw ?_
    have bC:=(B.kp bB)
    refine ld (vs g ((d).Bits).length i) wN oA bC ?_
    exact f2
   ·intro f cS
    iterate 14 intro _
    refine sw<|mw (vi (e % 1024)) ?_
    exact f2
   ·intro f cT
    rintro _ _ _ rfl _ _ _ _ _ _ _ _ _ _ _
    refine sw<|rU (e % 1024) 32 wN rfl rfl (by kernel_rfl) (by omega) (by omega) (by omega) ?_
    exact f2
   ·intro f cU
    iterate 14 intro _
    refine sw<|pu (vp s 1) wN ?_
    exact f2
   ·intro f bD
    rintro _ _ _ _ _ rfl _ _ _ _ _ _ _ _ _
    refine sw ?_
    have bE:=(B.kp bD)
    refine ld (vs g ((d).Bits).length i) wN oA bE ?_
    exact f2
   ·intro f cV
    iterate 14 intro _
    refine sw<|mw (vi (e % 1024)) ?_
    exact f2
   ·intro f cW
    rintro _ _ _ _ _ _ _ rfl _ _ _ _ _ _ _
    refine sw<|rU (e % 1024) 32 wN rfl rfl (by kernel_rfl) (by omega) (by omega) (by omega) ?_
    exact f2
   ·intro f bF
    rintro _ _ _ _ _ rfl _ rfl _ rfl _ rfl _ _ _ _ _ _
    refine sw ?_
    have bG:=(mz G bF)
    refine ix wN ((e % 1024) / 32) nf (Rd.of_own bG) ?_
    exact f2
   ·intro f bH
    rintro _ _ _ _ _ rfl _ rfl _ rfl _ rfl _ rfl _ _ _ _ _
    refine sw ?_
    have bI:=(mz G bH)
    refine ei (x:=(pC d.Bits (d.Top+1) j)) ((((e % 1024) / 32)).toNat) wN mT (Rd.of_own bI) ?_
    exact f2
   ·intro f cX
    iterate 14 intro _
    refine sw<|mw (vi (e % 1024)) ?_
    exact f2
   ·intro f cY
    rintro _ _ _ _ _ _ _ _ _ _ _ rfl _ _ _
    refine sw<|qp (e % 1024) 32 wN rfl rfl (by kernel_rfl) (by first|omega|assumption) ?_
    exact f2
   ·intro f cZ
    rintro _ _ _ _ _ _ _ _ _ _ _ rfl _ rfl _ _
    refine sw<|tz 1 ((e % 1024) % 32) wN rfl rfl rfl rfl rfl (by omega) (by omega) (by omega) (by omega) ?_
    have da:=rm (((e % 1024) % 32)).toNat (by omega)
    exact f2
   ·intro f db
    rintro _ _ _ _
    iterate 9 rintro _ rfl
    have dc:=rm (((e % 1024) % 32)).toNat (by omega)
    intro _
    refine sw<|we ((pC d.Bits (d.Top+1) j).getD (((e % 1024) / 32)).toNat 0) (1*(2:Int) ^ (((e % 1024) % 32)).toNat) wN rfl rfl (by kernel_rfl) (by omega) (by omega) (by omega) (by omega) ?_
    have dd:=uD (a:=((pC d.Bits (d.Top+1) j).getD (((e % 1024) / 32)).toNat 0)) (b:=(1*(2:Int) ^ (((e % 1024) % 32)).toNat)) (by omega) (by omega)
    exact f2
  ·intro f N
   iterate 13 rintro _ rfl
   have de:=rm (((e % 1024) % 32)).toNat (by omega)
   rintro _ rfl
   have df:=uD (a:=((pC d.Bits (d.Top+1) j).getD (((e % 1024) / 32)).toNat 0)) (b:=(1*(2:Int) ^ (((e % 1024) % 32)).toNat)) (by omega) (by omega)
   refine sw ?_
   have aC:=(mz G N)
   refine ix wN ((e % 1024) / 32) nf (Rd.of_own aC) ?_
   refine pR (pC d.Bits (d.Top+1) j) ((((e % 1024) / 32)).toNat) ((orI ((pC d.Bits (d.Top+1) j).getD (((e % 1024) / 32)).toNat 0) (1*(2:Int) ^ (((e % 1024) % 32)).toNat))) wN rfl rfl rfl (by simp) rfl nV aC (by first|omega|(simp only [List.length_append,List.length_replicate,List.length_take,List.length_set,List.length_map];omega)) ?_
   intro a2 R aD
   have aE:=(ae.extk N).ext R (fun k hk=>nT (z2 t q) (nb m k hk).1)
   refine n4<|mw (vi e) ?_
   refine pu (vp P 0) wN ?_
   have bJ:=(((ad.ch J (Nat.not_le.2 (nL S q.size))).kp N).ch R (fun h=>by have:=(nb m _ h).1;have:=nL S q.size;omega))
   refine ld (vi d.Top) wN mT bJ ?_
   refine pu (vb (decide (d.Top < e))) wN ?_
   refine n2 ?_
   rcases bf (decide (d.Top < e)) with O|O
   ·have dg:=dF O
    refine cf O<|y1 ?_
    have bK:=((B.kp N).ch R (fun h=>by have:=(nb m _ h).2;have:=nT (Nat.le_refl W.heap.size) p;omega))
    refine lN [(vi ((d).Top)),(vs g ((d).Bits).length i)] wN nJ ni bK ?_
    have bL:=(((((((V.kp r).kp D).ch E (nN (nL o (nT r.size p)))).kp A).ch J (Nat.not_le.2 (o))).kp N).ch R (fun h=>by have:=(nb m _ h).1;have:=nL o (Nat.le_refl C.heap.size);omega))
    refine sv [(vi ((d).Top)),(vs g ((d).Bits).length i)] wN ni bL ?_
    intro af aF bM dh
    have bN:=aE.ext aF (fun k hk=>by subst hk;exact nT t.size T)
    refine aw vT ?_
    refine n3 ?_
    have aG:=(gc aD aF (ne1 m (o)))
    refine rc2 [(vi ((d).Top)),(vs g ((d).Bits).length i)] (vb true) bM nJ ni ?_
    refine ⟨bN.keep0,?_⟩
    have bO:qA d e=({Top:=(d).Top,Bits:=((pC d.Bits (d.Top+1) j).set ((((e % 1024) / 32)).toNat) (orI ((pC d.Bits (d.Top+1) j).getD (((e % 1024) / 32)).toNat 0) (1*(2:Int) ^ (((e % 1024) % 32)).toNat))):PWin},true):=by have hz:=sF (l:=d.Bits) (top:=d.Top) (n:=e) (j:=j) (rn (w:=d) (n:=e) (by assumption)).1 (rn (w:=d) (n:=e) (by assumption)).2.1 (by omega) (by omega) (by omega) (by omega);simp only [qA,F,y,M,O,cond_true,cond_false];rw [← hz];first|rfl|(rw [Ax])|(rw [← Ax])
    rw [bO]
    have aH:((d).Bits).length=(((pC d.Bits (d.Top+1) j).set ((((e % 1024) / 32)).toNat) (orI ((pC d.Bits (d.Top+1) j).getD (((e % 1024) / 32)).toNat 0) (1*(2:Int) ^ (((e % 1024) % 32)).toNat)))).length:=by first|(simp only [List.length_append,List.length_take,List.length_replicate,List.length_set,List.length_map];done)|(simp only [List.length_append,List.length_take,List.length_replicate,List.length_set,List.length_map];omega)
    rw [aH] at aG ⊢
    exact ⟨_,_,rfl,(mO aG (z2 t q)),(by rw [← aH];exact X),⟨trivial,trivial⟩⟩
   have di:=dT O
   refine ct O<|mV ?_
   refine mw (vi e) ?_
   refine pu (vp s 0) wN ?_
   have bP:=((B.kp N).ch R (fun h=>by have:=(nb m _ h).2;have:=nT (Nat.le_refl W.heap.size) p;omega))
   refine sf (vi e) wN nV bP ?_
   intro af aj bQ dj
   have bR:=aE.ext aj (fun k hk=>by subst hk;exact nT (z3 t q r) p)
   refine nx<|lN [(vi e),(vs g ((d).Bits).length i)] wN nJ ni bQ ?_
   have bS:=((((((((V.kp r).kp D).ch E (nN (nL o (nT r.size p)))).kp A).ch J (Nat.not_le.2 (o))).kp N).ch R (fun h=>by have:=(nb m _ h).1;have:=nL o (Nat.le_refl C.heap.size);omega)).ch aj (nN (nL o (nT r.size p))))
   refine sv [(vi e),(vs g ((d).Bits).length i)] wN ni bS ?_
   intro br aI bT dk
   have bU:=bR.ext aI (fun k hk=>by subst hk;exact nT t.size T)
   refine aw vT ?_
   refine n3 ?_
   have aJ:=(gc (gc aD aj (ne2 m (p))) aI (ne1 m (o)))
   refine rc2 [(vi e),(vs g ((d).Bits).length i)] (vb true) bT nJ ni ?_
   refine ⟨bU.keep0,?_⟩
   have bW:qA d e=({Top:=e,Bits:=((pC d.Bits (d.Top+1) j).set ((((e % 1024) / 32)).toNat) (orI ((pC d.Bits (d.Top+1) j).getD (((e % 1024) / 32)).toNat 0) (1*(2:Int) ^ (((e % 1024) % 32)).toNat))):PWin},true):=by have hz:=sF (l:=d.Bits) (top:=d.Top) (n:=e) (j:=j) (rn (w:=d) (n:=e) (by assumption)).1 (rn (w:=d) (n:=e) (by assumption)).2.1 (by omega) (by omega) (by omega) (by omega);simp only [qA,F,y,M,O,cond_true,cond_false];rw [← hz];first|rfl|(rw [Ax])|(rw [← Ax])
   rw [bW]
   have aK:((d).Bits).length=(((pC d.Bits (d.Top+1) j).set ((((e % 1024) / 32)).toNat) (orI ((pC d.Bits (d.Top+1) j).getD (((e % 1024) / 32)).toNat 0) (1*(2:Int) ^ (((e % 1024) % 32)).toNat)))).length:=by first|(simp only [List.length_append,List.length_take,List.length_replicate,List.length_set,List.length_map];done)|(simp only [List.length_append,List.length_take,List.length_replicate,List.length_set,List.length_map];omega)
   rw [aK] at aJ ⊢
   exact ⟨_,_,rfl,(mO aJ (z2 t q)),(by rw [← aK];exact X),⟨trivial,trivial⟩⟩
theorem rf (w:PWin) (n:Int):(qA w n).1.Bits.length=w.Bits.length:=by
  unfold qA
  cases h:oN w n
  · rfl
  · have a:=rn h
    show (wd w.Bits w.Top n).length=w.Bits.length
    rw [wd,ti,qo]

theorem Bq (j:World) (T:Value) (a:List Int) (an:xQ j T a) :Fn Tryz.prog 151 #[T] j (fun v f=>∃ x:(PWin),Keep j f∧BD f j.heap.size v x∧(x.Bits.length=32)):=by
 obtain ⟨l,m,rfl,E,aR⟩:=an
 refine nu (n:=22) [(vs l a.length m)] Tryz.func151 rfl rfl ?_
 refine sr<|al [(vi 0),(vs none 0 0)] wN pX ?_
 intro F G ao H p ap
 refine nx<|cl wN (wT G ) ?_
 rintro _ I ⟨i,⟨V,W,rfl,X,aq,aS⟩⟩
 have au:=((Ch.base j).extk p).extk i
 refine al [(vi 0),(vs none 0 0)] wN pX ?_
 intro g aT o av B ax
 refine sv (pn (qT) V W) wN ni ax ?_
 intro J r ay aU
 have az:=(au.extk B).ext r (fun k hk=>by subst hk;exact nT (z2 p i) o)
 refine n4<|aw (vi 0) ?_
 refine mW<|mP<|ng ?_
 have a0:=(gc (mz X B) r (ne2 X (o)))
 have Y:((qT).Bits:List Int)=(qT).Bits:=by rfl
 refine oa [(0,(vs l a.length m)),(2,(vp F 0)),(3,(vp g 0)),(4,(vi ((0:Nat):Int)))] ⟨rfl,rfl,rfl,(cA (Value.int .i64) (show (0:Int)=((0:Nat):Int) by omega)),trivial⟩ (fun e' f=>∃ (k:Nat) (t:Int) (b:List Int) (Z:Env) (ab3_1x:Option Addr) (cb3_1x:Nat),e'=pt Z [(0,(vs l a.length m)),(2,(vp F 0)),(3,(vp g 0)),(4,(vi ((k:Nat):Int)))]∧Ch (fun k=>j.heap.size≤k) j f∧Ch (fun k=>I.heap.size≤k) J f∧k≤a.length∧b.length=32∧(World.ownsRow f G.heap.size 3 1 (.slice ab3_1x (b).length cb3_1x) (b).length ((b).map iV)∧(b).length≤1073741824)∧Blk f g 34 [(vi t),(.slice ab3_1x (b).length cb3_1x)]) (fun e' _=>a.length - ((intOf (e' 4))).toNat) ?_ ?_
 ·exact fun u=>⟨0,(qT).Top,(qT).Bits,u,V,W,rfl,az,(Ch.refl (fun k=>I.heap.size≤k) J),(by omega),(by first|rfl|omega|(rw [rf];assumption)|(simp only [List.length_replicate])),(Y ▸ ⟨a0,aq⟩),(by have hb:=ay;first|exact hb|(rw [Y] at hb;exact hb))⟩
 ·rintro _ K ⟨k,t,b,Z,ab3_1x,cb3_1x,rfl,s,C,aV,aW,⟨L,aa⟩,M⟩
  refine nh<|sr<|mw (vi ((k:Nat):Int)) ?_
  refine mw (vs l a.length m) ?_
  refine ln wN nf (E.from0 s) ?_
  refine pu (vb (decide (((k:Nat):Int) < (a.length:Int)))) wN ?_
  refine n2 ?_
  rcases bf (decide (((k:Nat):Int) < (a.length:Int))) with y|y
  ·have aX:=dF y
   refine cf y<|oh<|mU<|mU<|nq<|mP<|sr<|lN [(vi t),(vs ab3_1x (b).length cb3_1x)] wN nJ ni M ?_
   have a1:=((((ap.kp i).kp B).ch r (nN (nL H (nT i.size o)))).ch C (Nat.not_le.2 (nL H i.size)))
   refine sv [(vi t),(vs ab3_1x (b).length cb3_1x)] wN ni a1 ?_
   intro d ab a2 aY
   have a3:=s.ext ab (fun k hk=>by subst hk;exact ao)
   refine n3 ?_
   have ac:=(gc L ab (ne1 L (H)))
   refine rc [(vi t),(vs ab3_1x (b).length cb3_1x)] a2 nJ ni ?_
   have ad:(b).length=(b).length:=rfl
   rw [ad] at ac ⊢
   exact ⟨{Top:=t,Bits:=b:PWin},a3.keep0,⟨_,_,rfl,(mO ac p.size),(by rw [← ad];exact aa),⟨trivial,trivial⟩⟩,(by omega)⟩
  have aZ:=dT y
  refine ct y<|nm<|mP<|nh<|ng<|ob ([(13,[],[],(fun _ v _=>v=(va [(vi t),(vs ab3_1x (b).length cb3_1x)]))),(14,[],[],(fun _ v _=>v=(vs l a.length m))),(15,[],[],(fun _ v _=>v=(vi ((k:Nat):Int)))),(16,[],[1,2],(fun _ v _=>v=(ve (vs l a.length m) ((((k:Nat):Int)).toNat*1)))),(17,[],[1,2,3],(fun _ v _=>v=(vi (a.getD k 0)))),(18,[],[0,1,2,3,4],(fun _ v w=>zn w K.heap.size v (qA {Top:=t,Bits:=b:PWin} (a.getD k 0)))),(12,[18],[0,1,2,3,4,5],(fun e v _=>v=(.tuple #[(.agg #[(vi (((qA {Top:=t,Bits:=b:PWin} (a.getD k 0)).1).Top)),(pr (qZ (e 18) 0) 1)]),(vb ((qA {Top:=t,Bits:=b:PWin} (a.getD k 0)).2))]))),(19,[18],[0,1,2,3,4,5,6],(fun e v _=>v=(.agg #[(vi (((qA {Top:=t,Bits:=b:PWin} (a.getD k 0)).1).Top)),(pr (qZ (e 18) 0) 1)]))),(20,[],[0,1,2,3,4,5,6],(fun _ v _=>v=(vb ((qA {Top:=t,Bits:=b:PWin} (a.getD k 0)).2)))),(31,[18],[0,1,2,3,4,5,6,7],(fun e _ w=>BK w g 34 0 [(vi (((qA {Top:=t,Bits:=b:PWin} (a.getD k 0)).1).Top)),(pr (qZ (e 18) 0) 1)]))]:GV) (fun lf f=>Ch (fun k=>k=g) K f∧RK lf f g 34 [(vi t),(vs ab3_1x (b).length cb3_1x)] [(9,0,2)]) [(9,TK g 34 0 2)] oM rfl (by kernel_rfl) (by kernel_rfl) ?_ (fun _ _ h=>⟨h.to _,RK.z M h⟩) (fun _ _ _ _ h mo k=>by obtain ⟨hc,N⟩:=h;exact ⟨hc.comp k (fun _ _ q=>q.elim),N.kp mo k⟩) ⟨(fun _ _ w f h mo hj t=>by obtain ⟨hc,N⟩:=h;exact ⟨hc.comp t.1 (fun _ _ q=>q),N.st mo hj (.head _) t⟩),trivial⟩ ?_ ?_ ?_
  ·exact ⟨hV,hE,⟨hV,hE,⟨hV,hE,⟨hV,hE,⟨hV,hE,⟨(fun e v w G h hk=>by obtain ⟨O,P,he,D,Q,hap⟩:=h;exact ⟨O,P,he,mz D hk,Q,hap⟩),hE,⟨hV,(fun ae af v w hx h=>by have A:=hx 18 (by simp);simp only [A] at h;exact h),⟨hV,(fun ae af v w hx h=>by have A:=hx 18 (by simp);simp only [A] at h;exact h),⟨hV,hE,⟨sK,(fun ae af v w hx h=>by have A:=hx 18 (by simp);simp only [A] at h;exact h),trivial⟩⟩⟩⟩⟩⟩⟩⟩⟩⟩
  ·exact ⟨⟨.inr hV,⟨.inr hV,⟨.inr hV,⟨.inr hV,⟨.inr hV,⟨.inr (fun e v wX wY h ht=>by obtain ⟨O,P,he,D,Q,hap⟩:=h;exact ⟨O,P,he,gc D ht.1 (fun gq hg _ hk=>by have ba:=(nb D gq hg).1;have bb:gq=g:=hk;have bc:=(nL av (z2 r C));omega),Q,hap⟩),⟨.inr hV,⟨.inr hV,⟨.inr hV,⟨.inl rfl,trivial⟩⟩⟩⟩⟩⟩⟩⟩⟩⟩,trivial⟩
  ·refine ⟨?_,⟨?_,⟨?_,⟨?_,⟨?_,⟨?_,⟨?_,⟨?_,⟨?_,⟨?_,trivial⟩⟩⟩⟩⟩⟩⟩⟩⟩⟩
   ·rintro lf d ⟨bd,a4⟩ ⟨a5,-⟩
    have a6:=RK.old a4 ⟨a5.resolve_left (fun h=>Bool.noConfusion (show true=false from h.1)),trivial⟩
    rintro _ _ _ _ _ _ _ _ _ _
    refine sw<|lN [(vi t),(vs ab3_1x (b).length cb3_1x)] wN nJ ni a6 ?_
    exact f1
   ·rintro lf d ⟨be,bg⟩ ⟨bh,-⟩
    rintro _ _ _ _ _ _ _ _ _ _
    refine sw<|mw (vs l a.length m) ?_
    exact f1
   ·rintro lf d ⟨bi,bj⟩ ⟨bk,-⟩
    rintro _ _ _ _ _ _ _ _ _ _
    refine sw<|mw (vi ((k:Nat):Int)) ?_
    exact f1
   ·rintro lf d ⟨a7,bl⟩ ⟨bm,-⟩
    have a8:=s.ext a7 (fun k hk=>by subst hk;exact nT (z2 p i) o)
    rintro _ _ rfl _ rfl _ _ _ _ _ _ _
    refine sw<|ix wN ((k:Nat):Int) nf (E.from0 a8) ?_
    exact f1
   ·rintro lf d ⟨a9,bn⟩ ⟨bo,-⟩
    have aA:=s.ext a9 (fun k hk=>by subst hk;exact nT (z2 p i) o)
    rintro _ _ rfl _ rfl _ rfl _ _ _ _ _ _
    refine sw<|ei (x:=a) k wN mT (E.from0 aA) ?_
    exact f1
   ·rintro lf d ⟨ah,bp⟩ ⟨bq,-⟩
    rintro _ rfl _ rfl _ rfl _ rfl _ rfl _ _ _ _ _
    refine sw ?_
    have aB:=(ny L M (by decide) ah)
    refine cl wN (wV d _ {Top:=t,Bits:=b:PWin} (qX (Rd.of_own aB) aa) (a.getD k 0)) ?_
    rintro _ br ⟨aC,⟨bu,bv,rfl,aD,aE,aF⟩⟩
    have bw:=rf {Top:=t,Bits:=b:PWin} (a.getD k 0)
    exact nK aC ⟨_,_,rfl,(mO aD ah.size),aE,aF⟩
   ·rintro lf d ⟨bz,b0⟩ ⟨b1,-⟩
    rintro _ rfl _ rfl _ rfl _ rfl _ rfl _ ⟨aG,aH,rfl,_⟩
    have b2:=rf {Top:=t,Bits:=b:PWin} (a.getD k 0)
    rintro _ _ _ _
    refine sw<|mw (.tuple #[(va [(vi (((qA {Top:=t,Bits:=b:PWin} (a.getD k 0)).1).Top)),(vs aG (((qA {Top:=t,Bits:=b:PWin} (a.getD k 0)).1).Bits).length aH)]),(vb ((qA {Top:=t,Bits:=b:PWin} (a.getD k 0)).2))]) ?_
    exact f1
   ·rintro lf d ⟨b3,b4⟩ ⟨b5,-⟩
    rintro _ rfl _ rfl _ rfl _ rfl _ rfl _ ⟨aI,aJ,rfl,_⟩
    have b6:=rf {Top:=t,Bits:=b:PWin} (a.getD k 0)
    rintro _ rfl _ _ _
    refine sw<|pu (va [(vi (((qA {Top:=t,Bits:=b:PWin} (a.getD k 0)).1).Top)),(vs aI (((qA {Top:=t,Bits:=b:PWin} (a.getD k 0)).1).Bits).length aJ)]) wN ?_
    exact f1
   ·rintro lf d ⟨b7,b8⟩ ⟨b9,-⟩
    rintro _ rfl _ rfl _ rfl _ rfl _ rfl _ ⟨bA,bB,rfl,_⟩
    have bC:=rf {Top:=t,Bits:=b:PWin} (a.getD k 0)
    rintro _ rfl _ _ _
    refine sw<|pu (vb ((qA {Top:=t,Bits:=b:PWin} (a.getD k 0)).2)) wN ?_
    exact f1
   ·rintro lf d ⟨bD,aK⟩ ⟨bE,-⟩
    rintro _ rfl _ rfl _ rfl _ rfl _ rfl _ ⟨ai,aj,rfl,_⟩
    have bF:=rf {Top:=t,Bits:=b:PWin} (a.getD k 0)
    rintro _ rfl _ rfl _ _
    exact sw<|stK (va [(vi (((qA {Top:=t,Bits:=b:PWin} (a.getD k 0)).1).Top)),(vs ai (((qA {Top:=t,Bits:=b:PWin} (a.getD k 0)).1).Bits).length aj)]) [(vi (((qA {Top:=t,Bits:=b:PWin} (a.getD k 0)).1).Top)),(vs ai (((qA {Top:=t,Bits:=b:PWin} (a.getD k 0)).1).Bits).length aj)] wN ni aK (fun _ h=>h) (fun _ t=>t)
  ·rintro lf d ⟨ak,aL⟩
   have aM:=s.ext ak (fun k hk=>by subst hk;exact nT (z2 p i) o)
   rintro _ rfl _ rfl _ rfl _ rfl _ rfl _ ⟨R,S,rfl,aN,aO,bG⟩
   have bH:=rf {Top:=t,Bits:=b:PWin} (a.getD k 0)
   rintro _ rfl _ rfl _ rfl _ aP
   have aQ:Blk d g 34 [(vi (((qA {Top:=t,Bits:=b:PWin} (a.getD k 0)).1).Top)),(vs R (((qA {Top:=t,Bits:=b:PWin} (a.getD k 0)).1).Bits).length S)]:=RK.fin aL [(0,[(vi (((qA {Top:=t,Bits:=b:PWin} (a.getD k 0)).1).Top)),(vs R (((qA {Top:=t,Bits:=b:PWin} (a.getD k 0)).1).Bits).length S)])] ⟨aP,trivial⟩
   refine sw<|mW<|mQ<|mP<|mV ?_
   refine mw (vi ((k:Nat):Int)) ?_
   refine ar (((k:Nat):Int)+1) wN ?_
   refine aw (vi (((k:Nat):Int)+1)) ?_
   refine mW ?_
   have am:(((qA {Top:=t,Bits:=b:PWin} (a.getD k 0)).1).Bits:List Int)=((qA {Top:=t,Bits:=b:PWin} (a.getD k 0)).1).Bits:=by rfl
   refine nX (w0:=K) [(0,(vs l a.length m)),(2,(vp F 0)),(3,(vp g 0)),(4,(vi (((k+1):Nat):Int)))] ?_ ?_ ?_
   · exact ⟨rfl,rfl,rfl,(cA (Value.int .i64) (show ((((k:Nat):Int)+1):Int)=(((k+1):Nat):Int) by omega)),trivial⟩
   · exact fun u=>⟨(k+1),((qA {Top:=t,Bits:=b:PWin} (a.getD k 0)).1).Top,((qA {Top:=t,Bits:=b:PWin} (a.getD k 0)).1).Bits,u,R,S,rfl,aM,(((Ch.refl (fun k=>I.heap.size≤k) J).ext C (fun k hk=>hk)).ext ak (fun k hk=>by subst hk;exact o)),(by omega),(by first|rfl|omega|(rw [rf];assumption)|(simp only [List.length_replicate])),(am ▸ ⟨(mO aN (z4 i B r C)),aO⟩),(by have hb:=aQ;first|exact hb|(rw [am] at hb;exact hb))⟩
   · show a.length - ((((k+1):Nat):Int)).toNat < a.length - (((k:Nat):Int)).toNat;omega

theorem rX {w:World} {x:List Int} {a:Option Addr} {b:Nat} (d:Rd w 1 (.slice a x.length b) x.length (x.map iV)) (e:x.length≤1073741824):xQ w (vs a x.length b) x:=⟨_,_,rfl,d,e⟩
theorem uN (a:World) (g:Nat) (ca:Option Addr) (cc:Nat) (cb:List UInt8) (r:ph a g 110 ca cc cb) :Fn Tryz.prog 135 #[(vp g 0)] a (fun v e=>∃ x:(PWin),Ch (fun k=>k=g) a e∧ph e g 110 ca cc cb∧BD e a.heap.size v x∧(x.Bits.length=32)):=by
 obtain ⟨ci,chh,hcb,hcr,hcl,hci,hcn⟩:=r
 have hgl:=Blk.lt hcb
 refine nu (n:=6) [(vp g 0)] Tryz.func135 rfl rfl ?_
 refine sr<|al [(vi 0),(vs none 0 0)] wN pX ?_
 intro L s f t h u
 have o:=ChG.extk (Ch.refl (fun k=>k=g) a) h
 refine nx<|mw (vp g 0) ?_
 have w:=(hcb.kp h)
 refine cl wN (zV s g ca cc cb (cx w hcr o hcl hcn) 12 (by omega)) ?_
 rintro _ y ⟨A,b,⟨M,N,B,O,P,Q,R⟩,⟨S,T,rfl,C,D,V⟩,W⟩
 have E:=ChG.ext o b iL
 refine cl wN (Bq y _ (A) (rX (Rd.of_own C) D)) ?_
 rintro _ X ⟨d,i,⟨j,l,rfl,p,F,Y⟩,Z⟩
 have G:=ChG.extk E i
 have H:=((u.ch b (Ne.symm (nN (nL hgl (f))))).kp i)
 refine sv (pn (d) j l) wN ni H ?_
 intro aa m I ab
 have q:=ChG.ext G m (fun k hk=>.inr (by subst hk;exact f))
 refine n3 ?_
 have J:=(gc p m (ne1 p (nL t b.size)))
 refine rc (pn (d) j l) I nJ ni ?_
 have K:=((B.kp i).ch m (nN (nL hgl (f))))
 exact ⟨(d),q,(cx K hcr q hcl hcn),⟨_,_,rfl,(mO J (z2 h b)),F,⟨trivial,trivial⟩⟩,(by first|assumption|omega)⟩

theorem ut (e:World) (B:Value) (d:List UInt8) (S:pI e B d) (b:Int) (a:Int) (aj:d.length≤1000000):Fn Tryz.prog 143 #[B,(vi b),(vi a)] e (fun v o=>Keep e o∧rr o e.heap.size v (pB d b a)):=by
 obtain ⟨C,D,rfl,T,E⟩:=S
 refine nu (n:=35) [(vs C d.length D),(vi b),(vi a)] Tryz.func143 rfl rfl ?_
 refine sr<|aw (vs none 0 0) ?_
 refine nx<|nF wN rfl rfl mR (fun w=>by kernel_rfl) ?_
 intro ak am y V
 have F:=(Ch.base e).extk y
 refine mw (vs C d.length D) ?_
 refine ap0 d wN mR V (T.from0 F) y.size ?_
 intro f g A G H an
 have I:=F.extk G
 refine aw (vs f d.length g) ?_
 refine n4<|jT1 [(1,(vi b)),(2,(vi a)),(6,(vs none 0 0)),(7,(vs f d.length g))] (pB d b a=d) ?_ fun J=>?_
 ·intro W K L ao
  have X:=I.extk L
  refine sr<|mw (vs f d.length g) ?_
  refine aw (vs f d.length g) ?_
  refine n1 ?_
  have Y:=(mz H L)
  refine rt (vs f d.length g) ?_
  refine ⟨X.keep0,?_⟩
  rw [W]
  exact ⟨_,_,rfl,Y,E,⟨trivial,trivial⟩⟩
 refine mw (vi a) ?_
 refine pu (vb (decide (a < 1))) wN ?_
 refine mw (vb (decide (a < 1))) ?_
 rcases bt (decide (a < 1)) with h|h
 ·have ap:=dT h
  iterate 2 refine sk h ?_
  refine pk vT wN h ?_
  refine n2<|ct T1 ?_
  have Z:pB d b a=d:=by first|exact rM (by omega)|exact rN (by omega) (by omega) (by omega)
  exact wj (J Z _ (Ch.refl _ _))
 have aq:=dF h
 refine mv (vi a) (wS h) ?_
 refine pu (vb (decide (6 < a))) (wS h) ?_
 refine pf (vb (decide (6 < a))) wN h ?_
 refine n2 ?_
 rcases bt (decide (6 < a)) with p|p
 ·have au:=dT p
  refine ct p ?_
  have aa:pB d b a=d:=by first|exact rM (by omega)|exact rN (by omega) (by omega) (by omega)
  exact wj (J aa _ (Ch.refl _ _))
 have av:=dF p
 refine cf p<|y2<|mw (vi a) ?_
 refine ar (a - 1) wN ?_
 refine aw (vi (a - 1)) ?_
 refine mW<|mP<|ng ?_
 have M:(d:List UInt8)=d++qg b a 0:=by simp [qg]
 refine oa [(1,(vi b)),(6,(vs none 0 0)),(7,(.slice f (d++qg b a 0).length g)),(8,(vi (a - 1 - ((0:Nat):Int))))] ⟨rfl,rfl,(cA (fun l:List UInt8=>Value.slice f l.length g) M),(cA (Value.int .i64) (show ((a - 1):Int)=(a - 1 - ((0:Nat):Int)) by omega)),trivial⟩ (fun e' o=>∃ (j:Nat) (N:Env) (i:Option Addr) (m:Nat),e'=pt N [(1,(vi b)),(6,(vs none 0 0)),(7,(.slice i (d++qg b a j).length m)),(8,(vi (a - 1 - ((j:Nat):Int))))]∧Ch (fun k=>e.heap.size≤k) e o∧Ch (fun k=>e.heap.size≤k) A o∧((j:Nat):Int)≤a∧(World.ownsRow o e.heap.size 5 1 (.slice i (d++qg b a j).length m) (d++qg b a j).length ((d++qg b a j).map bV)∧(d++qg b a j).length≤1073741824)) (fun e' _=>((intOf (e' 8))+1).toNat) ?_ ?_
 ·exact fun u=>⟨0,u,f,g,rfl,I,(Ch.refl (fun k=>e.heap.size≤k) A),(by omega),(M ▸ ⟨H,E⟩)⟩
 ·rintro _ K ⟨j,N,i,m,rfl,O,P,ax,⟨r,ab⟩⟩
  have hpl:=ru b a j
  refine nh<|sr<|mw (vi (a - 1 - ((j:Nat):Int))) ?_
  refine pu (vb (decide (0≤(a - 1 - ((j:Nat):Int))))) wN ?_
  refine n2 ?_
  rcases bf (decide (0≤(a - 1 - ((j:Nat):Int)))) with q|q
  ·have ay:=dF q
   refine cf q<|oh<|mU<|mU<|nq<|mP<|sr<|mw (vs i (d++qg b a j).length m) ?_
   refine aw (vs i (d++qg b a j).length m) ?_
   refine n3<|rt (vs i (d++qg b a j).length m) ?_
   refine ⟨O.keep0,?_⟩
   have ac:pB d b a=(d++qg b a j):=by first|exact rM (by omega)|exact rN (by omega) (by omega) (by omega)
   rw [ac]
   exact ⟨_,_,rfl,r,ab,⟨trivial,trivial⟩⟩
  have az:=dT q
  refine ct q<|nm<|mP<|nh<|ng<|mV ?_
  refine mw (vs i (d++qg b a j).length m) ?_
  refine mw (vi b) ?_
  refine mw (vi (a - 1 - ((j:Nat):Int))) ?_
  refine ar (8*(a - 1 - ((j:Nat):Int))) wN ?_
  refine uf b (8*(a - 1 - ((j:Nat):Int))) wN rfl rfl rfl rfl rfl (by omega) (by omega) ?_
  refine qc (b / (2:Int) ^ ((8*(a - 1 - ((j:Nat):Int)))).toNat) 255 256 8 wN rfl rfl (by decide) (by decide) (by decide) (by kernel_rfl) ?_
  refine qj ((b / (2:Int) ^ ((8*(a - 1 - ((j:Nat):Int)))).toNat) % 256) wN rfl rfl (by kernel_rfl) ?_
  refine ltB ([(by8 ((b / (2:Int) ^ ((8*(a - 1 - ((j:Nat):Int)))).toNat) % 256))]:List UInt8) wN mR ?_
  intro a0 a1 a2 s ad
  have ae:=(mz r s)
  refine apB (d++qg b a j) ([(by8 ((b / (2:Int) ^ ((8*(a - 1 - ((j:Nat):Int)))).toNat) % 256))]:List UInt8) wN mR ae (Rd.of_own ad) (z4 y G P s) ?_
  intro t x a3 Q af a4 ah
  have ai:=(O.extk s).ext Q (fun k hk=>nT (Nat.le_refl e.heap.size) (nb r k hk).1)
  refine aw (vs t ((d++qg b a j)++([(by8 ((b / (2:Int) ^ ((8*(a - 1 - ((j:Nat):Int)))).toNat) % 256))]:List UInt8)).length x) ?_
  refine mW<|mQ<|mP<|mV ?_
  refine mw (vi (a - 1 - ((j:Nat):Int))) ?_
  refine ar ((a - 1 - ((j:Nat):Int)) - 1) wN ?_
  refine aw (vi ((a - 1 - ((j:Nat):Int)) - 1)) ?_
  refine mW ?_
  have R:(((d++qg b a j)++([(by8 ((b / (2:Int) ^ ((8*(a - 1 - ((j:Nat):Int)))).toNat) % 256))]:List UInt8)):List UInt8)=d++qg b a (j+1):=by simp [qg]
  refine nX (w0:=K) [(1,(vi b)),(6,(vs none 0 0)),(7,(.slice t (d++qg b a (j+1)).length x)),(8,(vi (a - 1 - (((j+1):Nat):Int))))] ?_ ?_ ?_
  · exact ⟨rfl,rfl,(cA (fun l:List UInt8=>Value.slice t l.length x) R),(cA (Value.int .i64) (show (((a - 1 - ((j:Nat):Int)) - 1):Int)=(a - 1 - (((j+1):Nat):Int)) by omega)),trivial⟩
  · exact fun u=>⟨(j+1),u,t,x,rfl,ai,((((Ch.refl (fun k=>e.heap.size≤k) A).ext P (fun k hk=>hk)).extk s).ext Q (fun k hk=>nT (Nat.le_refl e.heap.size) (nb r k hk).1)),(by omega),(R ▸ ⟨af,ah⟩)⟩
  · show ((a - 1 - (((j+1):Nat):Int))+1).toNat < ((a - 1 - ((j:Nat):Int))+1).toNat;omega

theorem CV (b:World) (a:Int) :Fn Tryz.prog 164 #[(vi a)] b (fun v e=>Keep b e∧rr e b.heap.size v (pb a)):=by
 refine nu (n:=27) [(vi a)] Tryz.func164 rfl rfl ?_
 refine sr<|aw (vs none 0 0) ?_
 refine n4<|jT1 [(0,(vi a)),(2,(vs none 0 0))] (pb a=[]) ?_ fun B=>?_
 ·intro N o C am
  refine sr<|nF wN rfl rfl mR (fun w=>by kernel_rfl) ?_
  intro D x O P
  have Q:=((Ch.base b).extk C).extk O
  refine aw (vs (some D) 0 0) ?_
  refine n1<|rt (vs (some D) 0 0) ?_
  refine ⟨Q.keep0,?_⟩
  rw [N]
  exact ⟨_,_,rfl,(mO P C.size),(by simp),⟨trivial,trivial⟩⟩
 refine mw (vi a) ?_
 refine pu (vb (decide (a < 0))) wN ?_
 refine mw (vb (decide (a < 0))) ?_
 rcases bt (decide (a < 0)) with d|d
 ·have an:=dT d
  iterate 2 refine sk d ?_
  refine pk vT wN d ?_
  refine n2<|ct T1 ?_
  have R:pb a=[]:=by first|exact uk (by omega)|exact yq (by omega) (by omega) (by omega) (by omega)
  exact wj (B R _ (Ch.refl _ _))
 have ao:=dF d
 refine mv (vi a) (wS d) ?_
 refine pu (vb (decide (1048576 < a))) (wS d) ?_
 refine pf (vb (decide (1048576 < a))) wN d ?_
 refine n2 ?_
 rcases bt (decide (1048576 < a)) with h|h
 ·have ap:=dT h
  refine ct h ?_
  have S:pb a=[]:=by first|exact uk (by omega)|exact yq (by omega) (by omega) (by omega) (by omega)
  exact wj (B S _ (Ch.refl _ _))
 have aq:=dF h
 refine cf h<|y1<|ltB ([128]:List UInt8) wN mR ?_
 intro p q o y T
 have V:=(Ch.base b).extk y
 refine aw (vs p ([128]:List UInt8).length q) ?_
 refine mW<|mP<|nh<|ng ?_
 have E:(([128]:List UInt8):List UInt8)=[(128:UInt8)]++List.replicate 0 (0:UInt8):=by first|rfl|(rw [List.replicate_succ',List.append_assoc])
 refine oa [(0,(vi a)),(2,(vs none 0 0)),(3,(.slice p ([(128:UInt8)]++List.replicate 0 (0:UInt8)).length q))] ⟨rfl,rfl,(cA (fun l:List UInt8=>Value.slice p l.length q) E),trivial⟩ (fun e' e=>∃ (j:Nat) (F:Env) (f:Option Addr) (g:Nat),e'=pt F [(0,(vi a)),(2,(vs none 0 0)),(3,(.slice f ([(128:UInt8)]++List.replicate j (0:UInt8)).length g))]∧Ch (fun k=>b.heap.size≤k) b e∧Ch (fun k=>b.heap.size≤k) o e∧((j:Nat):Int)≤(64 - (a+9) % 64) % 64∧(World.ownsRow e b.heap.size 5 1 (.slice f ([(128:UInt8)]++List.replicate j (0:UInt8)).length g) ([(128:UInt8)]++List.replicate j (0:UInt8)).length (([(128:UInt8)]++List.replicate j (0:UInt8)).map bV)∧([(128:UInt8)]++List.replicate j (0:UInt8)).length≤1073741824)) (fun e' _=>100 - (lenOf (e' 3))) ?_ ?_
 ·exact fun u=>⟨0,u,p,q,rfl,V,(Ch.refl (fun k=>b.heap.size≤k) o),(by omega),(E ▸ ⟨T,(by simp)⟩)⟩
 ·rintro _ x ⟨j,F,f,g,rfl,G,A,au,⟨i,W⟩⟩
  have hpl:([(128:UInt8)]++List.replicate j (0:UInt8)).length=1+j:=by rw [List.length_append,List.length_replicate];rfl
  refine nh<|sr<|mw (vi a) ?_
  refine mw (vs f ([(128:UInt8)]++List.replicate j (0:UInt8)).length g) ?_
  refine ln wN mR (Rd.of_own i) ?_
  refine ar (a+(([(128:UInt8)]++List.replicate j (0:UInt8)).length:Int)) wN ?_
  refine ar ((a+(([(128:UInt8)]++List.replicate j (0:UInt8)).length:Int))+8) wN ?_
  refine qp ((a+(([(128:UInt8)]++List.replicate j (0:UInt8)).length:Int))+8) 64 wN rfl rfl (by kernel_rfl) (by first|omega|assumption) ?_
  refine pu (vb (!(decide ((((a+(([(128:UInt8)]++List.replicate j (0:UInt8)).length:Int))+8) % 64)=0)))) wN ?_
  refine n2 ?_
  rcases bf (decide ((((a+(([(128:UInt8)]++List.replicate j (0:UInt8)).length:Int))+8) % 64)=0)) with m|m
  ·have av:=dF m
   refine ct (cA not m)<|nm<|mP<|ng<|mV ?_
   refine mw (vs f ([(128:UInt8)]++List.replicate j (0:UInt8)).length g) ?_
   refine ltB ([0]:List UInt8) wN mR ?_
   intro ax ay H r X
   have Y:=(mz i r)
   refine apB ([(128:UInt8)]++List.replicate j (0:UInt8)) ([0]:List UInt8) wN mR Y (Rd.of_own X) (z3 y A r) ?_
   intro s t Z I aa az ab
   have ac:=(G.extk r).ext I (fun k hk=>nT (Nat.le_refl b.heap.size) (nb i k hk).1)
   refine aw (vs s (([(128:UInt8)]++List.replicate j (0:UInt8))++([0]:List UInt8)).length t) ?_
   refine mW<|mQ ?_
   have J:((([(128:UInt8)]++List.replicate j (0:UInt8))++([0]:List UInt8)):List UInt8)=[(128:UInt8)]++List.replicate (j+1) (0:UInt8):=by first|rfl|(rw [List.replicate_succ',List.append_assoc])
   refine nX (w0:=x) [(0,(vi a)),(2,(vs none 0 0)),(3,(.slice s ([(128:UInt8)]++List.replicate (j+1) (0:UInt8)).length t))] ?_ ?_ ?_
   · exact ⟨rfl,rfl,(cA (fun l:List UInt8=>Value.slice s l.length t) J),trivial⟩
   · exact fun u=>⟨(j+1),u,s,t,rfl,ac,((((Ch.refl (fun k=>b.heap.size≤k) o).ext A (fun k hk=>hk)).extk r).ext I (fun k hk=>nT (Nat.le_refl b.heap.size) (nb i k hk).1)),(by omega),(J ▸ ⟨aa,ab⟩)⟩
   · show 100 - ([(128:UInt8)]++List.replicate (j+1) (0:UInt8)).length < 100 - ([(128:UInt8)]++List.replicate j (0:UInt8)).length;simp only [List.length_append,List.length_cons,List.length_nil,List.length_replicate];omega
  have a0:=dT m
  refine cf (cA not m)<|oh<|mU<|mU<|nq<|mP<|sr<|mw (vs f ([(128:UInt8)]++List.replicate j (0:UInt8)).length g) ?_
  refine cl wN (ut x _ ([(128:UInt8)]++List.replicate j (0:UInt8)) (nH (Rd.of_own i) W) 0 4 (by first|omega|(simp;done)|(simp;omega)|(simp only [List.length_append,List.length_cons,List.length_nil] at *;omega))) ?_
  rintro _ H ⟨K,⟨a1,a2,rfl,ad,ae,a3⟩⟩
  have a4:=qe ([(128:UInt8)]++List.replicate j (0:UInt8)) 0 4
  refine mw (vi a) ?_
  refine ar (8*a) wN ?_
  refine cl wN (ut H _ (pB ([(128:UInt8)]++List.replicate j (0:UInt8)) 0 4) (nH (Rd.of_own ad) ae) (8*a) 4 (by first|omega|(simp;done)|(simp;omega)|(simp only [List.length_append,List.length_cons,List.length_nil] at *;omega))) ?_
  rintro _ Z ⟨af,⟨L,M,rfl,ah,ai,a5⟩⟩
  have aj:=(G.extk K).extk af
  have a6:=qe (pB ([(128:UInt8)]++List.replicate j (0:UInt8)) 0 4) (8*a) 4
  refine aw (vs L (pB (pB ([(128:UInt8)]++List.replicate j (0:UInt8)) 0 4) (8*a) 4).length M) ?_
  refine n3<|rt (vs L (pB (pB ([(128:UInt8)]++List.replicate j (0:UInt8)) 0 4) (8*a) 4).length M) ?_
  refine ⟨aj.keep0,?_⟩
  have ak:pb a=(pB (pB ([(128:UInt8)]++List.replicate j (0:UInt8)) 0 4) (8*a) 4):=by first|exact uk (by omega)|exact yq (by omega) (by omega) (by omega) (by omega)
  rw [ak]
  exact ⟨_,_,rfl,(mO ah (z3 y A K)),ai,⟨trivial,trivial⟩⟩

theorem Br (a:World)  :Fn Tryz.prog 165 #[] a (fun v b=>Keep a b∧AP b a.heap.size v (k0)):=by
 refine nu (n:=2) [] Tryz.func165 rfl rfl ?_
 refine sr<|aw (vs none 0 0) ?_
 refine nx<|ltI ([1779033703,3144134277,1013904242,2773480762,1359893119,2600822924,528734635,1541459225]:List Int) wN nf ?_
 intro d e j f g
 have h:=(Ch.base a).extk f
 refine aw (vs d ([1779033703,3144134277,1013904242,2773480762,1359893119,2600822924,528734635,1541459225]:List Int).length e) ?_
 refine n3<|rt (vs d ([1779033703,3144134277,1013904242,2773480762,1359893119,2600822924,528734635,1541459225]:List Int).length e) ?_
 refine ⟨h.keep0,?_⟩
 have i:k0=([1779033703,3144134277,1013904242,2773480762,1359893119,2600822924,528734635,1541459225]:List Int):=by rfl
 rw [i]
 exact ⟨_,_,rfl,g,(by simp),⟨trivial,trivial⟩⟩

def ws8 (x:List Int):Bool:=rk x 8
theorem CL {x:List Int} (h:ws8 x=true):qf x=true∧(x.length:Int)=8:=qE h
theorem yI (b:World) (m:Value) (a:List Int) (s:xQ b m a) :Fn Tryz.prog 169 #[m] b (fun v g=>Keep b g∧O_4 g b.heap.size v (ws8 a)):=by
 obtain ⟨d,e,rfl,l,A⟩:=s
 refine nu (n:=19) [(vs d a.length e)] Tryz.func169 rfl rfl ?_
 refine sr<|aw vF ?_
 refine n4<|aw (vi 0) ?_
 refine mW<|mP<|ng<|oa [(0,(vs d a.length e)),(3,(vi ((0:Nat):Int)))] ⟨rfl,(cA (Value.int .i64) (show (0:Int)=((0:Nat):Int) by omega)),trivial⟩ (fun e' g=>∃ (i:Nat) (o:Env),e'=pt o [(0,(vs d a.length e)),(3,(vi ((i:Nat):Int)))]∧Ch (fun k=>b.heap.size≤k) b g∧Ch (fun k=>b.heap.size≤k) b g∧i≤a.length∧qf (a.take i)=true) (fun e' _=>a.length - ((intOf (e' 3))).toNat) ?_ ?_
 ·exact fun u=>⟨0,u,rfl,(Ch.base b),(Ch.refl (fun k=>b.heap.size≤k) b),(by omega),(by first|rfl|exact rq (by assumption) (by omega) (by assumption))⟩
 ·rintro _ p ⟨i,o,rfl,f,t,B,C⟩
  refine nh<|sr<|mw (vi ((i:Nat):Int)) ?_
  refine mw (vs d a.length e) ?_
  refine ln wN nf (l.from0 f) ?_
  refine pu (vb (decide (((i:Nat):Int) < (a.length:Int)))) wN ?_
  refine n2 ?_
  rcases bf (decide (((i:Nat):Int) < (a.length:Int))) with h|h
  ·have D:=dF h
   refine cf h<|oh<|mU<|mU<|nq<|mP<|sr<|mw (vs d a.length e) ?_
   refine ln wN nf (l.from0 f) ?_
   refine pu (vb (decide ((a.length:Int)=8))) wN ?_
   refine aw (vb (decide ((a.length:Int)=8))) ?_
   refine n3<|rt (vb (decide ((a.length:Int)=8))) ?_
   refine ⟨f.keep0,?_⟩
   have w:ws8 a=decide ((a.length:Int)=8):=by first|(have hz:=qD (x:=a) (k:=i) (by omega) (by first|assumption|omega);simp [ws8,rk,hz])|(have hz:=oB (x:=a) (k:=i) (by assumption) (by omega);simp [ws8,rk,hz])
   rw [w]
   exact rfl
  have E:=dT h
  refine ct h<|nm<|mP<|nh<|ng<|sr<|mw (vs d a.length e) ?_
  refine mw (vi ((i:Nat):Int)) ?_
  refine ix wN ((i:Nat):Int) nf (l.from0 f) ?_
  refine ei (x:=a) i wN mT (l.from0 f) ?_
  refine cl wN (pv p (a.getD i 0) 0 4294967295) ?_
  rintro _ F ⟨q,rfl⟩
  have r:=f.extk q
  refine pu (vb (!(nB (a.getD i 0) 0 4294967295))) wN ?_
  refine n2 ?_
  rcases bf (nB (a.getD i 0) 0 4294967295) with j|j
  ·have G:=og j
   refine ct (cA not j)<|sr<|aw vF ?_
   refine mW<|mP<|oY<|nR<|np<|np<|nR<|np<|rt vF ?_
   refine ⟨r.keep0,?_⟩
   have y:ws8 a=false:=by first|(have hz:=qD (x:=a) (k:=i) (by omega) (by first|assumption|omega);simp [ws8,rk,hz])|(have hz:=oB (x:=a) (k:=i) (by assumption) (by omega);simp [ws8,rk,hz])
   rw [y]
   exact rfl
  have H:=nS j
  refine cf (cA not j)<|nm<|mQ<|mP<|mV ?_
  refine mw (vi ((i:Nat):Int)) ?_
  refine ar (((i:Nat):Int)+1) wN ?_
  refine aw (vi (((i:Nat):Int)+1)) ?_
  refine mW<|nX (w0:=p) [(0,(vs d a.length e)),(3,(vi (((i+1):Nat):Int)))] ?_ ?_ ?_
  · exact ⟨rfl,(cA (Value.int .i64) (show ((((i:Nat):Int)+1):Int)=(((i+1):Nat):Int) by omega)),trivial⟩
  · exact fun u=>⟨(i+1),u,rfl,r,(((Ch.refl (fun k=>b.heap.size≤k) b).ext t (fun k hk=>hk)).extk q),(by omega),(by first|rfl|exact rq (by assumption) (by omega) (by assumption))⟩
  · show a.length - ((((i+1):Nat):Int)).toNat < a.length - (((i:Nat):Int)).toNat;omega

theorem CU (a:World)  :Fn Tryz.prog 170 #[] a (fun v b=>Keep a b∧AP b a.heap.size v (kw)):=by
 refine nu (n:=2) [] Tryz.func170 rfl rfl ?_
 refine sr<|aw (vs none 0 0) ?_
 refine nx<|ltI ([1116352408,1899447441,3049323471,3921009573,961987163,1508970993,2453635748,2870763221,3624381080,310598401,607225278,1426881987,1925078388,2162078206,2614888103,3248222580,3835390401,4022224774,264347078,604807628,770255983,1249150122,1555081692,1996064986,2554220882,2821834349,2952996808,3210313671,3336571891,3584528711,113926993,338241895,666307205,773529912,1294757372,1396182291,1695183700,1986661051,2177026350,2456956037,2730485921,2820302411,3259730800,3345764771,3516065817,3600352804,4094571909,275423344,430227734,506948616,659060556,883997877,958139571,1322822218,1537002063,1747873779,1955562222,2024104815,2227730452,2361852424,2428436474,2756734187,3204031479,3329325298]:List Int) wN nf ?_
 intro d e j f g
 have h:=(Ch.base a).extk f
 refine aw (vs d ([1116352408,1899447441,3049323471,3921009573,961987163,1508970993,2453635748,2870763221,3624381080,310598401,607225278,1426881987,1925078388,2162078206,2614888103,3248222580,3835390401,4022224774,264347078,604807628,770255983,1249150122,1555081692,1996064986,2554220882,2821834349,2952996808,3210313671,3336571891,3584528711,113926993,338241895,666307205,773529912,1294757372,1396182291,1695183700,1986661051,2177026350,2456956037,2730485921,2820302411,3259730800,3345764771,3516065817,3600352804,4094571909,275423344,430227734,506948616,659060556,883997877,958139571,1322822218,1537002063,1747873779,1955562222,2024104815,2227730452,2361852424,2428436474,2756734187,3204031479,3329325298]:List Int).length e) ?_
 refine n3<|rt (vs d ([1116352408,1899447441,3049323471,3921009573,961987163,1508970993,2453635748,2870763221,3624381080,310598401,607225278,1426881987,1925078388,2162078206,2614888103,3248222580,3835390401,4022224774,264347078,604807628,770255983,1249150122,1555081692,1996064986,2554220882,2821834349,2952996808,3210313671,3336571891,3584528711,113926993,338241895,666307205,773529912,1294757372,1396182291,1695183700,1986661051,2177026350,2456956037,2730485921,2820302411,3259730800,3345764771,3516065817,3600352804,4094571909,275423344,430227734,506948616,659060556,883997877,958139571,1322822218,1537002063,1747873779,1955562222,2024104815,2227730452,2361852424,2428436474,2756734187,3204031479,3329325298]:List Int).length e) ?_
 refine ⟨h.keep0,?_⟩
 have i:kw=([1116352408,1899447441,3049323471,3921009573,961987163,1508970993,2453635748,2870763221,3624381080,310598401,607225278,1426881987,1925078388,2162078206,2614888103,3248222580,3835390401,4022224774,264347078,604807628,770255983,1249150122,1555081692,1996064986,2554220882,2821834349,2952996808,3210313671,3336571891,3584528711,113926993,338241895,666307205,773529912,1294757372,1396182291,1695183700,1986661051,2177026350,2456956037,2730485921,2820302411,3259730800,3345764771,3516065817,3600352804,4094571909,275423344,430227734,506948616,659060556,883997877,958139571,1322822218,1537002063,1747873779,1955562222,2024104815,2227730452,2361852424,2428436474,2756734187,3204031479,3329325298]:List Int):=by rfl
 rw [i]
 exact ⟨_,_,rfl,g,(by simp),⟨trivial,trivial⟩⟩

def zl (w:World) (lo:Nat) (v:Value) (x:(Int)×(Int)×(Bool)):Prop:=v=.tuple #[.int .i64 x.1,.int .i64 x.2.1,.bool x.2.2]
theorem Cp (e:World) (t:Value) (b:List UInt8) (A:pI e t b) (a:Int) (d:Int) :Fn Tryz.prog 174 #[t,(vi a),(vi d)] e (fun v m=>Keep e m∧zl m e.heap.size v (pi b a d)):=by
 obtain ⟨j,l,rfl,s,K⟩:=A
 refine nu (n:=48) [(vs j b.length l),(vi a),(vi d)] Tryz.func174 rfl rfl ?_
 refine sr<|aw (vi 0) ?_
 refine aw (vi 0) ?_
 refine aw vF ?_
 refine n4<|jT1 [(0,(vs j b.length l)),(1,(vi a)),(2,(vi d)),(6,(vi 0)),(7,(vi 0)),(8,vF)] (pi b a d=(0,0,false)) ?_ fun q=>?_
 ·intro B w C L
  have D:=(Ch.base e).extk C
  refine sr<|aw (vi 0) ?_
  refine aw (vi 0) ?_
  refine aw vF ?_
  refine n1<|vw (.inl rfl) (vi 0) (vi 0) vF rfl rfl rfl rfl ?_
  refine ⟨D.keep0,?_⟩
  rw [B]
  exact rfl
 refine mw (vi d) ?_
 refine pu (vb (decide (d < 1))) wN ?_
 refine mw (vb (decide (d < 1))) ?_
 rcases bt (decide (d < 1)) with g|g
 ·have M:=dT g
  iterate 2 refine sk g ?_
  refine pk vT wN g ?_
  refine mw vT ?_
  iterate 2 refine sk T1 ?_
  refine pk vT wN T1 ?_
  refine mw vT ?_
  iterate 6 refine sk T1 ?_
  refine pk vT wN T1 ?_
  refine n2<|ct T1 ?_
  have E:pi b a d=(0,0,false):=by first|exact rj (by omega)|exact tH (by omega) (by omega) (by omega) (by omega)
  exact wj (q E _ (Ch.refl _ _))
 have N:=dF g
 refine mv (vi d) (wS g) ?_
 refine pu (vb (decide (6 < d))) (wS g) ?_
 refine pf (vb (decide (6 < d))) wN g ?_
 refine mw (vb (decide (6 < d))) ?_
 rcases bt (decide (6 < d)) with h|h
 ·have O:=dT h
  iterate 2 refine sk h ?_
  refine pk vT wN h ?_
  refine mw vT ?_
  iterate 6 refine sk T1 ?_
  refine pk vT wN T1 ?_
  refine n2<|ct T1 ?_
  have F:pi b a d=(0,0,false):=by first|exact rj (by omega)|exact tH (by omega) (by omega) (by omega) (by omega)
  exact wj (q F _ (Ch.refl _ _))
 have P:=dF h
 refine mv (vi a) (wS h) ?_
 refine pu (vb (decide (a < 0))) (wS h) ?_
 refine pf (vb (decide (a < 0))) wN h ?_
 refine mw (vb (decide (a < 0))) ?_
 rcases bt (decide (a < 0)) with f|f
 ·have Q:=dT f
  iterate 6 refine sk f ?_
  refine pk vT wN f ?_
  refine n2<|ct T1 ?_
  have G:pi b a d=(0,0,false):=by first|exact rj (by omega)|exact tH (by omega) (by omega) (by omega) (by omega)
  exact wj (q G _ (Ch.refl _ _))
 have R:=dF f
 refine mv (vi a) (wS f) ?_
 refine mv (vs j b.length l) (wS f) ?_
 refine ln (wS f) mR s ?_
 refine mv (vi d) (wS f) ?_
 refine ar ((b.length:Int) - d) (wS f) ?_
 refine pu (vb (decide (((b.length:Int) - d) < a))) (wS f) ?_
 refine pf (vb (decide (((b.length:Int) - d) < a))) wN f ?_
 refine n2 ?_
 rcases bt (decide (((b.length:Int) - d) < a)) with o|o
 ·have S:=dT o
  refine ct o ?_
  have H:pi b a d=(0,0,false):=by first|exact rj (by omega)|exact tH (by omega) (by omega) (by omega) (by omega)
  exact wj (q H _ (Ch.refl _ _))
 have T:=dF o
 refine cf o<|y1<|aw (vi 0) ?_
 refine n4<|aw (vi 0) ?_
 refine mW<|mP<|ng<|oa [(0,(vs j b.length l)),(1,(vi a)),(2,(vi d)),(6,(vi 0)),(7,(vi 0)),(8,vF),(9,(vi (ra ((b.drop a.toNat).take 0) 0))),(10,(vi ((0:Nat):Int)))] ⟨rfl,rfl,rfl,rfl,rfl,rfl,(cA (Value.int .i64) (show (0:Int)=(ra ((b.drop a.toNat).take 0) 0) by rfl)),(cA (Value.int .i64) (show (0:Int)=((0:Nat):Int) by omega)),trivial⟩ (fun e' m=>∃ (i:Nat) (y:Env),e'=pt y [(0,(vs j b.length l)),(1,(vi a)),(2,(vi d)),(6,(vi 0)),(7,(vi 0)),(8,vF),(9,(vi (ra ((b.drop a.toNat).take i) 0))),(10,(vi ((i:Nat):Int)))]∧Ch (fun k=>e.heap.size≤k) e m∧Ch (fun k=>e.heap.size≤k) e m∧((i:Nat):Int)≤d) (fun e' _=>(d - (intOf (e' 10))).toNat) ?_ ?_
 ·exact fun u=>⟨0,u,rfl,(Ch.base e),(Ch.refl (fun k=>e.heap.size≤k) e),(by omega)⟩
 ·rintro _ w ⟨i,y,rfl,r,I,V⟩
  have hgb:=yA (b.drop a.toNat) i (by omega)
  have W:(b.getD (a+((i:Nat):Int)).toNat 0).toNat < 256:=UInt8.toNat_lt _
  refine nh<|sr<|mw (vi ((i:Nat):Int)) ?_
  refine mw (vi d) ?_
  refine pu (vb (decide (((i:Nat):Int) < d))) wN ?_
  refine n2 ?_
  rcases bf (decide (((i:Nat):Int) < d)) with p|p
  ·have X:=dF p
   refine cf p<|oh<|mU<|mU<|nq<|mP<|sr<|mw (vi (ra ((b.drop a.toNat).take i) 0)) ?_
   refine mw (vi a) ?_
   refine mw (vi d) ?_
   refine ar (a+d) wN ?_
   refine aw (vi (ra ((b.drop a.toNat).take i) 0)) ?_
   refine aw (vi (a+d)) ?_
   refine aw vT ?_
   refine n3<|vw (.inl rfl) (vi (ra ((b.drop a.toNat).take i) 0)) (vi (a+d)) vT rfl rfl rfl rfl ?_
   refine ⟨r.keep0,?_⟩
   have J:pi b a d=((ra ((b.drop a.toNat).take i) 0),(a+d),true):=by first|exact rj (by omega)|exact tH (by omega) (by omega) (by omega) (by omega)
   rw [J]
   exact rfl
  have Y:=dT p
  refine ct p<|nm<|mP<|nh<|ng<|mV ?_
  refine mw (vi (ra ((b.drop a.toNat).take i) 0)) ?_
  refine ar ((ra ((b.drop a.toNat).take i) 0)*256) wN ?_
  refine mw (vs j b.length l) ?_
  refine mw (vi a) ?_
  refine mw (vi ((i:Nat):Int)) ?_
  refine ar (a+((i:Nat):Int)) wN ?_
  refine ix wN (a+((i:Nat):Int)) mR (s.from0 r) ?_
  refine eb (x:=b) (((a+((i:Nat):Int))).toNat) wN pP (s.from0 r) ?_
  refine ar ((b.getD ((a+((i:Nat):Int))).toNat 0).toNat:Int) wN ?_
  refine ar (((ra ((b.drop a.toNat).take i) 0)*256)+((b.getD ((a+((i:Nat):Int))).toNat 0).toNat:Int)) wN ?_
  refine aw (vi (((ra ((b.drop a.toNat).take i) 0)*256)+((b.getD ((a+((i:Nat):Int))).toNat 0).toNat:Int))) ?_
  refine mW<|mQ<|mP<|mV ?_
  refine mw (vi ((i:Nat):Int)) ?_
  refine ar (((i:Nat):Int)+1) wN ?_
  refine aw (vi (((i:Nat):Int)+1)) ?_
  refine mW<|nX (w0:=w) [(0,(vs j b.length l)),(1,(vi a)),(2,(vi d)),(6,(vi 0)),(7,(vi 0)),(8,vF),(9,(vi (ra ((b.drop a.toNat).take (i+1)) 0))),(10,(vi (((i+1):Nat):Int)))] ?_ ?_ ?_
  · exact ⟨rfl,rfl,rfl,rfl,rfl,rfl,(cA (Value.int .i64) (show ((((ra ((b.drop a.toNat).take i) 0)*256)+((b.getD ((a+((i:Nat):Int))).toNat 0).toNat:Int)):Int)=(ra ((b.drop a.toNat).take (i+1)) 0) by exact xy (by omega) (by omega))),(cA (Value.int .i64) (show ((((i:Nat):Int)+1):Int)=(((i+1):Nat):Int) by omega)),trivial⟩
  · exact fun u=>⟨(i+1),u,rfl,r,((Ch.refl (fun k=>e.heap.size≤k) e).ext I (fun k hk=>hk)),(by omega)⟩
  · show (d - (((i+1):Nat):Int)).toNat < (d - ((i:Nat):Int)).toNat;omega

theorem tZ (i:World) (e:Int) (d:Int) (x:1≤d) (y:d≤31):Fn Tryz.prog 172 #[(vi e),(vi d)] i (fun v l=>Keep i l∧O_3 l i.heap.size v (rot e d)):=by
 refine nu (n:=24) [(vi e),(vi d)] Tryz.func172 rfl rfl ?_
 refine sr<|aw (vi 0) ?_
 refine nx<|mw (vi e) ?_
 refine qc e 4294967295 4294967296 32 wN rfl rfl (by decide) (by decide) (by decide) (by kernel_rfl) ?_
 refine aw (vi (e % 4294967296)) ?_
 refine n4<|jT1 [(1,(vi d)),(4,(vi 0)),(5,(vi (e % 4294967296)))] (rot e d=(e % 4294967296)) ?_ fun m=>?_
 ·intro o f p A
  have q:=(Ch.base i).extk p
  refine sr<|mw (vi (e % 4294967296)) ?_
  refine aw (vi (e % 4294967296)) ?_
  refine n1<|rt (vi (e % 4294967296)) ?_
  refine ⟨q.keep0,?_⟩
  rw [o]
  exact rfl
 refine mw (vi d) ?_
 refine pu (vb (decide (d < 1))) wN ?_
 refine mw (vb (decide (d < 1))) ?_
 rcases bt (decide (d < 1)) with g|g
 ·have B:=dT g
  iterate 2 refine sk g ?_
  refine pk vT wN g ?_
  refine n2<|ct T1 ?_
  have r:rot e d=(e % 4294967296):=by first|rfl|(exfalso;omega)
  exact wj (m r _ (Ch.refl _ _))
 have C:=dF g
 refine mv (vi d) (wS g) ?_
 refine pu (vb (decide (31 < d))) (wS g) ?_
 refine pf (vb (decide (31 < d))) wN g ?_
 refine n2 ?_
 rcases bt (decide (31 < d)) with j|j
 ·have D:=dT j
  refine ct j ?_
  have s:rot e d=(e % 4294967296):=by first|rfl|(exfalso;omega)
  exact wj (m s _ (Ch.refl _ _))
 have E:=dF j
 refine cf j<|nm<|mP<|nh<|ob ([(15,[],[],(fun _ v _=>v=(vi (e % 4294967296)))),(16,[],[],(fun _ v _=>v=(vi d))),(17,[],[0,1],(fun _ v _=>v=(vi ((e % 4294967296) / (2:Int) ^ (d).toNat)))),(18,[],[],(fun _ v _=>v=(vi (e % 4294967296)))),(19,[],[],(fun _ v _=>v=(vi d))),(20,[],[4],(fun _ v _=>v=(vi (32 - d)))),(21,[],[3,4,5],(fun _ v _=>v=(vi ((e % 4294967296)*(2:Int) ^ ((32 - d)).toNat))))]:GV) (fun _ l=>Keep i l) [] oM rfl (by kernel_rfl) (by kernel_rfl) ?_ (fun _ _ h=>h) (fun _ _ _ _ h _ k=>h.trans k) trivial ?_ ?_ ?_
 ·exact ⟨hV,hE,⟨hV,hE,⟨hV,hE,⟨hV,hE,⟨hV,hE,⟨hV,hE,⟨hV,hE,trivial⟩⟩⟩⟩⟩⟩⟩
 ·exact trivial
 ·refine ⟨?_,⟨?_,⟨?_,⟨?_,⟨?_,⟨?_,⟨?_,trivial⟩⟩⟩⟩⟩⟩⟩
  ·intro _ f F _
   rintro _ _ _ _ _ _ _
   refine sw<|mw (vi (e % 4294967296)) ?_
   exact f1
  ·intro _ f G _
   rintro _ _ _ _ _ _ _
   refine sw<|mw (vi d) ?_
   exact f1
  ·intro _ f H _
   rintro _ rfl _ rfl _ _ _ _ _
   refine sw<|uf (e % 4294967296) d wN rfl rfl rfl rfl rfl (by omega) (by omega) ?_
   have I:=vq (a:=(e % 4294967296)) (by omega) (d).toNat
   exact f1
  ·intro _ f J _
   rintro _ _ _ _ _ _ _
   refine sw<|mw (vi (e % 4294967296)) ?_
   exact f1
  ·intro _ f K _
   rintro _ _ _ _ _ _ _
   refine sw<|mw (vi d) ?_
   exact f1
  ·intro _ f L _
   rintro _ _ _ _ _ rfl _ _
   refine sw<|ar (32 - d) wN ?_
   exact f1
  ·intro _ f M _
   rintro _ _ _ _ rfl _ rfl _ rfl _
   refine sw<|tz (e % 4294967296) (32 - d) wN rfl rfl rfl rfl rfl (by omega) (by omega) (by omega) (by omega) ?_
   have N:=yh (a:=(e % 4294967296)) (n:=((32 - d)).toNat) (by omega) (by omega) (by omega)
   exact f1
 ·intro _ f t
  have u:=(Ch.base i).extk t
  rintro _ rfl _ rfl _ rfl
  have O:=vq (a:=(e % 4294967296)) (by omega) (d).toNat
  rintro _ rfl _ rfl _ rfl _ rfl
  have P:=yh (a:=(e % 4294967296)) (n:=((32 - d)).toNat) (by omega) (by omega) (by omega)
  refine sw<|we ((e % 4294967296) / (2:Int) ^ (d).toNat) ((e % 4294967296)*(2:Int) ^ ((32 - d)).toNat) wN rfl rfl (by kernel_rfl) (by omega) (by omega) (by omega) (by omega) ?_
  have Q:=BX (a:=((e % 4294967296) / (2:Int) ^ (d).toNat)) (b:=((e % 4294967296)*(2:Int) ^ ((32 - d)).toNat)) (by omega) (by omega)
  refine qc (orI ((e % 4294967296) / (2:Int) ^ (d).toNat) ((e % 4294967296)*(2:Int) ^ ((32 - d)).toNat)) 4294967295 4294967296 32 wN rfl rfl (by decide) (by decide) (by decide) (by kernel_rfl) ?_
  refine aw (vi ((orI ((e % 4294967296) / (2:Int) ^ (d).toNat) ((e % 4294967296)*(2:Int) ^ ((32 - d)).toNat)) % 4294967296)) ?_
  refine n3<|rt (vi ((orI ((e % 4294967296) / (2:Int) ^ (d).toNat) ((e % 4294967296)*(2:Int) ^ ((32 - d)).toNat)) % 4294967296)) ?_
  refine ⟨u.keep0,?_⟩
  have w:rot e d=((orI ((e % 4294967296) / (2:Int) ^ (d).toNat) ((e % 4294967296)*(2:Int) ^ ((32 - d)).toNat)) % 4294967296):=by first|rfl|(exfalso;omega)
  rw [w]
  exact rfl

theorem xD (o:World) (ad:Value) (d:List UInt8) (a0:pI o ad d) :Fn Tryz.prog 171 #[ad] o (fun v s=>Keep o s∧AP s o.heap.size v (schedP d)):=by
 obtain ⟨x,D,rfl,ae,a1⟩:=a0
 refine nu (n:=84) [(vs x d.length D)] Tryz.func171 rfl rfl ?_
 refine sr<|aw (vs none 0 0) ?_
 refine nx<|nF wN rfl rfl nf (fun w=>by kernel_rfl) ?_
 intro E J S af
 have T:=(Ch.base o).extk S
 refine aw (vs (some E) 0 0) ?_
 refine n4<|mw (vs x d.length D) ?_
 refine ln wN mR (ae.from0 T) ?_
 refine pu (vb (!(decide ((d.length:Int)=64)))) wN ?_
 refine n2 ?_
 rcases bf (decide ((d.length:Int)=64)) with F|F
 ·have aZ:=dF F
  refine ct (cA not F)<|sr<|mw (vs (some E) 0 0) ?_
  refine aw (vs (some E) 0 0) ?_
  refine n1<|rt (vs (some E) 0 0) ?_
  refine ⟨T.keep0,?_⟩
  have a2:schedP d=[]:=by first|exact tk (by omega)|exact wG (by omega) (by omega) (by omega)
  rw [a2]
  exact ⟨_,_,rfl,af,(by simp),⟨trivial,trivial⟩⟩
 have ba:=dT F
 refine cf (cA not F)<|y2<|aw (vi 0) ?_
 refine mW<|mP<|ng ?_
 have ah:([]:List Int)=oL d 0:=by rfl
 have ai:0=(oL d 0).length:=by rw [← ah];try (first|rfl|simp only [List.length_set]|simp)
 refine oa [(0,(vs x d.length D)),(2,(vs none 0 0)),(3,(.slice (some E) (oL d 0).length 0)),(4,(vi ((0:Nat):Int)))] ⟨rfl,rfl,rfl,(cA (Value.int .i64) (show (0:Int)=((0:Nat):Int) by omega)),trivial⟩ (fun e' s=>∃ (k:Nat) (aj:Env) (i:Option Addr) (j:Nat),e'=pt aj [(0,(vs x d.length D)),(2,(vs none 0 0)),(3,(.slice i (oL d k).length j)),(4,(vi ((k:Nat):Int)))]∧Ch (fun k=>o.heap.size≤k) o s∧Ch (fun k=>o.heap.size≤k) J s∧k≤16∧(World.ownsRow s o.heap.size 3 1 (.slice i (oL d k).length j) (oL d k).length ((oL d k).map iV)∧(oL d k).length≤1073741824)) (fun e' _=>(16 - (intOf (e' 4))).toNat) ?_ ?_
 ·exact fun u=>⟨0,u,(some E),0,rfl,T,(Ch.refl (fun k=>o.heap.size≤k) J),(by omega),⟨(by rw [← ai,← ah];exact af),(by rw [← ai];first|exact (by simp)|(simp only [List.length_append,List.length_take,List.length_replicate];omega))⟩⟩
 ·rintro _ G ⟨k,aj,i,j,rfl,V,W,bb,⟨K,a3⟩⟩
  have hsl:=qW d k
  refine nh<|sr<|mw (vi ((k:Nat):Int)) ?_
  refine pu (vb (decide (((k:Nat):Int) < 16))) wN ?_
  refine n2 ?_
  rcases bt (decide (((k:Nat):Int) < 16)) with H|H
  ·have bc:=dT H
   refine ct H<|nm<|mP<|nh<|ng<|sr<|mw (vs x d.length D) ?_
   refine mw (vi ((k:Nat):Int)) ?_
   refine ar (4*((k:Nat):Int)) wN ?_
   refine cl wN (Cp G _ d (nH (ae.from0 V) a1) (4*((k:Nat):Int)) 4) ?_
   rintro _ X ⟨L,rfl⟩
   refine mw (.tuple #[(vi ((pi d (4*((k:Nat):Int)) 4).1)),(vi ((pi d (4*((k:Nat):Int)) 4).2.1)),(vb ((pi d (4*((k:Nat):Int)) 4).2.2))]) ?_
   refine pu (vi ((pi d (4*((k:Nat):Int)) 4).1)) wN ?_
   refine pu (vi ((pi d (4*((k:Nat):Int)) 4).2.1)) wN ?_
   refine pu (vb ((pi d (4*((k:Nat):Int)) 4).2.2)) wN ?_
   refine aw (vi ((pi d (4*((k:Nat):Int)) 4).1)) ?_
   refine aw (vi ((pi d (4*((k:Nat):Int)) 4).2.1)) ?_
   refine aw (vb ((pi d (4*((k:Nat):Int)) 4).2.2)) ?_
   refine mW<|mP<|mV ?_
   refine mw (vs i (oL d k).length j) ?_
   refine mw (vi ((pi d (4*((k:Nat):Int)) 4).1)) ?_
   refine ltI ([(pi d (4*((k:Nat):Int)) 4).1]:List Int) wN nf ?_
   intro bd be ak M a4
   have a5:=(mz (mz K L) M)
   refine apI (oL d k) ([(pi d (4*((k:Nat):Int)) 4).1]:List Int) wN nf a5 (Rd.of_own a4) (z4 S W L M) ?_
   intro N O am an a6 bg a7
   have a8:=((V.extk L).extk M).ext an (fun k hk=>nT (Nat.le_refl o.heap.size) (nb K k hk).1)
   refine aw (vs N ((oL d k)++([(pi d (4*((k:Nat):Int)) 4).1]:List Int)).length O) ?_
   refine mW<|mQ<|mP<|mV ?_
   refine mw (vi ((k:Nat):Int)) ?_
   refine ar (((k:Nat):Int)+1) wN ?_
   refine aw (vi (((k:Nat):Int)+1)) ?_
   refine mW ?_
   have ao:(((oL d k)++([(pi d (4*((k:Nat):Int)) 4).1]:List Int)):List Int)=oL d (k+1):=by exact wh (by omega) (by omega)
   refine nX (w0:=G) [(0,(vs x d.length D)),(2,(vs none 0 0)),(3,(.slice N (oL d (k+1)).length O)),(4,(vi (((k+1):Nat):Int)))] ?_ ?_ ?_
   · exact ⟨rfl,rfl,(cA (fun l:List Int=>Value.slice N l.length O) ao),(cA (Value.int .i64) (show ((((k:Nat):Int)+1):Int)=(((k+1):Nat):Int) by omega)),trivial⟩
   · exact fun u=>⟨(k+1),u,N,O,rfl,a8,(((((Ch.refl (fun k=>o.heap.size≤k) J).ext W (fun k hk=>hk)).extk L).extk M).ext an (fun k hk=>nT (Nat.le_refl o.heap.size) (nb K k hk).1)),(by omega),(ao ▸ ⟨a6,a7⟩)⟩
   · show (16 - (((k+1):Nat):Int)).toNat < (16 - ((k:Nat):Int)).toNat;omega
  have bh:=dF H
  refine cf H<|oh<|mU ?_
  obtain rfl:k=16:=by omega
  refine mU<|nq<|mP<|nh<|sr<|aw (vi 16) ?_
  refine mW<|mP<|ng ?_
  have ap:((oL d 16):List Int)=schedN d 0:=by rfl
  refine oa [(2,(vs none 0 0)),(3,(.slice i (schedN d 0).length j)),(8,(vi (16+((0:Nat):Int))))] ⟨rfl,(cA (fun l:List Int=>Value.slice i l.length j) ap),(cA (Value.int .i64) (show (16:Int)=(16+((0:Nat):Int)) by omega)),trivial⟩ (fun e' s=>∃ (m:Nat) (aq:Env) (i:Option Addr) (j:Nat),e'=pt aq [(2,(vs none 0 0)),(3,(.slice i (schedN d m).length j)),(8,(vi (16+((m:Nat):Int))))]∧Ch (fun k=>o.heap.size≤k) o s∧Ch (fun k=>o.heap.size≤k) G s∧m≤48∧(World.ownsRow s o.heap.size 3 1 (.slice i (schedN d m).length j) (schedN d m).length ((schedN d m).map iV)∧(schedN d m).length≤1073741824)) (fun e' _=>(64 - (intOf (e' 8))).toNat) ?_ ?_
  ·exact fun u=>⟨0,u,i,j,rfl,V,(Ch.refl (fun k=>o.heap.size≤k) G),(by omega),(ap ▸ ⟨K,a3⟩)⟩
  ·rintro _ X ⟨m,aq,i,j,rfl,au,av,bi,⟨t,a9⟩⟩
   have hsl:=qL d m
   obtain ⟨p,Y⟩:∃ z,(schedN d m).getD (((16+((m:Nat):Int)) - 7)).toNat 0=z:=⟨_,rfl⟩
   have bj:0≤p∧p < 4294967296:=Y ▸ rV (rs d m) (((16+((m:Nat):Int)) - 7)).toNat
   obtain ⟨q,Z⟩:∃ z,(schedN d m).getD (((16+((m:Nat):Int)) - 16)).toNat 0=z:=⟨_,rfl⟩
   have bk:0≤q∧q < 4294967296:=Z ▸ rV (rs d m) (((16+((m:Nat):Int)) - 16)).toNat
   obtain ⟨f,aa⟩:∃ z,(schedN d m).getD (((16+((m:Nat):Int)) - 15)).toNat 0=z:=⟨_,rfl⟩
   have bl:0≤f∧f < 4294967296:=aa ▸ rV (rs d m) (((16+((m:Nat):Int)) - 15)).toNat
   obtain ⟨g,ab⟩:∃ z,(schedN d m).getD (((16+((m:Nat):Int)) - 2)).toNat 0=z:=⟨_,rfl⟩
   have bm:0≤g∧g < 4294967296:=ab ▸ rV (rs d m) (((16+((m:Nat):Int)) - 2)).toNat
   refine nh<|sr<|mw (vi (16+((m:Nat):Int))) ?_
   refine pu (vb (decide ((16+((m:Nat):Int)) < 64))) wN ?_
   refine n2 ?_
   rcases bf (decide ((16+((m:Nat):Int)) < 64)) with I|I
   ·have bn:=dF I
    refine cf I<|oh<|mU<|mU<|nq<|mP<|sr<|mw (vs i (schedN d m).length j) ?_
    refine aw (vs i (schedN d m).length j) ?_
    refine n3<|rt (vs i (schedN d m).length j) ?_
    refine ⟨au.keep0,?_⟩
    have aA:schedP d=(schedN d m):=by first|exact tk (by omega)|exact wG (by omega) (by omega) (by omega)
    rw [aA]
    exact ⟨_,_,rfl,t,a9,⟨trivial,trivial⟩⟩
   have bo:=dT I
   refine ct I<|nm<|mP<|nh<|ng<|sr<|mw (vs i (schedN d m).length j) ?_
   refine mw (vi (16+((m:Nat):Int))) ?_
   refine ar ((16+((m:Nat):Int)) - 15) wN ?_
   refine ix wN ((16+((m:Nat):Int)) - 15) nf (Rd.of_own t) ?_
   refine pE (iV f) wN rfl rfl rfl rfl mT (Rd.of_own t) (by rw [← aa];exact xx (by simp) (by first|omega|(simp <;> omega))) ?_
   refine aw (vi f) ?_
   refine nx<|mw (vs i (schedN d m).length j) ?_
   refine mw (vi (16+((m:Nat):Int))) ?_
   refine ar ((16+((m:Nat):Int)) - 2) wN ?_
   refine ix wN ((16+((m:Nat):Int)) - 2) nf (Rd.of_own t) ?_
   refine pE (iV g) wN rfl rfl rfl rfl mT (Rd.of_own t) (by rw [← ab];exact xx (by simp) (by first|omega|(simp <;> omega))) ?_
   refine aw (vi g) ?_
   refine nx<|mw (vi f) ?_
   refine cl wN (tZ X f 7 (by omega) (by omega)) ?_
   rintro _ ak ⟨y,rfl⟩
   have bp:=oH f 7
   refine mw (vi f) ?_
   refine cl wN (tZ ak f 18 (by omega) (by omega)) ?_
   rintro _ am ⟨A,rfl⟩
   have aB:=(au.extk y).extk A
   have bq:=oH f 18
   refine pD (rot f 7) (rot f 18) wN rfl rfl (by kernel_rfl) (by omega) (by omega) (by omega) (by omega) ?_
   have br:=ox (a:=(rot f 7)) (b:=(rot f 18)) (by omega) (by omega)
   refine mw (vi f) ?_
   refine sJ f (3:Int) wN rfl rfl rfl rfl rfl (by omega) (by omega) ?_
   have bu:=vq (a:=f) (by omega) ((3:Int)).toNat
   refine pD (nw (rot f 7) (rot f 18)) (f / (2:Int) ^ ((3:Int)).toNat) wN rfl rfl (by kernel_rfl) (by omega) (by omega) (by omega) (by omega) ?_
   have bv:=ox (a:=(nw (rot f 7) (rot f 18))) (b:=(f / (2:Int) ^ ((3:Int)).toNat)) (by omega) (by omega)
   refine aw (vi (nw (nw (rot f 7) (rot f 18)) (f / (2:Int) ^ ((3:Int)).toNat))) ?_
   refine nx<|mw (vi g) ?_
   refine cl wN (tZ am g 17 (by omega) (by omega)) ?_
   rintro _ aC ⟨B,rfl⟩
   have bw:=oH g 17
   refine mw (vi g) ?_
   refine cl wN (tZ aC g 19 (by omega) (by omega)) ?_
   rintro _ ax ⟨C,rfl⟩
   have aD:=(aB.extk B).extk C
   have bz:=oH g 19
   refine pD (rot g 17) (rot g 19) wN rfl rfl (by kernel_rfl) (by omega) (by omega) (by omega) (by omega) ?_
   have b0:=ox (a:=(rot g 17)) (b:=(rot g 19)) (by omega) (by omega)
   refine mw (vi g) ?_
   refine sJ g (10:Int) wN rfl rfl rfl rfl rfl (by omega) (by omega) ?_
   have b1:=vq (a:=g) (by omega) ((10:Int)).toNat
   refine pD (nw (rot g 17) (rot g 19)) (g / (2:Int) ^ ((10:Int)).toNat) wN rfl rfl (by kernel_rfl) (by omega) (by omega) (by omega) (by omega) ?_
   have b2:=ox (a:=(nw (rot g 17) (rot g 19))) (b:=(g / (2:Int) ^ ((10:Int)).toNat)) (by omega) (by omega)
   refine aw (vi (nw (nw (rot g 17) (rot g 19)) (g / (2:Int) ^ ((10:Int)).toNat))) ?_
   refine n2<|ob ([(64,[],[],(fun _ v _=>v=(vs i (schedN d m).length j))),(65,[],[],(fun _ v _=>v=(vs i (schedN d m).length j))),(66,[],[],(fun _ v _=>v=(vi (16+((m:Nat):Int))))),(67,[],[2],(fun _ v _=>v=(vi ((16+((m:Nat):Int)) - 7)))),(68,[],[1,2,3],(fun _ v _=>v=(ve (vs i (schedN d m).length j) ((((16+((m:Nat):Int)) - 7)).toNat*1)))),(69,[],[1,2,3,4],(fun _ v _=>v=(vi p))),(70,[],[],(fun _ v _=>v=(vs i (schedN d m).length j))),(71,[],[],(fun _ v _=>v=(vi (16+((m:Nat):Int))))),(72,[],[7],(fun _ v _=>v=(vi ((16+((m:Nat):Int)) - 16)))),(73,[],[6,7,8],(fun _ v _=>v=(ve (vs i (schedN d m).length j) ((((16+((m:Nat):Int)) - 16)).toNat*1)))),(74,[],[6,7,8,9],(fun _ v _=>v=(vi q))),(75,[],[1,2,3,4,5,6,7,8,9,10],(fun _ v _=>v=(vi (p+q)))),(76,[],[],(fun _ v _=>v=(vi (nw (nw (rot f 7) (rot f 18)) (f / (2:Int) ^ ((3:Int)).toNat))))),(77,[],[1,2,3,4,5,6,7,8,9,10,11,12],(fun _ v _=>v=(vi ((p+q)+(nw (nw (rot f 7) (rot f 18)) (f / (2:Int) ^ ((3:Int)).toNat)))))),(78,[],[],(fun _ v _=>v=(vi (nw (nw (rot g 17) (rot g 19)) (g / (2:Int) ^ ((10:Int)).toNat))))),(79,[],[1,2,3,4,5,6,7,8,9,10,11,12,13,14],(fun _ v _=>v=(vi (((p+q)+(nw (nw (rot f 7) (rot f 18)) (f / (2:Int) ^ ((3:Int)).toNat)))+(nw (nw (rot g 17) (rot g 19)) (g / (2:Int) ^ ((10:Int)).toNat)))))),(80,[],[1,2,3,4,5,6,7,8,9,10,11,12,13,14,15],(fun _ v _=>v=(vi ((((p+q)+(nw (nw (rot f 7) (rot f 18)) (f / (2:Int) ^ ((3:Int)).toNat)))+(nw (nw (rot g 17) (rot g 19)) (g / (2:Int) ^ ((10:Int)).toNat))) % 4294967296)))),(81,[],[1,2,3,4,5,6,7,8,9,10,11,12,13,14,15,16],(fun _ v w=>∃ (x:Option Addr) (ac:Nat),v=.slice x ([((((p+q)+(nw (nw (rot f 7) (rot f 18)) (f / (2:Int) ^ ((3:Int)).toNat)))+(nw (nw (rot g 17) (rot g 19)) (g / (2:Int) ^ ((10:Int)).toNat))) % 4294967296)]:List Int).length ac∧w.ownsRow ax.heap.size 3 1 (.slice x ([((((p+q)+(nw (nw (rot f 7) (rot f 18)) (f / (2:Int) ^ ((3:Int)).toNat)))+(nw (nw (rot g 17) (rot g 19)) (g / (2:Int) ^ ((10:Int)).toNat))) % 4294967296)]:List Int).length ac) ([((((p+q)+(nw (nw (rot f 7) (rot f 18)) (f / (2:Int) ^ ((3:Int)).toNat)))+(nw (nw (rot g 17) (rot g 19)) (g / (2:Int) ^ ((10:Int)).toNat))) % 4294967296)]:List Int).length (([((((p+q)+(nw (nw (rot f 7) (rot f 18)) (f / (2:Int) ^ ((3:Int)).toNat)))+(nw (nw (rot g 17) (rot g 19)) (g / (2:Int) ^ ((10:Int)).toNat))) % 4294967296)]:List Int).map iV)∧([((((p+q)+(nw (nw (rot f 7) (rot f 18)) (f / (2:Int) ^ ((3:Int)).toNat)))+(nw (nw (rot g 17) (rot g 19)) (g / (2:Int) ^ ((10:Int)).toNat))) % 4294967296)]:List Int).length≤1073741824∧Aps [(x,ac)]))]:GV) (fun _ s=>Keep ax s) [] oM rfl (by kernel_rfl) (by kernel_rfl) ?_ (fun _ _ h=>h) (fun _ _ _ _ h _ k=>h.trans k) trivial ?_ ?_ ?_
   ·exact ⟨hV,hE,⟨hV,hE,⟨hV,hE,⟨hV,hE,⟨hV,hE,⟨hV,hE,⟨hV,hE,⟨hV,hE,⟨hV,hE,⟨hV,hE,⟨hV,hE,⟨hV,hE,⟨hV,hE,⟨hV,hE,⟨hV,hE,⟨hV,hE,⟨hV,hE,⟨(fun e v w J h hk=>by obtain ⟨aE,aF,he,aG,aH,hap⟩:=h;exact ⟨aE,aF,he,mz aG hk,aH,hap⟩),hE,trivial⟩⟩⟩⟩⟩⟩⟩⟩⟩⟩⟩⟩⟩⟩⟩⟩⟩⟩
   ·exact trivial
   ·refine ⟨?_,⟨?_,⟨?_,⟨?_,⟨?_,⟨?_,⟨?_,⟨?_,⟨?_,⟨?_,⟨?_,⟨?_,⟨?_,⟨?_,⟨?_,⟨?_,⟨?_,⟨?_,trivial⟩⟩⟩⟩⟩⟩⟩⟩⟩⟩⟩⟩⟩⟩⟩⟩⟩⟩
    ·intro _ r b3 _
     iterate 18 intro _
     refine sw<|mw (vs i (schedN d m).length j) ?_
     exact f1
    ·intro _ r b4 _
     iterate 18 intro _
     refine sw<|mw (vs i (schedN d m).length j) ?_
     exact f1
    ·intro _ r b5 _
     iterate 18 intro _
     refine sw<|mw (vi (16+((m:Nat):Int))) ?_
     exact f1
    ·intro _ r b6 _
     rintro _ _ _ rfl;iterate 15 intro _
     refine sw<|ar ((16+((m:Nat):Int)) - 7) wN ?_
     exact f1
    ·intro _ r aI _
     rintro _ _ rfl _ rfl _ rfl;iterate 14 intro _
     refine sw ?_
     have aJ:=(mz (mz (mz (mz (mz t y) A) B) C) aI)
     refine ix wN ((16+((m:Nat):Int)) - 7) nf (Rd.of_own aJ) ?_
     exact f1
    ·intro _ r aK _
     rintro _ _ rfl _ rfl _ rfl _ rfl;iterate 13 intro _
     refine sw ?_
     have aL:=(mz (mz (mz (mz (mz t y) A) B) C) aK)
     refine pE (iV p) wN rfl rfl rfl rfl mT (Rd.of_own aL) (by rw [← Y];exact xx (by simp) (by first|omega|(simp <;> omega))) ?_
     exact f1
    ·intro _ r b7 _
     iterate 18 intro _
     refine sw<|mw (vs i (schedN d m).length j) ?_
     exact f1
    ·intro _ r b8 _
     iterate 18 intro _
     refine sw<|mw (vi (16+((m:Nat):Int))) ?_
     exact f1
    ·intro _ r b9 _
     rintro _ _ _ _ _ _ _ _ rfl _ _ _ _ _ _ _ _ _ _
     refine sw<|ar ((16+((m:Nat):Int)) - 16) wN ?_
     exact f1
    ·intro _ r aM _
     rintro _ _ _ _ _ _ _ rfl _ rfl _ rfl _ _ _ _ _ _ _ _ _
     refine sw ?_
     have aN:=(mz (mz (mz (mz (mz t y) A) B) C) aM)
     refine ix wN ((16+((m:Nat):Int)) - 16) nf (Rd.of_own aN) ?_
     exact f1
    ·intro _ r aO _
     rintro _ _ _ _ _ _ _ rfl _ rfl _ rfl _ rfl _ _ _ _ _ _ _ _
     refine sw ?_
     have aP:=(mz (mz (mz (mz (mz t y) A) B) C) aO)
     refine pE (iV q) wN rfl rfl rfl rfl mT (Rd.of_own aP) (by rw [← Z];exact xx (by simp) (by first|omega|(simp <;> omega))) ?_
     exact f1
    ·intro _ r bA _
     rintro _
     iterate 10 rintro _ rfl
     intro _ _ _ _ _ _ _
     refine sw<|ar (p+q) wN ?_
     exact f1
    ·intro _ r bB _
     iterate 18 intro _
     refine sw<|mw (vi (nw (nw (rot f 7) (rot f 18)) (f / (2:Int) ^ ((3:Int)).toNat))) ?_
     exact f1
    ·intro _ r bC _
     rintro _
     iterate 12 rintro _ rfl
     intro _ _ _ _ _
     refine sw<|ar ((p+q)+(nw (nw (rot f 7) (rot f 18)) (f / (2:Int) ^ ((3:Int)).toNat))) wN ?_
     exact f1
    ·intro _ r bD _
     iterate 18 intro _
     refine sw<|mw (vi (nw (nw (rot g 17) (rot g 19)) (g / (2:Int) ^ ((10:Int)).toNat))) ?_
     exact f1
    ·intro _ r bE _
     rintro _
     iterate 14 rintro _ rfl
     intro _ _ _
     refine sw<|ar (((p+q)+(nw (nw (rot f 7) (rot f 18)) (f / (2:Int) ^ ((3:Int)).toNat)))+(nw (nw (rot g 17) (rot g 19)) (g / (2:Int) ^ ((10:Int)).toNat))) wN ?_
     exact f1
    ·intro _ r bF _
     rintro _
     iterate 15 rintro _ rfl
     intro _ _
     refine sw<|qc (((p+q)+(nw (nw (rot f 7) (rot f 18)) (f / (2:Int) ^ ((3:Int)).toNat)))+(nw (nw (rot g 17) (rot g 19)) (g / (2:Int) ^ ((10:Int)).toNat))) 4294967295 4294967296 32 wN rfl rfl (by decide) (by decide) (by decide) (by kernel_rfl) ?_
     exact f1
    ·intro _ r aQ _
     rintro _
     iterate 16 rintro _ rfl
     intro _
     refine sw<|ltI ([((((p+q)+(nw (nw (rot f 7) (rot f 18)) (f / (2:Int) ^ ((3:Int)).toNat)))+(nw (nw (rot g 17) (rot g 19)) (g / (2:Int) ^ ((10:Int)).toNat))) % 4294967296)]:List Int) wN nf ?_
     intro bG bH aR aS aT
     exact nK aS ⟨_,_,rfl,(mO aT aQ.size),(by simp),⟨trivial,trivial⟩⟩
   ·intro _ r P
    iterate 17 rintro _ rfl
    rintro _ ⟨bI,bJ,rfl,aU,bK,-⟩
    refine sw ?_
    have aV:=(mz (mz (mz (mz (mz t y) A) B) C) P)
    refine apI (schedN d m) ([((((p+q)+(nw (nw (rot f 7) (rot f 18)) (f / (2:Int) ^ ((3:Int)).toNat)))+(nw (nw (rot g 17) (rot g 19)) (g / (2:Int) ^ ((10:Int)).toNat))) % 4294967296)]:List Int) wN nf aV (Rd.of_own aU) (z8 S W av y A B C P) ?_
    intro Q R aR ay aW bL aX
    have aY:=(aD.extk P).ext ay (fun k hk=>nT (Nat.le_refl o.heap.size) (nb t k hk).1)
    refine aw (vs Q ((schedN d m)++([((((p+q)+(nw (nw (rot f 7) (rot f 18)) (f / (2:Int) ^ ((3:Int)).toNat)))+(nw (nw (rot g 17) (rot g 19)) (g / (2:Int) ^ ((10:Int)).toNat))) % 4294967296)]:List Int)).length R) ?_
    refine mW<|mQ<|mP<|mV ?_
    refine mw (vi (16+((m:Nat):Int))) ?_
    refine ar ((16+((m:Nat):Int))+1) wN ?_
    refine aw (vi ((16+((m:Nat):Int))+1)) ?_
    refine mW ?_
    have az:(((schedN d m)++([((((p+q)+(nw (nw (rot f 7) (rot f 18)) (f / (2:Int) ^ ((3:Int)).toNat)))+(nw (nw (rot g 17) (rot g 19)) (g / (2:Int) ^ ((10:Int)).toNat))) % 4294967296)]:List Int)):List Int)=schedN d (m+1):=by subst Y Z aa ab;exact xw
    refine nX (w0:=X) [(2,(vs none 0 0)),(3,(.slice Q (schedN d (m+1)).length R)),(8,(vi (16+(((m+1):Nat):Int))))] ?_ ?_ ?_
    · exact ⟨rfl,(cA (fun l:List Int=>Value.slice Q l.length R) az),(cA (Value.int .i64) (show (((16+((m:Nat):Int))+1):Int)=(16+(((m+1):Nat):Int)) by omega)),trivial⟩
    · exact fun u=>⟨(m+1),u,Q,R,rfl,aY,((((((((Ch.refl (fun k=>o.heap.size≤k) G).ext av (fun k hk=>hk)).extk y).extk A).extk B).extk C).extk P).ext ay (fun k hk=>nT (Nat.le_refl o.heap.size) (nb t k hk).1)),(by omega),(az ▸ ⟨aW,aX⟩)⟩
    · show (64 - (16+(((m+1):Nat):Int))).toNat < (64 - (16+((m:Nat):Int))).toNat;omega
end Go.Proofs.YtacoceibbheccaaGreat.K
