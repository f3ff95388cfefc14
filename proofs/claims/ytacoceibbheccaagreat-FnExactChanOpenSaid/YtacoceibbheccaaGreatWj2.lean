import Derived.Test.YtacoceibbheccaaGreatCore
import Derived.Test.YtacoceibbheccaaGreatProg
import Derived.Test.YtacoceibbheccaaGreatHeld
import Derived.Test.YtacoceibbheccaaGreatFun
import Derived.Test.YtacoceibbheccaaGreatFunZ
import Derived.Test.YtacoceibbheccaaGreatSqz
import Derived.Test.YtacoceibbheccaaGreatHash
import Derived.Test.YtacoceibbheccaaGreatCur
import Derived.Test.YtacoceibbheccaaGreatDrawW
import Derived.Test.YtacoceibbheccaaGreatAead
import Derived.Test.YtacoceibbheccaaGreatWj1
namespace Go.Proofs.YtacoceibbheccaaGreat.K
open Go.RowKit
set_option linter.unusedVariables false
set_option linter.unusedSimpArgs false
set_option maxRecDepth 100000
set_option maxHeartbeats 4000000
theorem CZ:∀ w,(sizeOf 3).run Tryz.prog w=.ok 1 w:=fun w=>by kernel_rfl
theorem GY {w:World} {x:List Int} {a:Option Addr} {b:Nat} (d:Rd w 1 (.slice a x.length b) x.length (x.map iV)) (e:x.length≤1073741824):Mw w (vs a x.length b) x:=⟨_,_,rfl,d,e⟩
theorem MN (G:World) (a0:Value) (j:List Int) (aN:Mw G a0 j) (a1:Value) (p:List UInt8) (aO:EP G a1 p) :Fn Tryz.prog 166 #[a0,a1] G (fun v L=>Keep G L∧Qm L G.heap.size v (Dz j p)):=by
 obtain ⟨B,C,rfl,F,ap⟩:=aN
 obtain ⟨ah,ai,rfl,a2,aP⟩:=aO
 refine Cl (n:=156) [(vs B j.length C),(vs ah p.length ai)] Tryz.func166 rfl rfl ?_
 refine sr ?_
 refine aw (vs none 0 0) ?_
 refine nx ?_
 refine CR wN rfl rfl Cd (fun w=>by kernel_rfl) ?_
 intro cj ck a3 aQ
 have a4:=(Ch.base G).extk a3
 refine mw (vs B j.length C) ?_
 refine QV j wN Cd aQ (F.from0 a4) a3.size ?_
 intro H I a5 aR X cm
 have aq:=a4.extk aR
 refine aw (vs H j.length I) ?_
 refine n4 ?_
 refine jT1 [(0,(vs B j.length C)),(1,(vs ah p.length ai)),(4,(vs none 0 0)),(5,(vs H j.length I))] (Dz j p=j) ?_ fun a6=>?_
 ·intro aS a7 a8 cn
  have aT:=aq.extk a8
  refine sr ?_
  refine mw (vs H j.length I) ?_
  refine aw (vs H j.length I) ?_
  refine n1 ?_
  have aU:=(gc X a8)
  refine rt (vs H j.length I) ?_
  refine ⟨aT.keep0,?_⟩
  rw [aS]
  exact ⟨_,_,rfl,aU,ap,⟨trivial,trivial⟩⟩
 refine mw (vs B j.length C) ?_
 refine cl wN (NQ a5 _ j (GY (F.from0 aq) ap)) ?_
 rintro _ a7 ⟨Y,rfl⟩
 have a9:=aq.extk Y
 refine pu (vb (!(ws8 j))) wN ?_
 refine mw (vb (!(ws8 j))) ?_
 rcases bf (ws8 j) with N|N
 ·iterate 3 refine sk (cA not N) ?_
  refine pk (vb true) wN (cA not N) ?_
  refine n2 ?_
  refine ct (Eq.refl true) ?_
  have aV:Dz j p=j:=by first|exact FQ (by first|assumption|exact ‹ws8 j=false›)|exact FP (by omega)|exact FO (by first|assumption|exact ‹ws8 j=true›) (by omega) (by omega)
  exact wj (a6 aV _ Y)
 have co:=RY N
 refine mv (vs ah p.length ai) (wS (cA not N)) ?_
 refine ln (wS (cA not N)) tD (a2.from0 a9) ?_
 refine pu (vb (!(decide ((p.length:Int)=64)))) (wS (cA not N)) ?_
 refine pf (vb (!(decide ((p.length:Int)=64)))) wN (cA not N) ?_
 refine n2 ?_
 rcases bf (decide ((p.length:Int)=64)) with aa|aa
 ·have cp:=dF aa
  refine ct (cA not aa) ?_
  have aW:Dz j p=j:=by first|exact FQ (by first|assumption|exact ‹ws8 j=false›)|exact FP (by omega)|exact FO (by first|assumption|exact ‹ws8 j=true›) (by omega) (by omega)
  exact wj (a6 aW _ Y)
 have cq:=dT aa
 refine cf (cA not aa) ?_
 refine y1 ?_
 refine cl wN (Sl a7 ) ?_
 rintro _ au ⟨aj,⟨R,S,rfl,ak,_⟩⟩
 have aA:=a9.extk aj
 refine aw (vs R (kw).length S) ?_
 refine nx ?_
 refine mw (vs ah p.length ai) ?_
 refine cl wN (MM au _ p (CC (a2.from0 aA) aP)) ?_
 rintro _ aB ⟨O,⟨T,V,rfl,am,_⟩⟩
 have J:=aA.extk O
 have cr:=Jk p
 refine aw (vs T (schedP p).length V) ?_
 refine BU<|re<|Cc ?_
 refine FB ([(36,[],[],(fun _ v _=>v=(vs B j.length C))),(37,[],[0],(fun _ v _=>v=(ve (vs B j.length C) ((0:Int).toNat*1)))),(38,[],[0,1],(fun _ v _=>v=(vi (j.getD 0 0)))),(39,[],[],(fun _ v _=>v=(vs B j.length C))),(40,[],[3],(fun _ v _=>v=(ve (vs B j.length C) ((1:Int).toNat*1)))),(41,[],[3,4],(fun _ v _=>v=(vi (j.getD 1 0)))),(42,[],[],(fun _ v _=>v=(vs B j.length C))),(43,[],[6],(fun _ v _=>v=(ve (vs B j.length C) ((2:Int).toNat*1)))),(44,[],[6,7],(fun _ v _=>v=(vi (j.getD 2 0)))),(45,[],[],(fun _ v _=>v=(vs B j.length C))),(46,[],[9],(fun _ v _=>v=(ve (vs B j.length C) ((3:Int).toNat*1)))),(47,[],[9,10],(fun _ v _=>v=(vi (j.getD 3 0)))),(48,[],[],(fun _ v _=>v=(vs B j.length C))),(49,[],[12],(fun _ v _=>v=(ve (vs B j.length C) ((4:Int).toNat*1)))),(50,[],[12,13],(fun _ v _=>v=(vi (j.getD 4 0)))),(51,[],[],(fun _ v _=>v=(vs B j.length C))),(52,[],[15],(fun _ v _=>v=(ve (vs B j.length C) ((5:Int).toNat*1)))),(53,[],[15,16],(fun _ v _=>v=(vi (j.getD 5 0)))),(54,[],[],(fun _ v _=>v=(vs B j.length C))),(55,[],[18],(fun _ v _=>v=(ve (vs B j.length C) ((6:Int).toNat*1)))),(56,[],[18,19],(fun _ v _=>v=(vi (j.getD 6 0)))),(57,[],[],(fun _ v _=>v=(vs B j.length C))),(58,[],[21],(fun _ v _=>v=(ve (vs B j.length C) ((7:Int).toNat*1)))),(59,[],[21,22],(fun _ v _=>v=(vi (j.getD 7 0)))),(8,[],[0,1,2],(fun _ v _=>v=(vi (j.getD 0 0)))),(9,[],[0,1,2,3,4,5,24],(fun _ v _=>v=(vi (j.getD 1 0)))),(10,[],[0,1,2,3,4,5,6,7,8,24,25],(fun _ v _=>v=(vi (j.getD 2 0)))),(11,[],[0,1,2,3,4,5,6,7,8,9,10,11,24,25,26],(fun _ v _=>v=(vi (j.getD 3 0)))),(12,[],[0,1,2,3,4,5,6,7,8,9,10,11,12,13,14,24,25,26,27],(fun _ v _=>v=(vi (j.getD 4 0)))),(13,[],[0,1,2,3,4,5,6,7,8,9,10,11,12,13,14,15,16,17,24,25,26,27,28],(fun _ v _=>v=(vi (j.getD 5 0)))),(14,[],[0,1,2,3,4,5,6,7,8,9,10,11,12,13,14,15,16,17,18,19,20,24,25,26,27,28,29],(fun _ v _=>v=(vi (j.getD 6 0))))]:GV) DN rfl (by kernel_rfl) (by kernel_rfl) ?_ ?_ ?_
 ·exact ⟨hV,hE,⟨hV,hE,⟨hV,hE,⟨hV,hE,⟨hV,hE,⟨hV,hE,⟨hV,hE,⟨hV,hE,⟨hV,hE,⟨hV,hE,⟨hV,hE,⟨hV,hE,⟨hV,hE,⟨hV,hE,⟨hV,hE,⟨hV,hE,⟨hV,hE,⟨hV,hE,⟨hV,hE,⟨hV,hE,⟨hV,hE,⟨hV,hE,⟨hV,hE,⟨hV,hE,⟨hV,hE,⟨hV,hE,⟨hV,hE,⟨hV,hE,⟨hV,hE,⟨hV,hE,⟨hV,hE,trivial⟩⟩⟩⟩⟩⟩⟩⟩⟩⟩⟩⟩⟩⟩⟩⟩⟩⟩⟩⟩⟩⟩⟩⟩⟩⟩⟩⟩⟩⟩⟩
 ·refine ⟨?_,⟨?_,⟨?_,⟨?_,⟨?_,⟨?_,⟨?_,⟨?_,⟨?_,⟨?_,⟨?_,⟨?_,⟨?_,⟨?_,⟨?_,⟨?_,⟨?_,⟨?_,⟨?_,⟨?_,⟨?_,⟨?_,⟨?_,⟨?_,⟨?_,⟨?_,⟨?_,⟨?_,⟨?_,⟨?_,⟨?_,trivial⟩⟩⟩⟩⟩⟩⟩⟩⟩⟩⟩⟩⟩⟩⟩⟩⟩⟩⟩⟩⟩⟩⟩⟩⟩⟩⟩⟩⟩⟩⟩
  ·intro A cs
   rintro _ _ _ _ _ _ _ _ _ _ _ _ _ _ _ _ _ _ _ _ _ _ _ _ _ _ _ _ _ _ _
   refine sw ?_
   refine mw (vs B j.length C) ?_
   exact f2
  ·intro A aX
   have aY:=J.extk aX
   rintro _ rfl _ _ _ _ _ _ _ _ _ _ _ _ _ _ _ _ _ _ _ _ _ _ _ _ _ _ _ _ _ _
   refine sw ?_
   refine ix wN 0 Cd (F.from0 aY) ?_
   exact f2
  ·intro A aZ
   have ba:=J.extk aZ
   rintro _ rfl _ rfl _ _ _ _ _ _ _ _ _ _ _ _ _ _ _ _ _ _ _ _ _ _ _ _ _ _ _ _ _
   refine sw ?_
   refine ei (x:=j) 0 wN tE (F.from0 ba) ?_
   exact f2
  ·intro A cu
   rintro _ _ _ _ _ _ _ _ _ _ _ _ _ _ _ _ _ _ _ _ _ _ _ _ _ _ _ _ _ _ _
   refine sw ?_
   refine mw (vs B j.length C) ?_
   exact f2
  ·intro A bb
   have bc:=J.extk bb
   rintro _ _ _ _ rfl _ _ _ _ _ _ _ _ _ _ _ _ _ _ _ _ _ _ _ _ _ _ _ _ _ _ _
   refine sw ?_
   refine ix wN 1 Cd (F.from0 bc) ?_
   exact f2
  ·intro A bd
   have be:=J.extk bd
   rintro _ _ _ _ rfl _ rfl _ _ _ _ _ _ _ _ _ _ _ _ _ _ _ _ _ _ _ _ _ _ _ _ _ _
   refine sw ?_
   refine ei (x:=j) 1 wN tE (F.from0 be) ?_
   exact f2
  ·intro A cv
   rintro _ _ _ _ _ _ _ _ _ _ _ _ _ _ _ _ _ _ _ _ _ _ _ _ _ _ _ _ _ _ _
   refine sw ?_
   refine mw (vs B j.length C) ?_
   exact f2
  ·intro A bg
   have bh:=J.extk bg
   rintro _ _ _ _ _ _ _ rfl _ _ _ _ _ _ _ _ _ _ _ _ _ _ _ _ _ _ _ _ _ _ _ _
   refine sw ?_
   refine ix wN 2 Cd (F.from0 bh) ?_
   exact f2
  ·intro A bi
   have bj:=J.extk bi
   rintro _ _ _ _ _ _ _ rfl _ rfl _ _ _ _ _ _ _ _ _ _ _ _ _ _ _ _ _ _ _ _ _ _ _
   refine sw ?_
   refine ei (x:=j) 2 wN tE (F.from0 bj) ?_
   exact f2
  ·intro A cw
   rintro _ _ _ _ _ _ _ _ _ _ _ _ _ _ _ _ _ _ _ _ _ _ _ _ _ _ _ _ _ _ _
   refine sw ?_
   refine mw (vs B j.length C) ?_
   exact f2
  ·intro A bk
   have bl:=J.extk bk
   rintro _ _ _ _ _ _ _ _ _ _ rfl _ _ _ _ _ _ _ _ _ _ _ _ _ _ _ _ _ _ _ _ _
   refine sw ?_
   refine ix wN 3 Cd (F.from0 bl) ?_
   exact f2
  ·intro A bm
   have bn:=J.extk bm
   rintro _ _ _ _ _ _ _ _ _ _ rfl _ rfl _ _ _ _ _ _ _ _ _ _ _ _ _ _ _ _ _ _ _ _
   refine sw ?_
   refine ei (x:=j) 3 wN tE (F.from0 bn) ?_
   exact f2
  ·intro A cx
   rintro _ _ _ _ _ _ _ _ _ _ _ _ _ _ _ _ _ _ _ _ _ _ _ _ _ _ _ _ _ _ _
   refine sw ?_
   refine mw (vs B j.length C) ?_
   exact f2
  ·intro A bo
   have bp:=J.extk bo
   rintro _ _ _ _ _ _ _ _ _ _ _ _ _ rfl _ _ _ _ _ _ _ _ _ _ _ _ _ _ _ _ _ _
   refine sw ?_
   refine ix wN 4 Cd (F.from0 bp) ?_
   exact f2
  ·intro A bq
   have br:=J.extk bq
   rintro _ _ _ _ _ _ _ _ _ _ _ _ _ rfl _ rfl _ _ _ _ _ _ _ _ _ _ _ _ _ _ _ _ _
   refine sw ?_
   refine ei (x:=j) 4 wN tE (F.from0 br) ?_
   exact f2
  ·intro A cy
   rintro _ _ _ _ _ _ _ _ _ _ _ _ _ _ _ _ _ _ _ _ _ _ _ _ _ _ _ _ _ _ _
   refine sw ?_
   refine mw (vs B j.length C) ?_
   exact f2
  ·intro A bu
   have bv:=J.extk bu
   rintro _ _ _ _ _ _ _ _ _ _ _ _ _ _ _ _ rfl _ _ _ _ _ _ _ _ _ _ _ _ _ _ _
   refine sw ?_
   refine ix wN 5 Cd (F.from0 bv) ?_
   exact f2
  ·intro A bw
   have bz:=J.extk bw
   rintro _ _ _ _ _ _ _ _ _ _ _ _ _ _ _ _ rfl _ rfl _ _ _ _ _ _ _ _ _ _ _ _ _ _
   refine sw ?_
   refine ei (x:=j) 5 wN tE (F.from0 bz) ?_
   exact f2
  ·intro A cz
   rintro _ _ _ _ _ _ _ _ _ _ _ _ _ _ _ _ _ _ _ _ _ _ _ _ _ _ _ _ _ _ _
   refine sw ?_
   refine mw (vs B j.length C) ?_
   exact f2
  ·intro A b0
   have b1:=J.extk b0
   rintro _ _ _ _ _ _ _ _ _ _ _ _ _ _ _ _ _ _ _ rfl _ _ _ _ _ _ _ _ _ _ _ _
   refine sw ?_
   refine ix wN 6 Cd (F.from0 b1) ?_
   exact f2
  ·intro A b2
   have b3:=J.extk b2
   rintro _ _ _ _ _ _ _ _ _ _ _ _ _ _ _ _ _ _ _ rfl _ rfl _ _ _ _ _ _ _ _ _ _ _
   refine sw ?_
   refine ei (x:=j) 6 wN tE (F.from0 b3) ?_
   exact f2
  ·intro A c0
   rintro _ _ _ _ _ _ _ _ _ _ _ _ _ _ _ _ _ _ _ _ _ _ _ _ _ _ _ _ _ _ _
   refine sw ?_
   refine mw (vs B j.length C) ?_
   exact f2
  ·intro A b4
   have b5:=J.extk b4
   rintro _ _ _ _ _ _ _ _ _ _ _ _ _ _ _ _ _ _ _ _ _ _ rfl _ _ _ _ _ _ _ _ _
   refine sw ?_
   refine ix wN 7 Cd (F.from0 b5) ?_
   exact f2
  ·intro A b6
   have b7:=J.extk b6
   rintro _ _ _ _ _ _ _ _ _ _ _ _ _ _ _ _ _ _ _ _ _ _ rfl _ rfl _ _ _ _ _ _ _ _
   refine sw ?_
   refine ei (x:=j) 7 wN tE (F.from0 b7) ?_
   exact f2
  ·intro A c1
   rintro _ rfl _ rfl _ rfl _ _ _ _ _ _ _ _ _ _ _ _ _ _ _ _ _ _ _ _ _ _ _ _ _ _ _ _
   refine sw ?_
   refine aw (vi (j.getD 0 0)) ?_
   exact f2
  ·intro A c2
   rintro _ rfl _ rfl _ rfl _ rfl _ rfl _ rfl _ _ _ _ _ _ _ _ _ _ _ _ _ _ _ _ _ _ _ rfl _ _ _ _ _ _
   refine sw ?_
   refine aw (vi (j.getD 1 0)) ?_
   exact f2
  ·intro A c3
   rintro _ rfl _ rfl _ rfl _ rfl _ rfl _ rfl _ rfl _ rfl _ rfl _ _ _ _ _ _ _ _ _ _ _ _ _ _ _ _ rfl _ rfl _ _ _ _ _
   refine sw ?_
   refine aw (vi (j.getD 2 0)) ?_
   exact f2
  ·intro A c4
   rintro _ rfl _ rfl _ rfl _ rfl _ rfl _ rfl _ rfl _ rfl _ rfl _ rfl _ rfl _ rfl _ _ _ _ _ _ _ _ _ _ _ _ _ rfl _ rfl _ rfl _ _ _ _
   refine sw ?_
   refine aw (vi (j.getD 3 0)) ?_
   exact f2
  ·intro A c5
   rintro _ rfl _ rfl _ rfl _ rfl _ rfl _ rfl _ rfl _ rfl _ rfl _ rfl _ rfl _ rfl _ rfl _ rfl _ rfl _ _ _ _ _ _ _ _ _ _ rfl _ rfl _ rfl _ rfl _ _ _
   refine sw ?_
   refine aw (vi (j.getD 4 0)) ?_
   exact f2
  ·intro A c6
   rintro _ rfl _ rfl _ rfl _ rfl _ rfl _ rfl _ rfl _ rfl _ rfl _ rfl _ rfl _ rfl _ rfl _ rfl _ rfl _ rfl _ rfl _ rfl _ _ _ _ _ _ _ rfl _ rfl _ rfl _ rfl _ rfl _ _
   refine sw ?_
   refine aw (vi (j.getD 5 0)) ?_
   exact f2
  ·intro A c7
   rintro _ rfl _ rfl _ rfl _ rfl _ rfl _ rfl _ rfl _ rfl _ rfl _ rfl _ rfl _ rfl _ rfl _ rfl _ rfl _ rfl _ rfl _ rfl _ rfl _ rfl _ rfl _ _ _ _ rfl _ rfl _ rfl _ rfl _ rfl _ rfl _
   refine sw ?_
   refine aw (vi (j.getD 6 0)) ?_
   exact f2
 ·intro A M
  have b8:=J.extk M
  rintro _ rfl _ rfl _ rfl _ rfl _ rfl _ rfl _ rfl _ rfl _ rfl _ rfl _ rfl _ rfl _ rfl _ rfl _ rfl _ rfl _ rfl _ rfl _ rfl _ rfl _ rfl _ rfl _ rfl _ rfl _ rfl _ rfl _ rfl _ rfl _ rfl _ rfl _ rfl
  refine sw ?_
  refine aw (vi (j.getD 7 0)) ?_
  refine n4 ?_
  refine aw (vi 0) ?_
  refine BU<|re<|Ca ?_
  refine CJ [(0,(vs B j.length C)),(4,(vs none 0 0)),(5,(vs H j.length I)),(6,(vs R (kw).length S)),(7,(vs T (schedP p).length V)),(8,(vi ((Db (schedP p) (Dt j) 0).a))),(9,(vi ((Db (schedP p) (Dt j) 0).b))),(10,(vi ((Db (schedP p) (Dt j) 0).c))),(11,(vi ((Db (schedP p) (Dt j) 0).d))),(12,(vi ((Db (schedP p) (Dt j) 0).e))),(13,(vi ((Db (schedP p) (Dt j) 0).f))),(14,(vi ((Db (schedP p) (Dt j) 0).g))),(15,(vi ((Db (schedP p) (Dt j) 0).z))),(16,(vi ((0:Nat):Int)))] ⟨rfl,rfl,rfl,rfl,rfl,(cA (Value.int .i64) (show ((j.getD 0 0):Int)=(Db (schedP p) (Dt j) 0).a by rfl)),(cA (Value.int .i64) (show ((j.getD 1 0):Int)=(Db (schedP p) (Dt j) 0).b by rfl)),(cA (Value.int .i64) (show ((j.getD 2 0):Int)=(Db (schedP p) (Dt j) 0).c by rfl)),(cA (Value.int .i64) (show ((j.getD 3 0):Int)=(Db (schedP p) (Dt j) 0).d by rfl)),(cA (Value.int .i64) (show ((j.getD 4 0):Int)=(Db (schedP p) (Dt j) 0).e by rfl)),(cA (Value.int .i64) (show ((j.getD 5 0):Int)=(Db (schedP p) (Dt j) 0).f by rfl)),(cA (Value.int .i64) (show ((j.getD 6 0):Int)=(Db (schedP p) (Dt j) 0).g by rfl)),(cA (Value.int .i64) (show ((j.getD 7 0):Int)=(Db (schedP p) (Dt j) 0).z by rfl)),(cA (Value.int .i64) (show (0:Int)=((0:Nat):Int) by omega)),trivial⟩ (fun e' L=>∃ (k:Nat) (o:Int) (s:Int) (t:Int) (D:Int) (i:Int) (q:Int) (r:Int) (y:Int) (aC:Env),e'=pt aC [(0,(vs B j.length C)),(4,(vs none 0 0)),(5,(vs H j.length I)),(6,(vs R (kw).length S)),(7,(vs T (schedP p).length V)),(8,(vi o)),(9,(vi s)),(10,(vi t)),(11,(vi D)),(12,(vi i)),(13,(vi q)),(14,(vi r)),(15,(vi y)),(16,(vi ((k:Nat):Int)))]∧Ch (fun k=>G.heap.size≤k) G L∧Ch (fun k=>A.heap.size≤k) A L∧k≤64∧o=(Db (schedP p) (Dt j) k).a∧s=(Db (schedP p) (Dt j) k).b∧t=(Db (schedP p) (Dt j) k).c∧D=(Db (schedP p) (Dt j) k).d∧i=(Db (schedP p) (Dt j) k).e∧q=(Db (schedP p) (Dt j) k).f∧r=(Db (schedP p) (Dt j) k).g∧y=(Db (schedP p) (Dt j) k).z) (fun e' _=>(64 - (intOf (e' 16))).toNat) ?_ ?_
  ·exact fun u=>⟨0,(Db (schedP p) (Dt j) 0).a,(Db (schedP p) (Dt j) 0).b,(Db (schedP p) (Dt j) 0).c,(Db (schedP p) (Dt j) 0).d,(Db (schedP p) (Dt j) 0).e,(Db (schedP p) (Dt j) 0).f,(Db (schedP p) (Dt j) 0).g,(Db (schedP p) (Dt j) 0).z,u,rfl,b8,(Ch.refl (fun k=>A.heap.size≤k) A),(by omega),(by first|rfl|assumption),(by first|rfl|assumption),(by first|rfl|assumption),(by first|rfl|assumption),(by first|rfl|assumption),(by first|rfl|assumption),(by first|rfl|assumption),(by first|rfl|assumption)⟩
  ·rintro _ av ⟨k,o,s,t,D,i,q,r,y,aC,rfl,aD,W,c8,hi_a,hi_b,hi_c,hi_d,hi_e,hi_f,hi_g,hi_z⟩
   obtain ⟨zw,hzw⟩:∃ z,(schedP p).getD k 0=z:=⟨_,rfl⟩
   have hwd:0≤zw∧zw < 4294967296:=hzw ▸ Ha (LM p) k
   obtain ⟨zk,hzk⟩:∃ z,kw.getD k 0=z:=⟨_,rfl⟩
   have hkw:0≤zk∧zk < 4294967296:=hzk ▸ Ha Sk k
   have hkl:kw.length=64:=rfl
   have hok:=IN (w:=schedP p) (JN (FF (by first|assumption|exact ‹ws8 j=true›)).1) k
   unfold S8.ok at hok
   rw [← hi_a,← hi_b,← hi_c,← hi_d,← hi_e,← hi_f,← hi_g,← hi_z] at hok
   refine Cc<|sr ?_
   refine mw (vi ((k:Nat):Int)) ?_
   refine pu (vb (decide (((k:Nat):Int) < 64))) wN ?_
   refine n2 ?_
   rcases bf (decide (((k:Nat):Int) < 64)) with ab|ab
   ·have c9:=dF ab
    refine cf ab ?_
    refine CS<|wb ?_
    obtain rfl:k=64:=by omega
    refine wb<|Ce<|re<|sr ?_
    refine mw (vi o) ?_
    refine mw (vi s) ?_
    refine mw (vi t) ?_
    refine mw (vi D) ?_
    refine mw (vi i) ?_
    refine mw (vi q) ?_
    refine mw (vi r) ?_
    refine mw (vi y) ?_
    refine ltI ([o,s,t,D,i,q,r,y]:List Int) wN Cd ?_
    intro P Q E aE aF
    have b9:=aD.extk aE
    refine aw (vs P ([o,s,t,D,i,q,r,y]:List Int).length Q) ?_
    refine n4 ?_
    refine aw (vi 0) ?_
    refine BU<|re<|Ca ?_
    have bA:=(gc (tC (gc (gc (gc (gc X Y) aj) O) M) W (fun g hg hlt hk=>by have ac:=(Cm X g hg).2;have ad:a5.heap.size≤A.heap.size:=(z4 Y aj O M);have ae:A.heap.size≤g:=hk;omega)) aE)
    have bB:(j:List Int)=(Hl j (S8.list (Db (schedP p) (Dt j) 64))).take 0++j.drop 0:=by first|rfl|simp
    have bC:(([o,s,t,D,i,q,r,y]:List Int):List Int)=([o,s,t,D,i,q,r,y]:List Int):=by first|rfl|simp
    refine CJ [(0,(vs B j.length C)),(4,(vs none 0 0)),(5,(vs H j.length I)),(19,(vs P ([o,s,t,D,i,q,r,y]:List Int).length Q)),(20,(vi ((0:Nat):Int)))] ⟨rfl,rfl,rfl,rfl,(cA (Value.int .i64) (show (0:Int)=((0:Nat):Int) by omega)),trivial⟩ (fun e' L=>∃ (m:Nat) (aG:Env),e'=pt aG [(0,(vs B j.length C)),(4,(vs none 0 0)),(5,(vs H j.length I)),(19,(vs P ([o,s,t,D,i,q,r,y]:List Int).length Q)),(20,(vi ((m:Nat):Int)))]∧Ch (fun k=>G.heap.size≤k) G L∧Ch (fun k=>G.heap.size≤k) E L∧m≤8∧World.ownsRow L G.heap.size 3 1 (.slice H j.length I) j.length (((Hl j (S8.list (Db (schedP p) (Dt j) 64))).take m++j.drop m).map iV)∧World.ownsRow L av.heap.size 3 1 (.slice P ([o,s,t,D,i,q,r,y]:List Int).length Q) ([o,s,t,D,i,q,r,y]:List Int).length ((([o,s,t,D,i,q,r,y]:List Int)).map iV)) (fun e' _=>(8 - (intOf (e' 20))).toNat) ?_ ?_
    ·exact fun u=>⟨0,u,rfl,b9,(Ch.refl (fun k=>G.heap.size≤k) E),(by omega),(by rw [← bB];exact bA),(by rw [← bC];exact aF)⟩
    ·rintro _ Z ⟨m,aG,rfl,an,bD,cC,ax,ay⟩
     have hlL:([o,s,t,D,i,q,r,y]:List Int).length=8:=rfl
     have hll:(Hl j (S8.list (Db (schedP p) (Dt j) 64))).length=8:=Kl (by omega) rfl
     have cD:(j.length:Int)=8:=(FF (by first|assumption|exact ‹ws8 j=true›)).2
     have cE:=Ha (FF (by first|assumption|exact ‹ws8 j=true›)).1 m
     have hle:([o,s,t,D,i,q,r,y]:List Int)=(S8.list (Db (schedP p) (Dt j) 64)):=by rw [hi_a,hi_b,hi_c,hi_d,hi_e,hi_f,hi_g,hi_z];rfl
     have cF:0≤([o,s,t,D,i,q,r,y]:List Int).getD m 0∧([o,s,t,D,i,q,r,y]:List Int).getD m 0 < 4294967296:=hle ▸ Ha (Rl (IN (w:=schedP p) (JN (FF (by first|assumption|exact ‹ws8 j=true›)).1) 64)) m
     refine Cc<|sr ?_
     refine mw (vi ((m:Nat):Int)) ?_
     refine pu (vb (decide (((m:Nat):Int) < 8))) wN ?_
     refine n2 ?_
     rcases bf (decide (((m:Nat):Int) < 8)) with af|af
     ·have cG:=dF af
      refine cf af ?_
      refine CS<|wb<|wb<|Ce<|re<|sr ?_
      refine mw (vs H j.length I) ?_
      refine aw (vs H j.length I) ?_
      refine n3 ?_
      refine rt (vs H j.length I) ?_
      refine ⟨an.keep0,?_⟩
      have bE:Dz j p=((Hl j (S8.list (Db (schedP p) (Dt j) 64))).take m++j.drop m):=by first|exact FQ (by first|assumption|exact ‹ws8 j=false›)|exact FP (by omega)|exact FO (by first|assumption|exact ‹ws8 j=true›) (by omega) (by omega)
      rw [bE]
      have aH:j.length=(((Hl j (S8.list (Db (schedP p) (Dt j) 64))).take m++j.drop m)).length:=by simp only [List.length_append,List.length_take,List.length_drop];omega
      rw [aH] at ax ⊢
      exact ⟨_,_,rfl,ax,(by rw [← aH];exact ap),⟨trivial,trivial⟩⟩
     have cH:=dT af
     refine ct af ?_
     refine Ct<|re<|Cc<|Ca ?_
     refine FB ([(142,[],[],(fun _ v _=>v=(vs H j.length I))),(143,[],[],(fun _ v _=>v=(vi ((m:Nat):Int)))),(144,[],[],(fun _ v _=>v=(vs B j.length C))),(145,[],[],(fun _ v _=>v=(vi ((m:Nat):Int)))),(146,[],[2,3],(fun _ v _=>v=(ve (vs B j.length C) ((((m:Nat):Int)).toNat*1)))),(147,[],[2,3,4],(fun _ v _=>v=(vi (j.getD m 0)))),(148,[],[],(fun _ v _=>v=(vs P ([o,s,t,D,i,q,r,y]:List Int).length Q))),(149,[],[],(fun _ v _=>v=(vi ((m:Nat):Int)))),(150,[],[6,7],(fun _ v _=>v=(ve (vs P ([o,s,t,D,i,q,r,y]:List Int).length Q) ((((m:Nat):Int)).toNat*1)))),(151,[],[6,7,8],(fun _ v _=>v=(vi ((([o,s,t,D,i,q,r,y]:List Int)).getD m 0)))),(152,[],[2,3,4,5,6,7,8,9],(fun _ v _=>v=(vi ((j.getD m 0)+((([o,s,t,D,i,q,r,y]:List Int)).getD m 0))))),(153,[],[2,3,4,5,6,7,8,9,10],(fun _ v _=>v=(vi (((j.getD m 0)+((([o,s,t,D,i,q,r,y]:List Int)).getD m 0)) % 4294967296))))]:GV) DN rfl (by kernel_rfl) (by kernel_rfl) ?_ ?_ ?_
     ·exact ⟨hV,hE,⟨hV,hE,⟨hV,hE,⟨hV,hE,⟨hV,hE,⟨hV,hE,⟨hV,hE,⟨hV,hE,⟨hV,hE,⟨hV,hE,⟨hV,hE,⟨hV,hE,trivial⟩⟩⟩⟩⟩⟩⟩⟩⟩⟩⟩⟩
     ·refine ⟨?_,⟨?_,⟨?_,⟨?_,⟨?_,⟨?_,⟨?_,⟨?_,⟨?_,⟨?_,⟨?_,⟨?_,trivial⟩⟩⟩⟩⟩⟩⟩⟩⟩⟩⟩⟩
      ·intro K cI
       rintro _ _ _ _ _ _ _ _ _ _ _ _
       refine sw ?_
       refine mw (vs H j.length I) ?_
       exact f2
      ·intro K cJ
       rintro _ _ _ _ _ _ _ _ _ _ _ _
       refine sw ?_
       refine mw (vi ((m:Nat):Int)) ?_
       exact f2
      ·intro K cK
       rintro _ _ _ _ _ _ _ _ _ _ _ _
       refine sw ?_
       refine mw (vs B j.length C) ?_
       exact f2
      ·intro K cL
       rintro _ _ _ _ _ _ _ _ _ _ _ _
       refine sw ?_
       refine mw (vi ((m:Nat):Int)) ?_
       exact f2
      ·intro K bF
       have bG:=an.extk bF
       rintro _ _ _ rfl _ rfl _ _ _ _ _ _ _ _
       refine sw ?_
       refine ix wN ((m:Nat):Int) Cd (F.from0 bG) ?_
       exact f2
      ·intro K bH
       have bI:=an.extk bH
       rintro _ _ _ rfl _ rfl _ rfl _ _ _ _ _ _ _
       refine sw ?_
       refine ei (x:=j) m wN tE (F.from0 bI) ?_
       exact f2
      ·intro K cM
       rintro _ _ _ _ _ _ _ _ _ _ _ _
       refine sw ?_
       refine mw (vs P ([o,s,t,D,i,q,r,y]:List Int).length Q) ?_
       exact f2
      ·intro K cN
       rintro _ _ _ _ _ _ _ _ _ _ _ _
       refine sw ?_
       refine mw (vi ((m:Nat):Int)) ?_
       exact f2
      ·intro K bJ
       rintro _ _ _ _ _ _ _ rfl _ rfl _ _ _ _
       refine sw ?_
       have bK:=(gc ay bJ)
       refine ix wN ((m:Nat):Int) Cd (Rd.of_own bK) ?_
       exact f2
      ·intro K bL
       rintro _ _ _ _ _ _ _ rfl _ rfl _ rfl _ _ _
       refine sw ?_
       have bM:=(gc ay bL)
       refine ei (x:=(([o,s,t,D,i,q,r,y]:List Int))) m wN tE (Rd.of_own bM) ?_
       exact f2
      ·intro K cO
       rintro _ _ _ rfl _ rfl _ rfl _ rfl _ rfl _ rfl _ rfl _ rfl _ _
       refine sw ?_
       refine ar ((j.getD m 0)+((([o,s,t,D,i,q,r,y]:List Int)).getD m 0)) wN ?_
       exact f2
      ·intro K cP
       rintro _ _ _ rfl _ rfl _ rfl _ rfl _ rfl _ rfl _ rfl _ rfl _ rfl _
       refine sw ?_
       refine FE ((j.getD m 0)+((([o,s,t,D,i,q,r,y]:List Int)).getD m 0)) 4294967295 4294967296 32 wN rfl rfl (by decide) (by decide) (by decide) (by kernel_rfl) ?_
       exact f2
     ·intro K ao
      rintro _ rfl _ rfl _ rfl _ rfl _ rfl _ rfl _ rfl _ rfl _ rfl _ rfl _ rfl _ rfl
      refine sw ?_
      have aI:=(gc ax ao)
      refine ix wN ((m:Nat):Int) Cd (Rd.of_own aI) ?_
      refine EC ((Hl j (S8.list (Db (schedP p) (Dt j) 64))).take m++j.drop m) (m) ((((j.getD m 0)+((([o,s,t,D,i,q,r,y]:List Int)).getD m 0)) % 4294967296)) wN rfl rfl rfl (by simp) rfl CZ aI (by first|omega|(simp only [List.length_append,List.length_take,List.length_drop];omega)) ?_
      intro bN az bO
      have bP:=(an.extk ao).ext az (fun k hk=>nT (Nat.le_refl G.heap.size) (Cm X k hk).1)
      refine BU<|BS<|re<|BZ ?_
      refine mw (vi ((m:Nat):Int)) ?_
      refine ar (((m:Nat):Int)+1) wN ?_
      refine aw (vi (((m:Nat):Int)+1)) ?_
      refine BU ?_
      have bQ:((((Hl j (S8.list (Db (schedP p) (Dt j) 64))).take m++j.drop m).set m (((j.getD m 0)+((([o,s,t,D,i,q,r,y]:List Int)).getD m 0)) % 4294967296)):List Int)=(Hl j (S8.list (Db (schedP p) (Dt j) 64))).take (m+1)++j.drop (m+1):=by first|rfl|(rw [hle];exact HB (l:=(S8.list (Db (schedP p) (Dt j) 64))) (by omega) (by show j.length=8;omega))
      have bR:=(tC (gc ay ao) az (fun g hg hlt hk=>by have ac:=(Cm aF g hg).1;have ad:=(Cm X g hk).2;have ae:=(z5 Y aj O M W);omega))
      have bS:((([o,s,t,D,i,q,r,y]:List Int)):List Int)=([o,s,t,D,i,q,r,y]:List Int):=by first|rfl|(rw [hle];exact HB (l:=(S8.list (Db (schedP p) (Dt j) 64))) (by omega) (by show j.length=8;omega))
      refine CI (w0:=Z) [(0,(vs B j.length C)),(4,(vs none 0 0)),(5,(vs H j.length I)),(19,(vs P ([o,s,t,D,i,q,r,y]:List Int).length Q)),(20,(vi (((m+1):Nat):Int)))] ?_ ?_ ?_
      · exact ⟨rfl,rfl,rfl,rfl,(cA (Value.int .i64) (show ((((m:Nat):Int)+1):Int)=(((m+1):Nat):Int) by omega)),trivial⟩
      · exact fun u=>⟨(m+1),u,rfl,bP,((((Ch.refl (fun k=>G.heap.size≤k) E).ext bD (fun k hk=>hk)).extk ao).ext az (fun k hk=>nT (Nat.le_refl G.heap.size) (Cm X k hk).1)),(by omega),(by rw [← bQ];exact bO),(by rw [← bS];exact bR)⟩
      · show (8 - (((m+1):Nat):Int)).toNat < (8 - ((m:Nat):Int)).toNat;omega
   have cQ:=dT ab
   refine ct ab ?_
   refine Ct<|re<|Cc<|Ca<|Cc ?_
   refine CU ([(64,[],[],(fun _ v _=>v=(vi y))),(65,[],[],(fun _ v _=>v=(vi i))),(66,[],[1],(fun _ v w=>v=.int .i64 (rot i 6))),(67,[],[],(fun _ v _=>v=(vi i))),(68,[],[1,2,3],(fun _ v w=>v=.int .i64 (rot i 11))),(69,[],[1,2,3,4],(fun _ v _=>v=(vi (Ck (rot i 6) (rot i 11))))),(70,[],[],(fun _ v _=>v=(vi i))),(71,[],[1,2,3,4,6],(fun _ v w=>v=.int .i64 (rot i 25))),(72,[],[1,2,3,4,5,6,7],(fun _ v _=>v=(vi (Ck (Ck (rot i 6) (rot i 11)) (rot i 25))))),(73,[],[0,1,2,3,4,5,6,7,8],(fun _ v _=>v=(vi (y+(Ck (Ck (rot i 6) (rot i 11)) (rot i 25)))))),(74,[],[],(fun _ v _=>v=(vi i))),(75,[],[],(fun _ v _=>v=(vi q))),(76,[],[10,11],(fun _ v _=>v=(vi (Dg i q)))),(77,[],[],(fun _ v _=>v=(vi i))),(78,[],[13],(fun _ v _=>v=(vi (Ck i 4294967295)))),(79,[],[],(fun _ v _=>v=(vi r))),(80,[],[13,14,15],(fun _ v _=>v=(vi (Dg (Ck i 4294967295) r)))),(81,[],[10,11,12,13,14,15,16],(fun _ v _=>v=(vi (Ck (Dg i q) (Dg (Ck i 4294967295) r))))),(82,[],[0,1,2,3,4,5,6,7,8,9,10,11,12,13,14,15,16,17],(fun _ v _=>v=(vi ((y+(Ck (Ck (rot i 6) (rot i 11)) (rot i 25)))+(Ck (Dg i q) (Dg (Ck i 4294967295) r)))))),(83,[],[],(fun _ v _=>v=(vs R (kw).length S))),(84,[],[],(fun _ v _=>v=(vi ((k:Nat):Int)))),(85,[],[19,20],(fun _ v _=>v=(ve (vs R (kw).length S) ((((k:Nat):Int)).toNat*1)))),(86,[],[19,20,21],(fun _ v _=>v=(vi zk))),(87,[],[0,1,2,3,4,5,6,7,8,9,10,11,12,13,14,15,16,17,18,19,20,21,22],(fun _ v _=>v=(vi (((y+(Ck (Ck (rot i 6) (rot i 11)) (rot i 25)))+(Ck (Dg i q) (Dg (Ck i 4294967295) r)))+zk)))),(88,[],[],(fun _ v _=>v=(vs T (schedP p).length V))),(89,[],[],(fun _ v _=>v=(vi ((k:Nat):Int)))),(90,[],[24,25],(fun _ v _=>v=(ve (vs T (schedP p).length V) ((((k:Nat):Int)).toNat*1)))),(91,[],[24,25,26],(fun _ v _=>v=(vi zw)))]:GV) (fun _ L=>Keep av L) [] DN rfl (by kernel_rfl) (by kernel_rfl) ?_ (fun _ _ h=>h) (fun _ _ _ _ h _ k=>h.trans k) trivial ?_ ?_ ?_
   ·exact ⟨hV,hE,⟨hV,hE,⟨hV,hE,⟨hV,hE,⟨hV,hE,⟨hV,hE,⟨hV,hE,⟨hV,hE,⟨hV,hE,⟨hV,hE,⟨hV,hE,⟨hV,hE,⟨hV,hE,⟨hV,hE,⟨hV,hE,⟨hV,hE,⟨hV,hE,⟨hV,hE,⟨hV,hE,⟨hV,hE,⟨hV,hE,⟨hV,hE,⟨hV,hE,⟨hV,hE,⟨hV,hE,⟨hV,hE,⟨hV,hE,⟨hV,hE,trivial⟩⟩⟩⟩⟩⟩⟩⟩⟩⟩⟩⟩⟩⟩⟩⟩⟩⟩⟩⟩⟩⟩⟩⟩⟩⟩⟩⟩
   ·exact trivial
   ·refine ⟨?_,⟨?_,⟨?_,⟨?_,⟨?_,⟨?_,⟨?_,⟨?_,⟨?_,⟨?_,⟨?_,⟨?_,⟨?_,⟨?_,⟨?_,⟨?_,⟨?_,⟨?_,⟨?_,⟨?_,⟨?_,⟨?_,⟨?_,⟨?_,⟨?_,⟨?_,⟨?_,⟨?_,trivial⟩⟩⟩⟩⟩⟩⟩⟩⟩⟩⟩⟩⟩⟩⟩⟩⟩⟩⟩⟩⟩⟩⟩⟩⟩⟩⟩⟩
    ·intro _ E cR _
     rintro _ _ _ _ _ _ _ _ _ _ _ _ _ _ _ _ _ _ _ _ _ _ _ _ _ _ _ _
     refine sw ?_
     refine mw (vi y) ?_
     exact f1
    ·intro _ E cS _
     rintro _ _ _ _ _ _ _ _ _ _ _ _ _ _ _ _ _ _ _ _ _ _ _ _ _ _ _ _
     refine sw ?_
     refine mw (vi i) ?_
     exact f1
    ·intro _ E cT _
     rintro _ _ rfl _ _ _ _ _ _ _ _ _ _ _ _ _ _ _ _ _ _ _ _ _ _ _ _ _ _
     refine sw ?_
     refine cl wN (IZ E i 6 (by omega) (by omega)) ?_
     rintro _ Z ⟨bT,rfl⟩
     have cU:=Dx i 6
     exact CN bT rfl
    ·intro _ E cV _
     rintro _ _ _ _ _ _ _ _ _ _ _ _ _ _ _ _ _ _ _ _ _ _ _ _ _ _ _ _
     refine sw ?_
     refine mw (vi i) ?_
     exact f1
    ·intro _ E cW _
     rintro _ _ rfl _ rfl
     have cX:=Dx i 6
     rintro _ rfl _ _ _ _ _ _ _ _ _ _ _ _ _ _ _ _ _ _ _ _ _ _ _ _
     refine sw ?_
     refine cl wN (IZ E i 11 (by omega) (by omega)) ?_
     rintro _ Z ⟨bU,rfl⟩
     have cY:=Dx i 11
     exact CN bU rfl
    ·intro _ E cZ _
     rintro _ _ rfl _ rfl
     have da:=Dx i 6
     rintro _ rfl _ rfl
     have db:=Dx i 11
     rintro _ _ _ _ _ _ _ _ _ _ _ _ _ _ _ _ _ _ _ _ _ _ _
     refine sw ?_
     refine Ew (rot i 6) (rot i 11) wN rfl rfl (by kernel_rfl) (by omega) (by omega) (by omega) (by omega) ?_
     have dc:=Dl (a:=(rot i 6)) (b:=(rot i 11)) (by omega) (by omega)
     exact f1
    ·intro _ E dd _
     rintro _ _ _ _ _ _ _ _ _ _ _ _ _ _ _ _ _ _ _ _ _ _ _ _ _ _ _ _
     refine sw ?_
     refine mw (vi i) ?_
     exact f1
    ·intro _ E de _
     rintro _ _ rfl _ rfl
     have df:=Dx i 6
     rintro _ rfl _ rfl
     have dg:=Dx i 11
     rintro _ _ rfl _ _ _ _ _ _ _ _ _ _ _ _ _ _ _ _ _ _ _ _ _
     refine sw ?_
     refine cl wN (IZ E i 25 (by omega) (by omega)) ?_
     rintro _ Z ⟨bW,rfl⟩
     have dh:=Dx i 25
     exact CN bW rfl
    ·intro _ E di _
     rintro _ _ rfl _ rfl
     have dj:=Dx i 6
     rintro _ rfl _ rfl
     have dk:=Dx i 11
     rintro _ rfl
     have dl:=Dl (a:=(rot i 6)) (b:=(rot i 11)) (by omega) (by omega)
     rintro _ rfl _ rfl
     have dm:=Dx i 25
     rintro _ _ _ _ _ _ _ _ _ _ _ _ _ _ _ _ _ _ _ _
     refine sw ?_
     refine Ew (Ck (rot i 6) (rot i 11)) (rot i 25) wN rfl rfl (by kernel_rfl) (by omega) (by omega) (by omega) (by omega) ?_
     have dn:=Dl (a:=(Ck (rot i 6) (rot i 11))) (b:=(rot i 25)) (by omega) (by omega)
     exact f1
    ·intro _ E dp _
     rintro _ rfl _ rfl _ rfl
     have dq:=Dx i 6
     rintro _ rfl _ rfl
     have dr:=Dx i 11
     rintro _ rfl
     have ds:=Dl (a:=(rot i 6)) (b:=(rot i 11)) (by omega) (by omega)
     rintro _ rfl _ rfl
     have dt:=Dx i 25
     rintro _ rfl
     have du:=Dl (a:=(Ck (rot i 6) (rot i 11))) (b:=(rot i 25)) (by omega) (by omega)
     rintro _ _ _ _ _ _ _ _ _ _ _ _ _ _ _ _ _ _ _
     refine sw ?_
     refine ar (y+(Ck (Ck (rot i 6) (rot i 11)) (rot i 25))) wN ?_
     exact f1
    ·intro _ E dv _
     rintro _ _ _ _ _ _ _ _ _ _ _ _ _ _ _ _ _ _ _ _ _ _ _ _ _ _ _ _
     refine sw ?_
     refine mw (vi i) ?_
     exact f1
    ·intro _ E dw _
     rintro _ _ _ _ _ _ _ _ _ _ _ _ _ _ _ _ _ _ _ _ _ _ _ _ _ _ _ _
     refine sw ?_
     refine mw (vi q) ?_
     exact f1
    ·intro _ E dx _
     rintro _ _ _ _ _ _ _ _ _ _ _ rfl _ rfl _ _ _ _ _ _ _ _ _ _ _ _ _ _ _ _
     refine sw ?_
     refine Gj i q wN rfl rfl (by kernel_rfl) (by omega) (by omega) (by omega) (by omega) ?_
     have dy:=Fi (a:=i) (b:=q) (by omega)
     exact f1
    ·intro _ E dz _
     rintro _ _ _ _ _ _ _ _ _ _ _ _ _ _ _ _ _ _ _ _ _ _ _ _ _ _ _ _
     refine sw ?_
     refine mw (vi i) ?_
     exact f1
    ·intro _ E d0 _
     rintro _ _ _ _ _ _ _ _ _ _ _ _ _ _ rfl _ _ _ _ _ _ _ _ _ _ _ _ _ _
     refine sw ?_
     refine Ew i 4294967295 wN rfl rfl (by kernel_rfl) (by omega) (by omega) (by omega) (by omega) ?_
     have d1:=Dl (a:=i) (b:=4294967295) (by omega) (by omega)
     exact f1
    ·intro _ E d2 _
     rintro _ _ _ _ _ _ _ _ _ _ _ _ _ _ _ _ _ _ _ _ _ _ _ _ _ _ _ _
     refine sw ?_
     refine mw (vi r) ?_
     exact f1
    ·intro _ E d3 _
     rintro _ _ _ _ _ _ _ _ _ _ _ _ _ _ rfl _ rfl
     have d4:=Dl (a:=i) (b:=4294967295) (by omega) (by omega)
     rintro _ rfl _ _ _ _ _ _ _ _ _ _ _ _
     refine sw ?_
     refine Gj (Ck i 4294967295) r wN rfl rfl (by kernel_rfl) (by omega) (by omega) (by omega) (by omega) ?_
     have d5:=Fi (a:=(Ck i 4294967295)) (b:=r) (by omega)
     exact f1
    ·intro _ E d6 _
     rintro _ _ _ _ _ _ _ _ _ _ _ rfl _ rfl _ rfl
     have d7:=Fi (a:=i) (b:=q) (by omega)
     rintro _ rfl _ rfl
     have d8:=Dl (a:=i) (b:=4294967295) (by omega) (by omega)
     rintro _ rfl _ rfl
     have d9:=Fi (a:=(Ck i 4294967295)) (b:=r) (by omega)
     rintro _ _ _ _ _ _ _ _ _ _ _
     refine sw ?_
     refine Ew (Dg i q) (Dg (Ck i 4294967295) r) wN rfl rfl (by kernel_rfl) (by omega) (by omega) (by omega) (by omega) ?_
     have dA:=Dl (a:=(Dg i q)) (b:=(Dg (Ck i 4294967295) r)) (by omega) (by omega)
     exact f1
    ·intro _ E dB _
     rintro _ rfl _ rfl _ rfl
     have dC:=Dx i 6
     rintro _ rfl _ rfl
     have dD:=Dx i 11
     rintro _ rfl
     have dE:=Dl (a:=(rot i 6)) (b:=(rot i 11)) (by omega) (by omega)
     rintro _ rfl _ rfl
     have dG:=Dx i 25
     rintro _ rfl
     have dH:=Dl (a:=(Ck (rot i 6) (rot i 11))) (b:=(rot i 25)) (by omega) (by omega)
     rintro _ rfl _ rfl _ rfl _ rfl
     have dI:=Fi (a:=i) (b:=q) (by omega)
     rintro _ rfl _ rfl
     have dJ:=Dl (a:=i) (b:=4294967295) (by omega) (by omega)
     rintro _ rfl _ rfl
     have dK:=Fi (a:=(Ck i 4294967295)) (b:=r) (by omega)
     rintro _ rfl
     have dL:=Dl (a:=(Dg i q)) (b:=(Dg (Ck i 4294967295) r)) (by omega) (by omega)
     rintro _ _ _ _ _ _ _ _ _ _
     refine sw ?_
     refine ar ((y+(Ck (Ck (rot i 6) (rot i 11)) (rot i 25)))+(Ck (Dg i q) (Dg (Ck i 4294967295) r))) wN ?_
     exact f1
    ·intro _ E dM _
     rintro _ _ _ _ _ _ _ _ _ _ _ _ _ _ _ _ _ _ _ _ _ _ _ _ _ _ _ _
     refine sw ?_
     refine mw (vs R (kw).length S) ?_
     exact f1
    ·intro _ E dN _
     rintro _ _ _ _ _ _ _ _ _ _ _ _ _ _ _ _ _ _ _ _ _ _ _ _ _ _ _ _
     refine sw ?_
     refine mw (vi ((k:Nat):Int)) ?_
     exact f1
    ·intro _ E bX _
     rintro _ _ _ _ _ _ _ _ _ _ _ _ _ _ _ _ _ _ _ _ rfl _ rfl _ _ _ _ _ _ _
     refine sw ?_
     have bY:=(gc (tC (gc (gc ak O) M) W (fun g hg hlt hk=>by have ac:=(Cm ak g hg).2;have ad:au.heap.size≤A.heap.size:=(z2 O M);have ae:A.heap.size≤g:=hk;omega)) bX)
     refine ix wN ((k:Nat):Int) Cd (Rd.of_own bY) ?_
     exact f1
    ·intro _ E bZ _
     rintro _ _ _ _ _ _ _ _ _ _ _ _ _ _ _ _ _ _ _ _ rfl _ rfl _ rfl _ _ _ _ _ _
     refine sw ?_
     have ca:=(gc (tC (gc (gc ak O) M) W (fun g hg hlt hk=>by have ac:=(Cm ak g hg).2;have ad:au.heap.size≤A.heap.size:=(z2 O M);have ae:A.heap.size≤g:=hk;omega)) bZ)
     refine Ex (iV zk) wN rfl rfl rfl rfl tE (Rd.of_own ca) (by rw [← hzk];exact ME (by simp) (by first|omega|(simp <;> omega))) ?_
     exact f1
    ·intro _ E dO _
     rintro _ rfl _ rfl _ rfl
     have dP:=Dx i 6
     rintro _ rfl _ rfl
     have dQ:=Dx i 11
     rintro _ rfl
     have dR:=Dl (a:=(rot i 6)) (b:=(rot i 11)) (by omega) (by omega)
     rintro _ rfl _ rfl
     have dS:=Dx i 25
     rintro _ rfl
     have dU:=Dl (a:=(Ck (rot i 6) (rot i 11))) (b:=(rot i 25)) (by omega) (by omega)
     rintro _ rfl _ rfl _ rfl _ rfl
     have dV:=Fi (a:=i) (b:=q) (by omega)
     rintro _ rfl _ rfl
     have dW:=Dl (a:=i) (b:=4294967295) (by omega) (by omega)
     rintro _ rfl _ rfl
     have dX:=Fi (a:=(Ck i 4294967295)) (b:=r) (by omega)
     rintro _ rfl
     have dY:=Dl (a:=(Dg i q)) (b:=(Dg (Ck i 4294967295) r)) (by omega) (by omega)
     rintro _ rfl _ rfl _ rfl _ rfl _ rfl _ _ _ _ _
     refine sw ?_
     refine ar (((y+(Ck (Ck (rot i 6) (rot i 11)) (rot i 25)))+(Ck (Dg i q) (Dg (Ck i 4294967295) r)))+zk) wN ?_
     exact f1
    ·intro _ E dZ _
     rintro _ _ _ _ _ _ _ _ _ _ _ _ _ _ _ _ _ _ _ _ _ _ _ _ _ _ _ _
     refine sw ?_
     refine mw (vs T (schedP p).length V) ?_
     exact f1
    ·intro _ E ea _
     rintro _ _ _ _ _ _ _ _ _ _ _ _ _ _ _ _ _ _ _ _ _ _ _ _ _ _ _ _
     refine sw ?_
     refine mw (vi ((k:Nat):Int)) ?_
     exact f1
    ·intro _ E cb _
     rintro _ _ _ _ _ _ _ _ _ _ _ _ _ _ _ _ _ _ _ _ _ _ _ _ _ rfl _ rfl _ _
     refine sw ?_
     have cc:=(gc (tC (gc am M) W (fun g hg hlt hk=>by have ac:=(Cm am g hg).2;have ad:aB.heap.size≤A.heap.size:=M.size;have ae:A.heap.size≤g:=hk;omega)) cb)
     refine ix wN ((k:Nat):Int) Cd (Rd.of_own cc) ?_
     exact f1
    ·intro _ E cd _
     rintro _ _ _ _ _ _ _ _ _ _ _ _ _ _ _ _ _ _ _ _ _ _ _ _ _ rfl _ rfl _ rfl _
     refine sw ?_
     have ce:=(gc (tC (gc am M) W (fun g hg hlt hk=>by have ac:=(Cm am g hg).2;have ad:aB.heap.size≤A.heap.size:=M.size;have ae:A.heap.size≤g:=hk;omega)) cd)
     refine Ex (iV zw) wN rfl rfl rfl rfl tE (Rd.of_own ce) (by rw [← hzw];exact ME (by simp) (by first|omega|(simp <;> omega))) ?_
     exact f1
   ·intro _ E aJ
    rintro _ rfl _ rfl _ rfl
    have ec:=Dx i 6
    rintro _ rfl _ rfl
    have ed:=Dx i 11
    rintro _ rfl
    have ee:=Dl (a:=(rot i 6)) (b:=(rot i 11)) (by omega) (by omega)
    rintro _ rfl _ rfl
    have ef:=Dx i 25
    rintro _ rfl
    have eg:=Dl (a:=(Ck (rot i 6) (rot i 11))) (b:=(rot i 25)) (by omega) (by omega)
    rintro _ rfl _ rfl _ rfl _ rfl
    have eh:=Fi (a:=i) (b:=q) (by omega)
    rintro _ rfl _ rfl
    have ej:=Dl (a:=i) (b:=4294967295) (by omega) (by omega)
    rintro _ rfl _ rfl
    have ek:=Fi (a:=(Ck i 4294967295)) (b:=r) (by omega)
    rintro _ rfl
    have em:=Dl (a:=(Dg i q)) (b:=(Dg (Ck i 4294967295) r)) (by omega) (by omega)
    rintro _ rfl _ rfl _ rfl _ rfl _ rfl _ rfl _ rfl _ rfl _ rfl _ rfl
    refine sw ?_
    refine ar ((((y+(Ck (Ck (rot i 6) (rot i 11)) (rot i 25)))+(Ck (Dg i q) (Dg (Ck i 4294967295) r)))+zk)+zw) wN ?_
    refine FE ((((y+(Ck (Ck (rot i 6) (rot i 11)) (rot i 25)))+(Ck (Dg i q) (Dg (Ck i 4294967295) r)))+zk)+zw) 4294967295 4294967296 32 wN rfl rfl (by decide) (by decide) (by decide) (by kernel_rfl) ?_
    refine aw (vi (((((y+(Ck (Ck (rot i 6) (rot i 11)) (rot i 25)))+(Ck (Dg i q) (Dg (Ck i 4294967295) r)))+zk)+zw) % 4294967296)) ?_
    refine nx ?_
    refine mw (vi o) ?_
    refine cl wN (IZ E o 2 (by omega) (by omega)) ?_
    rintro _ Z ⟨aK,rfl⟩
    have cg:=(aD.extk aJ).extk aK
    have en:=Dx o 2
    refine mw (vi o) ?_
    refine cl wN (IZ Z o 13 (by omega) (by omega)) ?_
    rintro _ K ⟨aL,rfl⟩
    have eo:=Dx o 13
    refine Ew (rot o 2) (rot o 13) wN rfl rfl (by kernel_rfl) (by omega) (by omega) (by omega) (by omega) ?_
    have ep:=Dl (a:=(rot o 2)) (b:=(rot o 13)) (by omega) (by omega)
    refine mw (vi o) ?_
    refine cl wN (IZ K o 22 (by omega) (by omega)) ?_
    rintro _ bN ⟨aM,rfl⟩
    have ci:=(cg.extk aL).extk aM
    have er:=Dx o 22
    refine Ew (Ck (rot o 2) (rot o 13)) (rot o 22) wN rfl rfl (by kernel_rfl) (by omega) (by omega) (by omega) (by omega) ?_
    have es:=Dl (a:=(Ck (rot o 2) (rot o 13))) (b:=(rot o 22)) (by omega) (by omega)
    refine mw (vi o) ?_
    refine mw (vi s) ?_
    refine Gj o s wN rfl rfl (by kernel_rfl) (by omega) (by omega) (by omega) (by omega) ?_
    have et:=Fi (a:=o) (b:=s) (by omega)
    refine mw (vi o) ?_
    refine mw (vi t) ?_
    refine Gj o t wN rfl rfl (by kernel_rfl) (by omega) (by omega) (by omega) (by omega) ?_
    have eu:=Fi (a:=o) (b:=t) (by omega)
    refine Ew (Dg o s) (Dg o t) wN rfl rfl (by kernel_rfl) (by omega) (by omega) (by omega) (by omega) ?_
    have ew:=Dl (a:=(Dg o s)) (b:=(Dg o t)) (by omega) (by omega)
    refine mw (vi s) ?_
    refine mw (vi t) ?_
    refine Gj s t wN rfl rfl (by kernel_rfl) (by omega) (by omega) (by omega) (by omega) ?_
    have ex:=Fi (a:=s) (b:=t) (by omega)
    refine Ew (Ck (Dg o s) (Dg o t)) (Dg s t) wN rfl rfl (by kernel_rfl) (by omega) (by omega) (by omega) (by omega) ?_
    have ey:=Dl (a:=(Ck (Dg o s) (Dg o t))) (b:=(Dg s t)) (by omega) (by omega)
    refine ar ((Ck (Ck (rot o 2) (rot o 13)) (rot o 22))+(Ck (Ck (Dg o s) (Dg o t)) (Dg s t))) wN ?_
    refine FE ((Ck (Ck (rot o 2) (rot o 13)) (rot o 22))+(Ck (Ck (Dg o s) (Dg o t)) (Dg s t))) 4294967295 4294967296 32 wN rfl rfl (by decide) (by decide) (by decide) (by kernel_rfl) ?_
    refine aw (vi (((Ck (Ck (rot o 2) (rot o 13)) (rot o 22))+(Ck (Ck (Dg o s) (Dg o t)) (Dg s t))) % 4294967296)) ?_
    refine nx ?_
    refine mw (vi r) ?_
    refine aw (vi r) ?_
    refine nx ?_
    refine mw (vi q) ?_
    refine aw (vi q) ?_
    refine nx ?_
    refine mw (vi i) ?_
    refine aw (vi i) ?_
    refine nx ?_
    refine mw (vi D) ?_
    refine mw (vi (((((y+(Ck (Ck (rot i 6) (rot i 11)) (rot i 25)))+(Ck (Dg i q) (Dg (Ck i 4294967295) r)))+zk)+zw) % 4294967296)) ?_
    refine ar (D+(((((y+(Ck (Ck (rot i 6) (rot i 11)) (rot i 25)))+(Ck (Dg i q) (Dg (Ck i 4294967295) r)))+zk)+zw) % 4294967296)) wN ?_
    refine FE (D+(((((y+(Ck (Ck (rot i 6) (rot i 11)) (rot i 25)))+(Ck (Dg i q) (Dg (Ck i 4294967295) r)))+zk)+zw) % 4294967296)) 4294967295 4294967296 32 wN rfl rfl (by decide) (by decide) (by decide) (by kernel_rfl) ?_
    refine aw (vi ((D+(((((y+(Ck (Ck (rot i 6) (rot i 11)) (rot i 25)))+(Ck (Dg i q) (Dg (Ck i 4294967295) r)))+zk)+zw) % 4294967296)) % 4294967296)) ?_
    refine nx ?_
    refine mw (vi t) ?_
    refine aw (vi t) ?_
    refine nx ?_
    refine mw (vi s) ?_
    refine aw (vi s) ?_
    refine nx ?_
    refine mw (vi o) ?_
    refine aw (vi o) ?_
    refine BU<|re<|BZ ?_
    refine mw (vi (((((y+(Ck (Ck (rot i 6) (rot i 11)) (rot i 25)))+(Ck (Dg i q) (Dg (Ck i 4294967295) r)))+zk)+zw) % 4294967296)) ?_
    refine mw (vi (((Ck (Ck (rot o 2) (rot o 13)) (rot o 22))+(Ck (Ck (Dg o s) (Dg o t)) (Dg s t))) % 4294967296)) ?_
    refine ar ((((((y+(Ck (Ck (rot i 6) (rot i 11)) (rot i 25)))+(Ck (Dg i q) (Dg (Ck i 4294967295) r)))+zk)+zw) % 4294967296)+(((Ck (Ck (rot o 2) (rot o 13)) (rot o 22))+(Ck (Ck (Dg o s) (Dg o t)) (Dg s t))) % 4294967296)) wN ?_
    refine FE ((((((y+(Ck (Ck (rot i 6) (rot i 11)) (rot i 25)))+(Ck (Dg i q) (Dg (Ck i 4294967295) r)))+zk)+zw) % 4294967296)+(((Ck (Ck (rot o 2) (rot o 13)) (rot o 22))+(Ck (Ck (Dg o s) (Dg o t)) (Dg s t))) % 4294967296)) 4294967295 4294967296 32 wN rfl rfl (by decide) (by decide) (by decide) (by kernel_rfl) ?_
    refine aw (vi (((((((y+(Ck (Ck (rot i 6) (rot i 11)) (rot i 25)))+(Ck (Dg i q) (Dg (Ck i 4294967295) r)))+zk)+zw) % 4294967296)+(((Ck (Ck (rot o 2) (rot o 13)) (rot o 22))+(Ck (Ck (Dg o s) (Dg o t)) (Dg s t))) % 4294967296)) % 4294967296)) ?_
    refine BU<|BS<|re<|BZ ?_
    refine mw (vi ((k:Nat):Int)) ?_
    refine ar (((k:Nat):Int)+1) wN ?_
    refine aw (vi (((k:Nat):Int)+1)) ?_
    refine BU ?_
    refine CI (w0:=av) [(0,(vs B j.length C)),(4,(vs none 0 0)),(5,(vs H j.length I)),(6,(vs R (kw).length S)),(7,(vs T (schedP p).length V)),(8,(vi ((Db (schedP p) (Dt j) (k+1)).a))),(9,(vi ((Db (schedP p) (Dt j) (k+1)).b))),(10,(vi ((Db (schedP p) (Dt j) (k+1)).c))),(11,(vi ((Db (schedP p) (Dt j) (k+1)).d))),(12,(vi ((Db (schedP p) (Dt j) (k+1)).e))),(13,(vi ((Db (schedP p) (Dt j) (k+1)).f))),(14,(vi ((Db (schedP p) (Dt j) (k+1)).g))),(15,(vi ((Db (schedP p) (Dt j) (k+1)).z))),(16,(vi (((k+1):Nat):Int)))] ?_ ?_ ?_
    · exact ⟨rfl,rfl,rfl,rfl,rfl,(cA (Value.int .i64) (show ((((((((y+(Ck (Ck (rot i 6) (rot i 11)) (rot i 25)))+(Ck (Dg i q) (Dg (Ck i 4294967295) r)))+zk)+zw) % 4294967296)+(((Ck (Ck (rot o 2) (rot o 13)) (rot o 22))+(Ck (Ck (Dg o s) (Dg o t)) (Dg s t))) % 4294967296)) % 4294967296):Int)=(Db (schedP p) (Dt j) (k+1)).a by subst hzw hzk hi_a hi_b hi_c hi_d hi_e hi_f hi_g hi_z;exact RF (by omega) rfl rfl)),(cA (Value.int .i64) (show (o:Int)=(Db (schedP p) (Dt j) (k+1)).b by rw [hi_a];rfl)),(cA (Value.int .i64) (show (s:Int)=(Db (schedP p) (Dt j) (k+1)).c by rw [hi_b];rfl)),(cA (Value.int .i64) (show (t:Int)=(Db (schedP p) (Dt j) (k+1)).d by rw [hi_c];rfl)),(cA (Value.int .i64) (show (((D+(((((y+(Ck (Ck (rot i 6) (rot i 11)) (rot i 25)))+(Ck (Dg i q) (Dg (Ck i 4294967295) r)))+zk)+zw) % 4294967296)) % 4294967296):Int)=(Db (schedP p) (Dt j) (k+1)).e by subst hzw hzk hi_a hi_b hi_c hi_d hi_e hi_f hi_g hi_z;exact RE (by omega) rfl)),(cA (Value.int .i64) (show (i:Int)=(Db (schedP p) (Dt j) (k+1)).f by rw [hi_e];rfl)),(cA (Value.int .i64) (show (q:Int)=(Db (schedP p) (Dt j) (k+1)).g by rw [hi_f];rfl)),(cA (Value.int .i64) (show (r:Int)=(Db (schedP p) (Dt j) (k+1)).z by rw [hi_g];rfl)),(cA (Value.int .i64) (show ((((k:Nat):Int)+1):Int)=(((k+1):Nat):Int) by omega)),trivial⟩
    · exact fun u=>⟨(k+1),(Db (schedP p) (Dt j) (k+1)).a,(Db (schedP p) (Dt j) (k+1)).b,(Db (schedP p) (Dt j) (k+1)).c,(Db (schedP p) (Dt j) (k+1)).d,(Db (schedP p) (Dt j) (k+1)).e,(Db (schedP p) (Dt j) (k+1)).f,(Db (schedP p) (Dt j) (k+1)).g,(Db (schedP p) (Dt j) (k+1)).z,u,rfl,ci,((((((Ch.refl (fun k=>A.heap.size≤k) A).ext W (fun k hk=>hk)).extk aJ).extk aK).extk aL).extk aM),(by omega),(by first|rfl|assumption),(by first|rfl|assumption),(by first|rfl|assumption),(by first|rfl|assumption),(by first|rfl|assumption),(by first|rfl|assumption),(by first|rfl|assumption),(by first|rfl|assumption)⟩
    · show (64 - (((k+1):Nat):Int)).toNat < (64 - ((k:Nat):Int)).toNat;omega

theorem QE (b:World) (r:Value) (a:List Int) (I:Mw b r a) (P:a.length=8):Fn Tryz.prog 167 #[r] b (fun v f=>Keep b f∧GE f b.heap.size v (Dy a)):=by
 obtain ⟨g,h,rfl,s,Q⟩:=I
 refine Cl (n:=17) [(vs g a.length h)] Tryz.func167 rfl rfl ?_
 refine sr ?_
 refine aw (vs none 0 0) ?_
 refine nx ?_
 refine CR wN rfl rfl tD (fun w=>by kernel_rfl) ?_
 intro p q t J
 have K:=(Ch.base b).extk t
 refine aw (vs (some p) 0 0) ?_
 refine n4 ?_
 refine aw (vi 0) ?_
 refine BU<|re<|Ca ?_
 have y:([]:List UInt8)=Dy (a.take 0):=by rfl
 have A:0=(Dy (a.take 0)).length:=by rw [← y];try (first|rfl|simp only [List.length_set]|simp)
 refine CJ [(0,(vs g a.length h)),(2,(vs none 0 0)),(3,(.slice (some p) (Dy (a.take 0)).length 0)),(4,(vi ((0:Nat):Int)))] ⟨rfl,rfl,rfl,(cA (Value.int .i64) (show (0:Int)=((0:Nat):Int) by omega)),trivial⟩ (fun e' f=>∃ (k:Nat) (B:Env) (d:Option Addr) (e:Nat),e'=pt B [(0,(vs g a.length h)),(2,(vs none 0 0)),(3,(.slice d (Dy (a.take k)).length e)),(4,(vi ((k:Nat):Int)))]∧Ch (fun k=>b.heap.size≤k) b f∧Ch (fun k=>b.heap.size≤k) q f∧k≤a.length∧(World.ownsRow f b.heap.size 5 1 (.slice d (Dy (a.take k)).length e) (Dy (a.take k)).length ((Dy (a.take k)).map bV)∧(Dy (a.take k)).length≤1073741824)) (fun e' _=>a.length - ((intOf (e' 4))).toNat) ?_ ?_
 ·exact fun u=>⟨0,u,(some p),0,rfl,K,(Ch.refl (fun k=>b.heap.size≤k) q),(by omega),⟨(by rw [← A,← y];exact J),(by rw [← A];first|exact (by simp)|(simp only [List.length_append,List.length_take,List.length_replicate];omega))⟩⟩
 ·rintro _ C ⟨k,B,d,e,rfl,j,D,R,⟨E,F⟩⟩
  have hwl:=Hm (a.take k)
  have htl:(a.take k).length=min k a.length:=List.length_take
  refine Cc<|sr ?_
  refine mw (vi ((k:Nat):Int)) ?_
  refine pu (vb (decide (((k:Nat):Int) < 8))) wN ?_
  refine n2 ?_
  rcases bf (decide (((k:Nat):Int) < 8)) with i|i
  ·have S:=dF i
   refine cf i ?_
   refine CS<|wb<|wb<|Ce<|re<|sr ?_
   refine mw (vs d (Dy (a.take k)).length e) ?_
   refine aw (vs d (Dy (a.take k)).length e) ?_
   refine n3 ?_
   refine rt (vs d (Dy (a.take k)).length e) ?_
   refine ⟨j.keep0,?_⟩
   have L:Dy a=(Dy (a.take k)):=by exact Kp (by omega)
   rw [L]
   exact ⟨_,_,rfl,E,F,⟨trivial,trivial⟩⟩
  have T:=dT i
  refine ct i ?_
  refine Ct<|re<|Cc<|Ca<|BZ ?_
  refine mw (vs d (Dy (a.take k)).length e) ?_
  refine mw (vs g a.length h) ?_
  refine mw (vi ((k:Nat):Int)) ?_
  refine ix wN ((k:Nat):Int) Cd (s.from0 j) ?_
  refine ei (x:=a) k wN tE (s.from0 j) ?_
  refine cl wN (Jw C _ (Dy (a.take k)) (CC (Rd.of_own E) F) (a.getD k 0) 4 (by first|omega|(simp;done)|(simp;omega)|(simp only [List.length_append,List.length_cons,List.length_nil] at *;omega))) ?_
  rintro _ V ⟨G,⟨m,o,rfl,M,N,W⟩⟩
  have O:=j.extk G
  have X:=Fa (Dy (a.take k)) (a.getD k 0) 4
  refine aw (vs m (Et (Dy (a.take k)) (a.getD k 0) 4).length o) ?_
  refine BU<|BS<|re<|BZ ?_
  refine mw (vi ((k:Nat):Int)) ?_
  refine ar (((k:Nat):Int)+1) wN ?_
  refine aw (vi (((k:Nat):Int)+1)) ?_
  refine BU ?_
  have H:((Et (Dy (a.take k)) (a.getD k 0) 4):List UInt8)=Dy (a.take (k+1)):=by exact Jf (by omega)
  refine CI (w0:=C) [(0,(vs g a.length h)),(2,(vs none 0 0)),(3,(.slice m (Dy (a.take (k+1))).length o)),(4,(vi (((k+1):Nat):Int)))] ?_ ?_ ?_
  · exact ⟨rfl,rfl,(cA (fun l:List UInt8=>Value.slice m l.length o) H),(cA (Value.int .i64) (show ((((k:Nat):Int)+1):Int)=(((k+1):Nat):Int) by omega)),trivial⟩
  · exact fun u=>⟨(k+1),u,m,o,rfl,O,(((Ch.refl (fun k=>b.heap.size≤k) q).ext D (fun k hk=>hk)).extk G),(by omega),(H ▸ ⟨(tB M (z2 t D)),N⟩)⟩
  · show a.length - ((((k+1):Nat):Int)).toNat < a.length - (((k:Nat):Int)).toNat;omega

theorem QI (b:World) (I:Value) (a:List UInt8) (Z:EP b I a) :Fn Tryz.prog 155 #[I] b (fun v e=>Keep b e∧GE e b.heap.size v (sha a)):=by
 obtain ⟨p,q,rfl,D,a5⟩:=Z
 refine Cl (n:=33) [(vs p a.length q)] Tryz.func155 rfl rfl ?_
 refine sr ?_
 refine aw (vs none 0 0) ?_
 refine n4 ?_
 refine mw (vs p a.length q) ?_
 refine ln wN tD D ?_
 refine pu (vb (decide (1048576 < (a.length:Int)))) wN ?_
 refine n2 ?_
 rcases bt (decide (1048576 < (a.length:Int))) with i|i
 ·have a6:=dT i
  refine ct i ?_
  refine sr ?_
  refine CR wN rfl rfl tD (fun w=>by kernel_rfl) ?_
  intro J aa ab ac
  have ad:=(Ch.base b).extk ab
  refine aw (vs (some J) 0 0) ?_
  refine n1 ?_
  refine rt (vs (some J) 0 0) ?_
  refine ⟨ad.keep0,?_⟩
  have ae:sha a=[]:=by first|exact OT (by omega)|exact Rj (by omega) (by omega) (by omega)
  rw [ae]
  exact ⟨_,_,rfl,ac,(by simp),⟨trivial,trivial⟩⟩
 have a7:=dF i
 refine cf i ?_
 refine y1 ?_
 refine CR wN rfl rfl tD (fun w=>by kernel_rfl) ?_
 intro a8 aa r af
 have K:=(Ch.base b).extk r
 refine mw (vs p a.length q) ?_
 refine ap0 a wN tD af (D.from0 K) r.size ?_
 intro a9 aA ah E L aB
 have M:=K.extk E
 refine mw (vs p a.length q) ?_
 refine ln wN tD (D.from0 M) ?_
 refine cl wN (So ah (a.length:Int)) ?_
 rintro _ aC ⟨s,⟨aD,aE,rfl,ai,_⟩⟩
 have aF:=Fm (a.length:Int)
 have aj:=(gc L s)
 refine apB a (DQ (a.length:Int)) wN tD aj (Rd.of_own ai) (z3 r E s) ?_
 intro f h d N O aG ak
 have am:=(M.extk s).ext N (fun k hk=>nT (Nat.le_refl b.heap.size) (Cm L k hk).1)
 refine aw (vs f (a++(DQ (a.length:Int))).length h) ?_
 refine nx ?_
 refine cl wN (QH d ) ?_
 rintro _ F ⟨t,⟨x,y,rfl,an,ao,aH⟩⟩
 have ap:=am.extk t
 refine aw (vs x (k0).length y) ?_
 refine n4 ?_
 refine aw (vi 0) ?_
 refine BU<|re<|Ca ?_
 have P:((k0):List Int)=DK k0 (a++(DQ (a.length:Int))) 0:=by rfl
 refine CJ [(2,(vs none 0 0)),(3,(vs f (a++(DQ (a.length:Int))).length h)),(4,(.slice x (DK k0 (a++(DQ (a.length:Int))) 0).length y)),(5,(vi (64*((0:Nat):Int))))] ⟨rfl,rfl,(cA (fun l:List Int=>Value.slice x l.length y) P),(cA (Value.int .i64) (show (0:Int)=(64*((0:Nat):Int)) by omega)),trivial⟩ (fun e' e=>∃ (k:Nat) (Q:Env) (j:Option Addr) (m:Nat),e'=pt Q [(2,(vs none 0 0)),(3,(vs f (a++(DQ (a.length:Int))).length h)),(4,(.slice j (DK k0 (a++(DQ (a.length:Int))) k).length m)),(5,(vi (64*((k:Nat):Int))))]∧Ch (fun k=>b.heap.size≤k) b e∧Ch (fun k=>d.heap.size≤k) F e∧64*k≤(a++(DQ (a.length:Int))).length∧(World.ownsRow e d.heap.size 3 1 (.slice j (DK k0 (a++(DQ (a.length:Int))) k).length m) (DK k0 (a++(DQ (a.length:Int))) k).length ((DK k0 (a++(DQ (a.length:Int))) k).map iV)∧(DK k0 (a++(DQ (a.length:Int))) k).length≤1073741824)) (fun e' _=>(a++DQ (a.length:Int)).length - ((intOf (e' 5))).toNat) ?_ ?_
 ·exact fun u=>⟨0,u,x,y,rfl,ap,(Ch.refl (fun k=>d.heap.size≤k) F),(by omega),(P ▸ ⟨an,ao⟩)⟩
 ·rintro _ G ⟨k,Q,j,m,rfl,R,A,aI,⟨S,T⟩⟩
  have hal:=Rk a (by omega)
  refine Cc<|sr ?_
  refine mw (vi (64*((k:Nat):Int))) ?_
  refine mw (vs f (a++(DQ (a.length:Int))).length h) ?_
  have H:=(tC (gc O t) A (fun g hg hlt hk=>by have aJ:=(Cm O g hg).2;have aK:d.heap.size≤d.heap.size:=(Nat.le_refl d.heap.size);have aL:d.heap.size≤g:=hk;omega))
  refine ln wN tD (Rd.of_own H) ?_
  refine pu (vb (decide ((64*((k:Nat):Int)) < ((a++(DQ (a.length:Int))).length:Int)))) wN ?_
  refine n2 ?_
  rcases bf (decide ((64*((k:Nat):Int)) < ((a++(DQ (a.length:Int))).length:Int))) with o|o
  ·have aM:=dF o
   refine cf o ?_
   refine CS<|wb<|wb<|Ce<|re<|sr ?_
   refine mw (vs j (DK k0 (a++(DQ (a.length:Int))) k).length m) ?_
   refine cl wN (QE G _ (DK k0 (a++(DQ (a.length:Int))) k) (GY (Rd.of_own S) T) (by first|omega|exact Hw RW _|exact IM (by first|assumption|exact (Ik (by assumption)).1))) ?_
   rintro _ aq ⟨au,⟨V,W,rfl,av,ax,aN⟩⟩
   have ay:=R.extk au
   refine aw (vs V (Dy (DK k0 (a++(DQ (a.length:Int))) k)).length W) ?_
   refine n3 ?_
   refine rt (vs V (Dy (DK k0 (a++(DQ (a.length:Int))) k)).length W) ?_
   refine ⟨ay.keep0,?_⟩
   have az:sha a=(Dy (DK k0 (a++(DQ (a.length:Int))) k)):=by first|exact OT (by omega)|exact Rj (by omega) (by omega) (by omega)
   rw [az]
   exact ⟨_,_,rfl,(tB av (z6 r E s N t A)),ax,⟨trivial,trivial⟩⟩
  have aO:=dT o
  refine ct o ?_
  refine Ct<|re<|Cc<|Ca<|BZ ?_
  refine mw (vs j (DK k0 (a++(DQ (a.length:Int))) k).length m) ?_
  refine mw (vs f (a++(DQ (a.length:Int))).length h) ?_
  refine mw (vi (64*((k:Nat):Int))) ?_
  refine mw (vi (64*((k:Nat):Int))) ?_
  refine ar ((64*((k:Nat):Int))+64) wN ?_
  refine slv (((a++(DQ (a.length:Int))).drop (((64*((k:Nat):Int))).toNat)).take (((((64*((k:Nat):Int))+64)).toNat) - (((64*((k:Nat):Int))).toNat))) (((64*((k:Nat):Int))).toNat) ((((64*((k:Nat):Int))+64)).toNat) wN tD (Rd.of_own H) (by first|omega|(simp <;> omega)) (by first|omega|(simp <;> omega)) (by first|rfl|(simp;done)|(rw [List.take_of_length_le (by first|(simp;done)|(simp;omega))])) rfl rfl rfl rfl (.inr ⟨_,_,_,rfl,rfl,by omega⟩) (.inr ⟨_,_,_,rfl,rfl,by omega⟩) ?_
  have a0:(((64*((k:Nat):Int))).toNat)≤((((64*((k:Nat):Int))+64)).toNat):=(by first|omega|(simp <;> omega))
  have a1:((((64*((k:Nat):Int))+64)).toNat)≤(a++(DQ (a.length:Int))).length:=(by first|omega|(simp <;> omega))
  refine cl wN (MN G _ (DK k0 (a++(DQ (a.length:Int))) k) (GY (Rd.of_own S) T) _ (((a++(DQ (a.length:Int))).drop (((64*((k:Nat):Int))).toNat)).take (((((64*((k:Nat):Int))+64)).toNat) - (((64*((k:Nat):Int))).toNat))) (CC (Rd.subV (x':=(((a++(DQ (a.length:Int))).drop (((64*((k:Nat):Int))).toNat)).take (((((64*((k:Nat):Int))+64)).toNat) - (((64*((k:Nat):Int))).toNat)))) (Rd.of_own H) a0 a1 (by first|rfl|(simp;done)|(rw [List.take_of_length_le (by first|(simp;done)|(simp;omega))]))) (nT (by simp only [List.length_take,List.length_drop];omega) ak))) ?_
  rintro _ aq ⟨X,⟨B,C,rfl,a2,a3,aP⟩⟩
  have a4:=R.extk X
  refine aw (vs B (Dz (DK k0 (a++(DQ (a.length:Int))) k) (((a++(DQ (a.length:Int))).drop (((64*((k:Nat):Int))).toNat)).take (((((64*((k:Nat):Int))+64)).toNat) - (((64*((k:Nat):Int))).toNat)))).length C) ?_
  refine BU<|BS<|re<|BZ ?_
  refine mw (vi (64*((k:Nat):Int))) ?_
  refine ar ((64*((k:Nat):Int))+64) wN ?_
  refine aw (vi ((64*((k:Nat):Int))+64)) ?_
  refine BU ?_
  have Y:((Dz (DK k0 (a++(DQ (a.length:Int))) k) (((a++(DQ (a.length:Int))).drop (((64*((k:Nat):Int))).toNat)).take (((((64*((k:Nat):Int))+64)).toNat) - (((64*((k:Nat):Int))).toNat)))):List Int)=DK k0 (a++(DQ (a.length:Int))) (k+1):=by exact MH
  refine CI (w0:=G) [(2,(vs none 0 0)),(3,(vs f (a++(DQ (a.length:Int))).length h)),(4,(.slice B (DK k0 (a++(DQ (a.length:Int))) (k+1)).length C)),(5,(vi (64*(((k+1):Nat):Int))))] ?_ ?_ ?_
  · exact ⟨rfl,rfl,(cA (fun l:List Int=>Value.slice B l.length C) Y),(cA (Value.int .i64) (show (((64*((k:Nat):Int))+64):Int)=(64*(((k+1):Nat):Int)) by omega)),trivial⟩
  · exact fun u=>⟨(k+1),u,B,C,rfl,a4,(((Ch.refl (fun k=>d.heap.size≤k) F).ext A (fun k hk=>hk)).extk X),(by omega),(Y ▸ ⟨(tB a2 (z2 t A)),a3⟩)⟩
  · show (a++DQ (a.length:Int)).length - ((64*(((k+1):Nat):Int))).toNat < (a++DQ (a.length:Int)).length - ((64*((k:Nat):Int))).toNat;omega

theorem MP (b:World) (M:Value) (a:List UInt8) (af:EP b M a) :Fn Tryz.prog 154 #[M] b (fun v f=>Keep b f∧GE f b.heap.size v (BX a)):=by
 obtain ⟨h,i,rfl,y,N⟩:=af
 refine Cl (n:=23) [(vs h a.length i)] Tryz.func154 rfl rfl ?_
 refine sr ?_
 refine aw (vs none 0 0) ?_
 refine n4 ?_
 refine mw (vs h a.length i) ?_
 refine ln wN tD y ?_
 refine pu (vb (decide (1048576 < (a.length:Int)))) wN ?_
 refine n2 ?_
 rcases bt (decide (1048576 < (a.length:Int))) with m|m
 ·have aB:=dT m
  refine ct m ?_
  refine sr ?_
  refine CR wN rfl rfl tD (fun w=>by kernel_rfl) ?_
  intro O ah ai aj
  have ak:=(Ch.base b).extk ai
  refine aw (vs (some O) 0 0) ?_
  refine n1 ?_
  refine rt (vs (some O) 0 0) ?_
  refine ⟨ak.keep0,?_⟩
  have am:BX a=[]:=by first|exact FT (by omega)|exact FS (by omega) (by omega) (by omega) (by simp only [List.length_append,List.length_replicate] at *;omega)|exact FR (by omega) (by omega) (by simp only [List.length_append,List.length_replicate] at *;omega)
  rw [am]
  exact ⟨_,_,rfl,aj,(by simp),⟨trivial,trivial⟩⟩
 have aC:=dF m
 refine cf m ?_
 refine y1 ?_
 refine CR wN rfl rfl tD (fun w=>by kernel_rfl) ?_
 intro aD ah o an
 have P:=(Ch.base b).extk o
 refine mw (vs h a.length i) ?_
 refine ap0 a wN tD an (y.from0 P) o.size ?_
 intro A B g C ao aE
 have D:=P.extk C
 refine aw (vs A a.length B) ?_
 refine n4 ?_
 refine mw (vs h a.length i) ?_
 refine ln wN tD (y.from0 D) ?_
 refine pu (vb (decide (64 < (a.length:Int)))) wN ?_
 refine n2 ?_
 rcases bf (decide (64 < (a.length:Int))) with p|p
 ·have aF:=dF p
  refine cf p ?_
  refine Ct<|re<|Cc<|Ca ?_
  have Q:(a:List UInt8)=a++List.replicate 0 (0:UInt8):=by simp
  refine CJ [(2,(vs none 0 0)),(3,(.slice A (a++List.replicate 0 (0:UInt8)).length B))] ⟨rfl,(cA (fun l:List UInt8=>Value.slice A l.length B) Q),trivial⟩ (fun e' f=>∃ (j:Nat) (R:Env) (d:Option Addr) (e:Nat),e'=pt R [(2,(vs none 0 0)),(3,(.slice d (a++List.replicate j (0:UInt8)).length e))]∧Ch (fun k=>b.heap.size≤k) b f∧Ch (fun k=>b.heap.size≤k) g f∧a.length+j≤64∧(World.ownsRow f b.heap.size 5 1 (.slice d (a++List.replicate j (0:UInt8)).length e) (a++List.replicate j (0:UInt8)).length ((a++List.replicate j (0:UInt8)).map bV)∧(a++List.replicate j (0:UInt8)).length≤1073741824)) (fun e' _=>64 - (lenOf (e' 3))) ?_ ?_
  ·exact fun u=>⟨0,u,A,B,rfl,D,(Ch.refl (fun k=>b.heap.size≤k) g),(by omega),(Q ▸ ⟨ao,N⟩)⟩
  ·rintro _ q ⟨j,R,d,e,rfl,S,T,aG,⟨r,ap⟩⟩
   have hol:(a++List.replicate j (0:UInt8)).length=a.length+j:=by rw [List.length_append,List.length_replicate]
   refine Cc<|sr ?_
   refine mw (vs d (a++List.replicate j (0:UInt8)).length e) ?_
   refine ln wN tD (Rd.of_own r) ?_
   refine pu (vb (decide (((a++List.replicate j (0:UInt8)).length:Int) < 64))) wN ?_
   refine n2 ?_
   rcases bf (decide (((a++List.replicate j (0:UInt8)).length:Int) < 64)) with s|s
   ·have aH:=dF s
    refine cf s ?_
    refine CS<|wb<|wb<|Ce<|re<|sr ?_
    refine mw (vs d (a++List.replicate j (0:UInt8)).length e) ?_
    refine aw (vs d (a++List.replicate j (0:UInt8)).length e) ?_
    refine n3 ?_
    refine rt (vs d (a++List.replicate j (0:UInt8)).length e) ?_
    refine ⟨S.keep0,?_⟩
    have aq:BX a=(a++List.replicate j (0:UInt8)):=by first|exact FT (by omega)|exact FS (by omega) (by omega) (by omega) (by simp only [List.length_append,List.length_replicate] at *;omega)|exact FR (by omega) (by omega) (by simp only [List.length_append,List.length_replicate] at *;omega)
    rw [aq]
    exact ⟨_,_,rfl,r,ap,⟨trivial,trivial⟩⟩
   have aI:=dT s
   refine ct s ?_
   refine Ct<|re<|Ca<|BZ ?_
   refine mw (vs d (a++List.replicate j (0:UInt8)).length e) ?_
   refine ltB ([0]:List UInt8) wN tD ?_
   intro aJ aK V E au
   have av:=(gc r E)
   refine apB (a++List.replicate j (0:UInt8)) ([0]:List UInt8) wN tD av (Rd.of_own au) (z4 o C T E) ?_
   intro F G ax W ay aL az
   have a0:=(S.extk E).ext W (fun k hk=>nT (Nat.le_refl b.heap.size) (Cm r k hk).1)
   refine aw (vs F ((a++List.replicate j (0:UInt8))++([0]:List UInt8)).length G) ?_
   refine BU<|BS ?_
   have X:(((a++List.replicate j (0:UInt8))++([0]:List UInt8)):List UInt8)=a++List.replicate (j+1) (0:UInt8):=by rw [List.replicate_succ',List.append_assoc]
   refine CI (w0:=q) [(2,(vs none 0 0)),(3,(.slice F (a++List.replicate (j+1) (0:UInt8)).length G))] ?_ ?_ ?_
   · exact ⟨rfl,(cA (fun l:List UInt8=>Value.slice F l.length G) X),trivial⟩
   · exact fun u=>⟨(j+1),u,F,G,rfl,a0,((((Ch.refl (fun k=>b.heap.size≤k) g).ext T (fun k hk=>hk)).extk E).ext W (fun k hk=>nT (Nat.le_refl b.heap.size) (Cm r k hk).1)),(by omega),(X ▸ ⟨ay,az⟩)⟩
   · show 64 - (a++List.replicate (j+1) (0:UInt8)).length < 64 - (a++List.replicate j (0:UInt8)).length;simp only [List.length_append,List.length_replicate];omega
 have aM:=dT p
 refine ct p ?_
 refine BZ ?_
 refine mw (vs h a.length i) ?_
 refine cl wN (QI g _ a (CC (y.from0 D) N)) ?_
 rintro _ q ⟨Y,⟨H,I,rfl,a1,a2,aN⟩⟩
 have a3:=D.extk Y
 have aO:=HT a
 refine aw (vs H (sha a).length I) ?_
 refine BU<|re<|Cc<|Ca ?_
 have Z:((sha a):List UInt8)=(sha a)++List.replicate 0 (0:UInt8):=by simp
 refine CJ [(2,(vs none 0 0)),(3,(.slice H ((sha a)++List.replicate 0 (0:UInt8)).length I))] ⟨rfl,(cA (fun l:List UInt8=>Value.slice H l.length I) Z),trivial⟩ (fun e' f=>∃ (j:Nat) (aa:Env) (d:Option Addr) (e:Nat),e'=pt aa [(2,(vs none 0 0)),(3,(.slice d ((sha a)++List.replicate j (0:UInt8)).length e))]∧Ch (fun k=>b.heap.size≤k) b f∧Ch (fun k=>g.heap.size≤k) q f∧(sha a).length+j≤64∧(World.ownsRow f g.heap.size 5 1 (.slice d ((sha a)++List.replicate j (0:UInt8)).length e) ((sha a)++List.replicate j (0:UInt8)).length (((sha a)++List.replicate j (0:UInt8)).map bV)∧((sha a)++List.replicate j (0:UInt8)).length≤1073741824)) (fun e' _=>64 - (lenOf (e' 3))) ?_ ?_
 ·exact fun u=>⟨0,u,H,I,rfl,a3,(Ch.refl (fun k=>g.heap.size≤k) q),(by omega),(Z ▸ ⟨a1,a2⟩)⟩
 ·rintro _ V ⟨j,aa,d,e,rfl,ab,ac,aP,⟨t,a4⟩⟩
  have hol:((sha a)++List.replicate j (0:UInt8)).length=(sha a).length+j:=by rw [List.length_append,List.length_replicate]
  refine Cc<|sr ?_
  refine mw (vs d ((sha a)++List.replicate j (0:UInt8)).length e) ?_
  refine ln wN tD (Rd.of_own t) ?_
  refine pu (vb (decide ((((sha a)++List.replicate j (0:UInt8)).length:Int) < 64))) wN ?_
  refine n2 ?_
  rcases bf (decide ((((sha a)++List.replicate j (0:UInt8)).length:Int) < 64)) with x|x
  ·have aQ:=dF x
   refine cf x ?_
   refine CS<|wb<|wb<|Ce<|re<|sr ?_
   refine mw (vs d ((sha a)++List.replicate j (0:UInt8)).length e) ?_
   refine aw (vs d ((sha a)++List.replicate j (0:UInt8)).length e) ?_
   refine n3 ?_
   refine rt (vs d ((sha a)++List.replicate j (0:UInt8)).length e) ?_
   refine ⟨ab.keep0,?_⟩
   have a5:BX a=((sha a)++List.replicate j (0:UInt8)):=by first|exact FT (by omega)|exact FS (by omega) (by omega) (by omega) (by simp only [List.length_append,List.length_replicate] at *;omega)|exact FR (by omega) (by omega) (by simp only [List.length_append,List.length_replicate] at *;omega)
   rw [a5]
   exact ⟨_,_,rfl,(tB t (z2 o C)),a4,⟨trivial,trivial⟩⟩
  have aR:=dT x
  refine ct x ?_
  refine Ct<|re<|Ca<|BZ ?_
  refine mw (vs d ((sha a)++List.replicate j (0:UInt8)).length e) ?_
  refine ltB ([0]:List UInt8) wN tD ?_
  intro aS aT ax J a6
  have a7:=(gc t J)
  refine apB ((sha a)++List.replicate j (0:UInt8)) ([0]:List UInt8) wN tD a7 (Rd.of_own a6) (z3 Y ac J) ?_
  intro K L aU ad a8 aV a9
  have aA:=(ab.extk J).ext ad (fun k hk=>nT (z2 o C) (Cm t k hk).1)
  refine aw (vs K (((sha a)++List.replicate j (0:UInt8))++([0]:List UInt8)).length L) ?_
  refine BU<|BS ?_
  have ae:((((sha a)++List.replicate j (0:UInt8))++([0]:List UInt8)):List UInt8)=(sha a)++List.replicate (j+1) (0:UInt8):=by rw [List.replicate_succ',List.append_assoc]
  refine CI (w0:=V) [(2,(vs none 0 0)),(3,(.slice K ((sha a)++List.replicate (j+1) (0:UInt8)).length L))] ?_ ?_ ?_
  · exact ⟨rfl,(cA (fun l:List UInt8=>Value.slice K l.length L) ae),trivial⟩
  · exact fun u=>⟨(j+1),u,K,L,rfl,aA,((((Ch.refl (fun k=>g.heap.size≤k) q).ext ac (fun k hk=>hk)).extk J).ext ad (fun k hk=>nT (Nat.le_refl g.heap.size) (Cm t k hk).1)),(by omega),(ae ▸ ⟨a8,a9⟩)⟩
  · show 64 - ((sha a)++List.replicate (j+1) (0:UInt8)).length < 64 - ((sha a)++List.replicate j (0:UInt8)).length;simp only [List.length_append,List.length_replicate];omega

theorem PY (d:World) (ac:Value) (a:List UInt8) (a8:EP d ac a) (ad:Value) (b:List UInt8) (a9:EP d ad b) :Fn Tryz.prog 145 #[ac,ad] d (fun v m=>Keep d m∧GE m d.heap.size v (Ff a b)):=by
 obtain ⟨L,M,rfl,ae,aA⟩:=a8
 obtain ⟨o,p,rfl,af,bw⟩:=a9
 refine Cl (n:=49) [(vs L a.length M),(vs o b.length p)] Tryz.func145 rfl rfl ?_
 refine sr ?_
 refine aw (vs none 0 0) ?_
 refine n4 ?_
 refine jT1 [(0,(vs L a.length M)),(1,(vs o b.length p)),(4,(vs none 0 0))] (Ff a b=[]) ?_ fun ah=>?_
 ·intro aB e ai bz
  refine sr ?_
  refine CR wN rfl rfl tD (fun w=>by kernel_rfl) ?_
  intro aj T aC aD
  have aE:=((Ch.base d).extk ai).extk aC
  refine aw (vs (some aj) 0 0) ?_
  refine n1 ?_
  refine rt (vs (some aj) 0 0) ?_
  refine ⟨aE.keep0,?_⟩
  rw [aB]
  exact ⟨_,_,rfl,(tB aD ai.size),(by simp),⟨trivial,trivial⟩⟩
 refine mw (vs L a.length M) ?_
 refine ln wN tD ae ?_
 refine pu (vb (decide (1048576 < (a.length:Int)))) wN ?_
 refine mw (vb (decide (1048576 < (a.length:Int)))) ?_
 rcases bt (decide (1048576 < (a.length:Int))) with f|f
 ·have b0:=dT f
  iterate 3 refine sk f ?_
  refine pk (vb true) wN f ?_
  refine n2 ?_
  refine ct (Eq.refl true) ?_
  have aF:Ff a b=[]:=by first|exact Jq (by omega)|exact Jp (by omega) (by omega)|exact NH (by omega) (by omega)
  exact wj (ah aF _ (Ch.refl _ _))
 have b1:=dF f
 refine mv (vs o b.length p) (wS f) ?_
 refine ln (wS f) tD af ?_
 refine pu (vb (decide (1048512 < (b.length:Int)))) (wS f) ?_
 refine pf (vb (decide (1048512 < (b.length:Int)))) wN f ?_
 refine n2 ?_
 rcases bt (decide (1048512 < (b.length:Int))) with E|E
 ·have b2:=dT E
  refine ct E ?_
  have aG:Ff a b=[]:=by first|exact Jq (by omega)|exact Jp (by omega) (by omega)|exact NH (by omega) (by omega)
  exact wj (ah aG _ (Ch.refl _ _))
 have b3:=dF E
 refine cf E ?_
 refine y1 ?_
 refine mw (vs L a.length M) ?_
 refine cl wN (MP d _ a (CC ae aA)) ?_
 rintro _ e ⟨s,⟨t,y,rfl,V,_⟩⟩
 have b4:=Hh a
 refine aw (vs t (BX a).length y) ?_
 refine nx ?_
 refine CR wN rfl rfl tD (fun w=>by kernel_rfl) ?_
 intro W T h ak
 refine aw (vs (some W) 0 0) ?_
 refine nx ?_
 refine CR wN rfl rfl tD (fun w=>by kernel_rfl) ?_
 intro X Y j am
 have aH:=(((Ch.base d).extk s).extk h).extk j
 refine aw (vs (some X) 0 0) ?_
 refine n4 ?_
 refine aw (vi 0) ?_
 refine BU<|re<|Ca ?_
 have aI:=(gc ak j)
 have an:([]:List UInt8)=De ((BX a).take 0) 54:=by rfl
 have ao:0=(De ((BX a).take 0) 54).length:=by rw [← an];try (first|rfl|simp only [List.length_set]|simp)
 have ap:([]:List UInt8)=De ((BX a).take 0) 92:=by rfl
 have aq:0=(De ((BX a).take 0) 92).length:=by rw [← ap];try (first|rfl|simp only [List.length_set]|simp)
 refine CJ [(1,(vs o b.length p)),(4,(vs none 0 0)),(5,(vs t (BX a).length y)),(6,(.slice (some W) (De ((BX a).take 0) 54).length 0)),(7,(.slice (some X) (De ((BX a).take 0) 92).length 0)),(8,(vi ((0:Nat):Int)))] ⟨rfl,rfl,rfl,rfl,rfl,(cA (Value.int .i64) (show (0:Int)=((0:Nat):Int) by omega)),trivial⟩ (fun e' m=>∃ (i:Nat) (au:Env) (A:Option Addr) (F:Nat) (B:Option Addr) (G:Nat),e'=pt au [(1,(vs o b.length p)),(4,(vs none 0 0)),(5,(vs t (BX a).length y)),(6,(.slice A (De ((BX a).take i) 54).length F)),(7,(.slice B (De ((BX a).take i) 92).length G)),(8,(vi ((i:Nat):Int)))]∧Ch (fun k=>d.heap.size≤k) d m∧Ch (fun k=>e.heap.size≤k) Y m∧i≤64∧(World.ownsRow m e.heap.size 5 1 (.slice A (De ((BX a).take i) 54).length F) (De ((BX a).take i) 54).length ((De ((BX a).take i) 54).map bV)∧(De ((BX a).take i) 54).length≤1073741824)∧(World.ownsRow m T.heap.size 5 1 (.slice B (De ((BX a).take i) 92).length G) (De ((BX a).take i) 92).length ((De ((BX a).take i) 92).map bV)∧(De ((BX a).take i) 92).length≤1073741824)∧NeS A B) (fun e' _=>(64 - (intOf (e' 8))).toNat) ?_ ?_
 ·exact fun u=>⟨0,u,(some W),0,(some X),0,rfl,aH,(Ch.refl (fun k=>e.heap.size≤k) Y),(by omega),⟨(by rw [← ao,← an];exact aI),(by rw [← ao];first|exact (by simp)|(simp only [List.length_append,List.length_take,List.length_replicate];omega))⟩,⟨(by rw [← aq,← ap];exact am),(by rw [← aq];first|exact (by simp)|(simp only [List.length_append,List.length_take,List.length_replicate];omega))⟩,(NeS.lt ak am (Nat.le_refl T.heap.size))⟩
 ·rintro _ aJ ⟨i,au,A,F,B,G,rfl,Z,q,b5,⟨C,b6⟩,⟨D,b7⟩,N⟩
  have b8:=Dh ((BX a).take i) 54
  have b9:=Dh ((BX a).take i) 92
  have htl:((BX a).take i).length=min i (BX a).length:=List.length_take
  refine Cc<|sr ?_
  refine mw (vi ((i:Nat):Int)) ?_
  refine pu (vb (decide (((i:Nat):Int) < 64))) wN ?_
  refine n2 ?_
  rcases bf (decide (((i:Nat):Int) < 64)) with H|H
  ·have bA:=dF H
   refine cf H ?_
   refine CS<|wb ?_
   obtain rfl:i=64:=by omega
   refine wb<|Ce<|re<|sr ?_
   refine mw (vs B (De ((BX a).take 64) 92).length G) ?_
   refine mw (vs A (De ((BX a).take 64) 54).length F) ?_
   refine mw (vs o b.length p) ?_
   refine apB (De ((BX a).take 64) 54) b wN tD C (af.from0 Z) (z3 h j q) ?_
   intro bB bC av O ax aK aL
   have aM:=Z.ext O (fun k hk=>nT s.size (Cm C k hk).1)
   have aN:=NeS.app N aK D
   refine cl wN (QI av _ ((De ((BX a).take 64) 54)++b) (CC (Rd.of_own ax) aL)) ?_
   rintro _ aO ⟨I,⟨bD,bE,rfl,aP,_⟩⟩
   have bF:=HT ((De ((BX a).take 64) 54)++b)
   have aQ:=(gc (tC D O (fun g hg hlt hk=>NeS.no (NeS.symm N) hg hk)) I)
   refine apB (De ((BX a).take 64) 92) (sha ((De ((BX a).take 64) 54)++b)) wN tD aQ (Rd.of_own aP) (z4 j q O I) ?_
   intro bG bH ay az aR aS aT
   have aU:=(aM.extk I).ext az (fun k hk=>nT (z2 s h) (Cm D k hk).1)
   have aV:=(gc ax I)
   have bI:=NeS.app (NeS.symm aN) aS aV
   refine cl wN (QI ay _ ((De ((BX a).take 64) 92)++(sha ((De ((BX a).take 64) 54)++b))) (CC (Rd.of_own aR) aT)) ?_
   rintro _ aW ⟨aX,⟨a0,a1,rfl,aY,aZ,bJ⟩⟩
   have ba:=aU.extk aX
   have bK:=HT ((De ((BX a).take 64) 92)++(sha ((De ((BX a).take 64) 54)++b)))
   refine aw (vs a0 (sha ((De ((BX a).take 64) 92)++(sha ((De ((BX a).take 64) 54)++b)))).length a1) ?_
   refine n3 ?_
   refine rt (vs a0 (sha ((De ((BX a).take 64) 92)++(sha ((De ((BX a).take 64) 54)++b)))).length a1) ?_
   refine ⟨ba.keep0,?_⟩
   have bb:Ff a b=(sha ((De ((BX a).take 64) 92)++(sha ((De ((BX a).take 64) 54)++b)))):=by first|exact Jq (by omega)|exact Jp (by omega) (by omega)|exact NH (by omega) (by omega)
   rw [bb]
   exact ⟨_,_,rfl,(tB aY (z7 s h j q O I az)),aZ,⟨trivial,trivial⟩⟩
  have bL:=dT H
  refine ct H ?_
  refine Ct<|re<|Cc<|Ca<|sr ?_
  refine mw (vs A (De ((BX a).take i) 54).length F) ?_
  refine mw (vs t (BX a).length y) ?_
  refine mw (vi ((i:Nat):Int)) ?_
  have aa:=(tC (gc (gc V h) j) q (fun g hg hlt hk=>by have bc:=(Cm V g hg).2;have bd:e.heap.size≤e.heap.size:=(Nat.le_refl e.heap.size);have be:e.heap.size≤g:=hk;omega))
  refine ix wN ((i:Nat):Int) tD (Rd.of_own aa) ?_
  refine eb (x:=(BX a)) i wN EF (Rd.of_own aa) ?_
  refine He ((BX a).getD i 0) 54 wN rfl rfl (by kernel_rfl) ?_
  refine ltB ([(((BX a).getD i 0)^^^54)]:List UInt8) wN tD ?_
  intro bM bN av r bg
  have bh:=(gc C r)
  refine apB (De ((BX a).take i) 54) ([(((BX a).getD i 0)^^^54)]:List UInt8) wN tD bh (Rd.of_own bg) (z4 h j q r) ?_
  intro P Q aO J bi bj bk
  have bl:=(Z.extk r).ext J (fun k hk=>nT s.size (Cm C k hk).1)
  have a2:=(gc D r)
  have a3:=NeS.app N bj a2
  refine aw (vs P ((De ((BX a).take i) 54)++([(((BX a).getD i 0)^^^54)]:List UInt8)).length Q) ?_
  refine BU<|re<|BZ ?_
  refine mw (vs B (De ((BX a).take i) 92).length G) ?_
  refine mw (vs t (BX a).length y) ?_
  refine mw (vi ((i:Nat):Int)) ?_
  have a4:=(tC (gc aa r) J (fun g hg hlt hk=>by have bc:=(Cm V g hg).2;have bd:=(Cm C g hk).1;have be:=(Nat.le_refl e.heap.size);omega))
  refine ix wN ((i:Nat):Int) tD (Rd.of_own a4) ?_
  refine eb (x:=(BX a)) i wN EF (Rd.of_own a4) ?_
  refine He ((BX a).getD i 0) 92 wN rfl rfl (by kernel_rfl) ?_
  refine ltB ([(((BX a).getD i 0)^^^92)]:List UInt8) wN tD ?_
  intro bO bP ay K bm
  have bn:=(gc (tC a2 J (fun g hg hlt hk=>NeS.no (NeS.symm N) hg hk)) K)
  refine apB (De ((BX a).take i) 92) ([(((BX a).getD i 0)^^^92)]:List UInt8) wN tD bn (Rd.of_own bm) (z5 j q r J K) ?_
  intro R S aW ab bo bp bq
  have br:=(bl.extk K).ext ab (fun k hk=>nT (z2 s h) (Cm D k hk).1)
  have a5:=(gc bi K)
  have bu:=NeS.app (NeS.symm a3) bp a5
  refine aw (vs R ((De ((BX a).take i) 92)++([(((BX a).getD i 0)^^^92)]:List UInt8)).length S) ?_
  refine BU<|BS<|re<|BZ ?_
  refine mw (vi ((i:Nat):Int)) ?_
  refine ar (((i:Nat):Int)+1) wN ?_
  refine aw (vi (((i:Nat):Int)+1)) ?_
  refine BU ?_
  have bv:=(tC a5 ab (fun g hg hlt hk=>NeS.no a3 hg hk))
  have a6:(((De ((BX a).take i) 54)++([(((BX a).getD i 0)^^^54)]:List UInt8)):List UInt8)=De ((BX a).take (i+1)) 54:=by exact KD (by omega)
  have a7:(((De ((BX a).take i) 92)++([(((BX a).getD i 0)^^^92)]:List UInt8)):List UInt8)=De ((BX a).take (i+1)) 92:=by exact KD (by omega)
  refine CI (w0:=aJ) [(1,(vs o b.length p)),(4,(vs none 0 0)),(5,(vs t (BX a).length y)),(6,(.slice P (De ((BX a).take (i+1)) 54).length Q)),(7,(.slice R (De ((BX a).take (i+1)) 92).length S)),(8,(vi (((i+1):Nat):Int)))] ?_ ?_ ?_
  · exact ⟨rfl,rfl,rfl,(cA (fun l:List UInt8=>Value.slice P l.length Q) a6),(cA (fun l:List UInt8=>Value.slice R l.length S) a7),(cA (Value.int .i64) (show ((((i:Nat):Int)+1):Int)=(((i+1):Nat):Int) by omega)),trivial⟩
  · exact fun u=>⟨(i+1),u,P,Q,R,S,rfl,br,((((((Ch.refl (fun k=>e.heap.size≤k) Y).ext q (fun k hk=>hk)).extk r).ext J (fun k hk=>nT (Nat.le_refl e.heap.size) (Cm C k hk).1)).extk K).ext ab (fun k hk=>nT h.size (Cm D k hk).1)),(by omega),(a6 ▸ ⟨bv,bk⟩),(a7 ▸ ⟨bo,bq⟩),(NeS.symm bu)⟩
  · show (64 - (((i+1):Nat):Int)).toNat < (64 - ((i:Nat):Int)).toNat;omega

theorem Sm (d:World) (j:Value) (a:List UInt8) (A:EP d j a) (k:Value) (b:List UInt8) (B:EP d k b) :Fn Tryz.prog 112 #[j,k] d (fun v l=>Keep d l∧GE l d.heap.size v (Iv a b)):=by
 obtain ⟨m,o,rfl,C,D⟩:=A
 obtain ⟨p,q,rfl,E,F⟩:=B
 refine Cl (n:=17) [(vs m a.length o),(vs p b.length q)] Tryz.func112 rfl rfl ?_
 refine sr ?_
 refine aw (vs none 0 0) ?_
 refine nx ?_
 refine mw (vs m a.length o) ?_
 refine mw (vs p b.length q) ?_
 refine cl wN (PY d _ a (CC C D) _ b (CC E F)) ?_
 rintro _ T ⟨f,⟨g,h,rfl,r,G,V⟩⟩
 have s:=(Ch.base d).extk f
 have W:=HM a b
 refine aw (vs g (Ff a b).length h) ?_
 refine n4 ?_
 refine mw (vs g (Ff a b).length h) ?_
 refine ln wN tD (Rd.of_own r) ?_
 refine pu (vb (decide (((Ff a b).length:Int) < 16))) wN ?_
 refine n2 ?_
 rcases bt (decide (((Ff a b).length:Int) < 16)) with e|e
 ·have X:=dT e
  refine ct e ?_
  refine sr ?_
  refine CR wN rfl rfl tD (fun w=>by kernel_rfl) ?_
  intro t H I J
  have K:=s.extk I
  refine aw (vs (some t) 0 0) ?_
  refine n1 ?_
  refine rt (vs (some t) 0 0) ?_
  refine ⟨K.keep0,?_⟩
  have L:Iv a b=[]:=by first|exact LK (by omega)|rfl
  rw [L]
  exact ⟨_,_,rfl,(tB J f.size),(by simp),⟨trivial,trivial⟩⟩
 have Y:=dF e
 refine cf e ?_
 refine y1 ?_
 refine CR wN rfl rfl tD (fun w=>by kernel_rfl) ?_
 intro Z H i M
 refine mw (vs g (Ff a b).length h) ?_
 have u:=(gc r i)
 refine slv ((Ff a b).take 16) 0 16 wN tD (Rd.of_own u) (by first|omega|(simp <;> omega)) (by first|omega|(simp <;> omega)) (by first|rfl|(simp;done)|(rw [List.take_of_length_le (by first|(simp;done)|(simp;omega))])) rfl rfl rfl rfl (.inl ⟨rfl,rfl⟩) (.inr ⟨_,_,_,rfl,rfl,by omega⟩) ?_
 have N:0≤16:=(by first|omega|(simp <;> omega))
 have O:16≤(Ff a b).length:=(by first|omega|(simp <;> omega))
 refine ap0 ((Ff a b).take 16) wN tD M (Rd.subV (x':=((Ff a b).take 16)) (Rd.of_own u) N O (by first|rfl|(simp;done)|(rw [List.take_of_length_le (by first|(simp;done)|(simp;omega))]))) i.size ?_
 intro x y aa P Q ab
 have R:=(s.extk i).extk P
 refine aw (vs x ((Ff a b).take 16).length y) ?_
 refine n3 ?_
 refine rt (vs x ((Ff a b).take 16).length y) ?_
 refine ⟨R.keep0,?_⟩
 have S:Iv a b=((Ff a b).take 16):=by first|exact LK (by omega)|rfl
 rw [S]
 exact ⟨_,_,rfl,(tB Q f.size),(nT (by simp only [List.length_take,List.length_drop];omega) G),⟨trivial,trivial⟩⟩

theorem RD (f:World) (w:Value) (d:List UInt8) (D:EP f w d) (y:Value) (e:List UInt8) (E:EP f y e) :Fn Tryz.prog 144 #[w,y] f (fun v o=>Keep f o∧O_3 o f.heap.size v (Fx d e)):=by
 obtain ⟨i,j,rfl,s,R⟩:=D
 obtain ⟨l,m,rfl,t,S⟩:=E
 refine Cl (n:=31) [(vs i d.length j),(vs l e.length m)] Tryz.func144 rfl rfl ?_
 refine sr ?_
 refine aw (vi 0) ?_
 refine n4 ?_
 refine mw (vs i d.length j) ?_
 refine ln wN tD s ?_
 refine mw (vs l e.length m) ?_
 refine ln wN tD t ?_
 refine pu (vb (!(decide ((d.length:Int)=(e.length:Int))))) wN ?_
 refine n2 ?_
 rcases bf (decide ((d.length:Int)=(e.length:Int))) with q|q
 ·have T:=dF q
  refine ct (cA not q) ?_
  refine sr ?_
  refine aw (vi (-1)) ?_
  refine n1 ?_
  refine rt (vi (-1)) ?_
  refine ⟨Ch.refl _ _,?_⟩
  have F:Fx d e=(-1):=by first|exact IK (by omega)|exact IJ (by omega) (by omega) (by omega)
  rw [F]
  exact rfl
 have V:=dT q
 refine cf (cA not q) ?_
 refine y1 ?_
 refine aw (vi 0) ?_
 refine n4 ?_
 refine aw (vi 0) ?_
 refine BU<|re<|Ca ?_
 refine CJ [(0,(vs i d.length j)),(1,(vs l e.length m)),(4,(vi 0)),(5,(vi (orX d e 0))),(6,(vi ((0:Nat):Int)))] ⟨rfl,rfl,rfl,(cA (Value.int .i64) (show (0:Int)=(orX d e 0) by rfl)),(cA (Value.int .i64) (show (0:Int)=((0:Nat):Int) by omega)),trivial⟩ (fun e' o=>∃ (k:Nat) (A:Env),e'=pt A [(0,(vs i d.length j)),(1,(vs l e.length m)),(4,(vi 0)),(5,(vi (orX d e k))),(6,(vi ((k:Nat):Int)))]∧Ch (fun k=>f.heap.size≤k) f o∧Ch (fun k=>f.heap.size≤k) f o∧k≤d.length) (fun e' _=>d.length - ((intOf (e' 6))).toNat) ?_ ?_
 ·exact fun u=>⟨0,u,rfl,(Ch.base f),(Ch.refl (fun k=>f.heap.size≤k) f),(by omega)⟩
 ·rintro _ B ⟨k,A,rfl,p,G,W⟩
  have hob:=Rn d e k
  have X:(d.getD k 0^^^e.getD k 0).toNat < 256:=UInt8.toNat_lt _
  refine Cc<|sr ?_
  refine mw (vi ((k:Nat):Int)) ?_
  refine mw (vs i d.length j) ?_
  refine ln wN tD (s.from0 p) ?_
  refine pu (vb (decide (((k:Nat):Int) < (d.length:Int)))) wN ?_
  refine n2 ?_
  rcases bf (decide (((k:Nat):Int) < (d.length:Int))) with r|r
  ·have Y:=dF r
   refine cf r ?_
   refine CS<|wb<|wb<|Ce<|re<|sr ?_
   refine mw (vi (orX d e k)) ?_
   refine aw (vi (orX d e k)) ?_
   refine n3 ?_
   refine rt (vi (orX d e k)) ?_
   refine ⟨p.keep0,?_⟩
   have H:Fx d e=(orX d e k):=by first|exact IK (by omega)|exact IJ (by omega) (by omega) (by omega)
   rw [H]
   exact rfl
  have Z:=dT r
  refine ct r ?_
  refine Ct<|re<|Cc<|Ca ?_
  refine CU ([(18,[],[],(fun _ v _=>v=(vi (orX d e k)))),(19,[],[],(fun _ v _=>v=(vs i d.length j))),(20,[],[],(fun _ v _=>v=(vi ((k:Nat):Int)))),(21,[],[1,2],(fun _ v _=>v=(ve (vs i d.length j) ((((k:Nat):Int)).toNat*1)))),(22,[],[1,2,3],(fun _ v _=>v=(v8 ((d.getD k 0).toNat:Int)))),(23,[],[],(fun _ v _=>v=(vs l e.length m))),(24,[],[],(fun _ v _=>v=(vi ((k:Nat):Int)))),(25,[],[5,6],(fun _ v _=>v=(ve (vs l e.length m) ((((k:Nat):Int)).toNat*1)))),(26,[],[5,6,7],(fun _ v _=>v=(v8 ((e.getD k 0).toNat:Int)))),(27,[],[1,2,3,4,5,6,7,8],(fun _ v _=>v=(v8 (((d.getD k 0)^^^(e.getD k 0)).toNat:Int)))),(28,[],[1,2,3,4,5,6,7,8,9],(fun _ v _=>v=(vi (((d.getD k 0)^^^(e.getD k 0)).toNat:Int))))]:GV) (fun _ o=>Keep B o) [] DN rfl (by kernel_rfl) (by kernel_rfl) ?_ (fun _ _ h=>h) (fun _ _ _ _ h _ k=>h.trans k) trivial ?_ ?_ ?_
  ·exact ⟨hV,hE,⟨hV,hE,⟨hV,hE,⟨hV,hE,⟨hV,hE,⟨hV,hE,⟨hV,hE,⟨hV,hE,⟨hV,hE,⟨hV,hE,⟨hV,hE,trivial⟩⟩⟩⟩⟩⟩⟩⟩⟩⟩⟩
  ·exact trivial
  ·refine ⟨?_,⟨?_,⟨?_,⟨?_,⟨?_,⟨?_,⟨?_,⟨?_,⟨?_,⟨?_,⟨?_,trivial⟩⟩⟩⟩⟩⟩⟩⟩⟩⟩⟩
   ·intro _ g aa _
    rintro _ _ _ _ _ _ _ _ _ _ _
    refine sw ?_
    refine mw (vi (orX d e k)) ?_
    exact f1
   ·intro _ g ab _
    rintro _ _ _ _ _ _ _ _ _ _ _
    refine sw ?_
    refine mw (vs i d.length j) ?_
    exact f1
   ·intro _ g ac _
    rintro _ _ _ _ _ _ _ _ _ _ _
    refine sw ?_
    refine mw (vi ((k:Nat):Int)) ?_
    exact f1
   ·intro _ g I _
    have J:=p.extk I
    rintro _ _ rfl _ rfl _ _ _ _ _ _ _ _
    refine sw ?_
    refine ix wN ((k:Nat):Int) tD (s.from0 J) ?_
    exact f1
   ·intro _ g K _
    have L:=p.extk K
    rintro _ _ rfl _ rfl _ rfl _ _ _ _ _ _ _
    refine sw ?_
    refine eb (x:=d) k wN EF (s.from0 L) ?_
    exact f1
   ·intro _ g ad _
    rintro _ _ _ _ _ _ _ _ _ _ _
    refine sw ?_
    refine mw (vs l e.length m) ?_
    exact f1
   ·intro _ g ae _
    rintro _ _ _ _ _ _ _ _ _ _ _
    refine sw ?_
    refine mw (vi ((k:Nat):Int)) ?_
    exact f1
   ·intro _ g M _
    have N:=p.extk M
    rintro _ _ _ _ _ _ rfl _ rfl _ _ _ _
    refine sw ?_
    refine ix wN ((k:Nat):Int) tD (t.from0 N) ?_
    exact f1
   ·intro _ g O _
    have P:=p.extk O
    rintro _ _ _ _ _ _ rfl _ rfl _ rfl _ _ _
    refine sw ?_
    refine eb (x:=e) k wN EF (t.from0 P) ?_
    exact f1
   ·intro _ g af _
    rintro _ _ rfl _ rfl _ rfl _ rfl _ rfl _ rfl _ rfl _ rfl _ _
    refine sw ?_
    refine He (d.getD k 0) (e.getD k 0) wN rfl rfl (by kernel_rfl) ?_
    exact f1
   ·intro _ g ah _
    rintro _ _ rfl _ rfl _ rfl _ rfl _ rfl _ rfl _ rfl _ rfl _ rfl _
    refine sw ?_
    refine ar (((d.getD k 0)^^^(e.getD k 0)).toNat:Int) wN ?_
    exact f1
  ·intro _ g C
   have Q:=p.extk C
   rintro _ rfl _ rfl _ rfl _ rfl _ rfl _ rfl _ rfl _ rfl _ rfl _ rfl _ rfl
   refine sw ?_
   refine Lg (orX d e k) (((d.getD k 0)^^^(e.getD k 0)).toNat:Int) wN rfl rfl (by kernel_rfl) (by omega) (by omega) (by omega) (by omega) ?_
   have ai:=JP (a:=(orX d e k)) (b:=(((d.getD k 0)^^^(e.getD k 0)).toNat:Int)) (by omega) (by omega)
   refine aw (vi (orI (orX d e k) (((d.getD k 0)^^^(e.getD k 0)).toNat:Int))) ?_
   refine BU<|BS<|re<|BZ ?_
   refine mw (vi ((k:Nat):Int)) ?_
   refine ar (((k:Nat):Int)+1) wN ?_
   refine aw (vi (((k:Nat):Int)+1)) ?_
   refine BU ?_
   refine CI (w0:=B) [(0,(vs i d.length j)),(1,(vs l e.length m)),(4,(vi 0)),(5,(vi (orX d e (k+1)))),(6,(vi (((k+1):Nat):Int)))] ?_ ?_ ?_
   · exact ⟨rfl,rfl,rfl,(cA (Value.int .i64) (show ((orI (orX d e k) (((d.getD k 0)^^^(e.getD k 0)).toNat:Int)):Int)=(orX d e (k+1)) by rfl)),(cA (Value.int .i64) (show ((((k:Nat):Int)+1):Int)=(((k+1):Nat):Int) by omega)),trivial⟩
   · exact fun u=>⟨(k+1),u,rfl,Q,(((Ch.refl (fun k=>f.heap.size≤k) f).ext G (fun k hk=>hk)).extk C),(by omega)⟩
   · show d.length - ((((k+1):Nat):Int)).toNat < d.length - (((k:Nat):Int)).toNat;omega

def Fr (a:List UInt8) (b:List UInt8):(Bool):=bif (decide ((a.length:Int)=16)) then (decide ((Fx a b)=0)) else (false)
theorem NU (e:World) (h:Value) (a:List UInt8) (o:EP e h a) (i:Value) (d:List UInt8) (p:EP e i d) :Fn Tryz.prog 111 #[h,i] e (fun v j=>Keep e j∧O_4 j e.heap.size v (Fr a d)):=by
 obtain ⟨f,g,rfl,k,q⟩:=o
 obtain ⟨l,m,rfl,r,s⟩:=p
 refine Cl (n:=14) [(vs f a.length g),(vs l d.length m)] Tryz.func111 rfl rfl ?_
 refine sr ?_
 refine aw (vb false) ?_
 refine nx ?_
 refine mw (vs f a.length g) ?_
 refine ln wN tD k ?_
 refine pu (vb (decide ((a.length:Int)=16))) wN ?_
 refine mw (vb (decide ((a.length:Int)=16))) ?_
 rcases bf (decide ((a.length:Int)=16)) with b|b
 ·have w:=dF b
  iterate 4 refine sk b ?_
  refine pf (vb false) wN b ?_
  refine aw (vb false) ?_
  refine n3 ?_
  refine rt (vb false) ?_
  refine ⟨Ch.refl _ _,?_⟩
  simp only [Fr,b,cond_true,cond_false]
  exact rfl
 have x:=dT b
 refine mv (vs f a.length g) (wS b) ?_
 refine mv (vs l d.length m) (wS b) ?_
 refine cl (wS b) (RD e _ a (CC k q) _ d (CC r s)) ?_
 rintro _ y ⟨t,rfl⟩
 have u:=(Ch.base e).extk t
 refine pu (vb (decide ((Fx a d)=0))) (wS b) ?_
 refine pk (vb (decide ((Fx a d)=0))) wN b ?_
 refine aw (vb (decide ((Fx a d)=0))) ?_
 refine n3 ?_
 refine rt (vb (decide ((Fx a d)=0))) ?_
 refine ⟨u.keep0,?_⟩
 simp only [Fr,b,cond_true,cond_false]
 exact rfl

theorem NV (f:World) (p:Value) (d:List UInt8) (H:EP f p d) (q:Value) (a:List UInt8) (I:EP f q a) (b:Int) :Fn Tryz.prog 156 #[p,q,(vi b)] f (fun v r=>Keep f r∧GE r f.heap.size v (Gb d a b)):=by
 obtain ⟨l,m,rfl,J,K⟩:=H
 obtain ⟨i,j,rfl,s,ah⟩:=I
 refine Cl (n:=23) [(vs l d.length m),(vs i a.length j),(vi b)] Tryz.func156 rfl rfl ?_
 refine sr ?_
 refine aw (vs none 0 0) ?_
 refine n4 ?_
 refine jT1 [(0,(vs l d.length m)),(1,(vs i a.length j)),(2,(vi b)),(6,(vs none 0 0))] (Gb d a b=[]) ?_ fun t=>?_
 ·intro L M u ai
  refine sr ?_
  refine CR wN rfl rfl tD (fun w=>by kernel_rfl) ?_
  intro x N O P
  have Q:=((Ch.base f).extk u).extk O
  refine aw (vs (some x) 0 0) ?_
  refine n1 ?_
  refine rt (vs (some x) 0 0) ?_
  refine ⟨Q.keep0,?_⟩
  rw [L]
  exact ⟨_,_,rfl,(tB P u.size),(by simp),⟨trivial,trivial⟩⟩
 refine mw (vi b) ?_
 refine cl wN (EA f b 0 6) ?_
 rintro _ M ⟨g,rfl⟩
 have y:=(Ch.base f).extk g
 refine pu (vb (!(Cy b 0 6))) wN ?_
 refine mw (vb (!(Cy b 0 6))) ?_
 rcases bf (Cy b 0 6) with e|e
 ·have aj:=CW e
  iterate 3 refine sk (cA not e) ?_
  refine pk (vb true) wN (cA not e) ?_
  refine n2 ?_
  refine ct (Eq.refl true) ?_
  have R:Gb d a b=[]:=by first|exact Hk (by omega)|exact Hj (by omega) (by omega) (by omega) (by simp [Ci])
  exact wj (t R _ g)
 have ak:=CK e
 refine mv (vs i a.length j) (wS (cA not e)) ?_
 refine ln (wS (cA not e)) tD (s.from0 y) ?_
 refine pu (vb (decide (100 < (a.length:Int)))) (wS (cA not e)) ?_
 refine pf (vb (decide (100 < (a.length:Int)))) wN (cA not e) ?_
 refine n2 ?_
 rcases bt (decide (100 < (a.length:Int))) with h|h
 ·have am:=dT h
  refine ct h ?_
  have S:Gb d a b=[]:=by first|exact Hk (by omega)|exact Hj (by omega) (by omega) (by omega) (by simp [Ci])
  exact wj (t S _ g)
 have an:=dF h
 refine cf h ?_
 refine y1 ?_
 refine mw (vs l d.length m) ?_
 refine ltB ([115]:List UInt8) wN tD ?_
 intro ao ap N o A
 have B:=y.extk o
 refine mw (vs i a.length j) ?_
 refine apB ([115]:List UInt8) a wN tD A (s.from0 B) o.size ?_
 intro aq au T C V av W
 have X:=B.ext C (fun k hk=>nT g.size (Cm A k hk).1)
 refine mw (vi b) ?_
 refine cl wN (Jw T _ (([115]:List UInt8)++a) (CC (Rd.of_own V) W) b 4 (by first|omega|(simp;done)|(simp;omega)|(simp only [List.length_append,List.length_cons,List.length_nil] at *;omega))) ?_
 rintro _ Y ⟨D,⟨ax,ay,rfl,Z,aa,az⟩⟩
 have E:=X.extk D
 have a0:=Fa (([115]:List UInt8)++a) b 4
 refine cl wN (PY Y _ d (CC (J.from0 E) K) _ (Et (([115]:List UInt8)++a) b 4) (CC (Rd.of_own Z) aa)) ?_
 rintro _ a1 ⟨ab,⟨F,G,rfl,ac,ad,a2⟩⟩
 have ae:=E.extk ab
 have a3:=HM d (Et (([115]:List UInt8)++a) b 4)
 refine aw (vs F (Ff d (Et (([115]:List UInt8)++a) b 4)).length G) ?_
 refine n3 ?_
 refine rt (vs F (Ff d (Et (([115]:List UInt8)++a) b 4)).length G) ?_
 refine ⟨ae.keep0,?_⟩
 have af:Gb d a b=(Ff d (Et (([115]:List UInt8)++a) b 4)):=by first|exact Hk (by omega)|exact Hj (by omega) (by omega) (by omega) (by simp [Ci])
 rw [af]
 exact ⟨_,_,rfl,(tB ac (z4 g o C D)),ad,⟨trivial,trivial⟩⟩

theorem Pl (e:World) (L:Value) (b:List UInt8) (ab:EP e L b) (M:Value) (a:List UInt8) (ac:EP e M a) (d:Int) :Fn Tryz.prog 146 #[L,M,(vi d)] e (fun v o=>Keep e o∧GE o e.heap.size v (Co b a d)):=by
 obtain ⟨h,i,rfl,N,ad⟩:=ab
 obtain ⟨j,m,rfl,O,ae⟩:=ac
 refine Cl (n:=41) [(vs h b.length i),(vs j a.length m),(vi d)] Tryz.func146 rfl rfl ?_
 refine sr ?_
 refine aw (vs none 0 0) ?_
 refine n4 ?_
 refine jT1 [(0,(vs h b.length i)),(1,(vs j a.length m)),(2,(vi d)),(6,(vs none 0 0))] (Co b a d=[]) ?_ fun F=>?_
 ·intro af p P a9
  refine sr ?_
  refine CR wN rfl rfl tD (fun w=>by kernel_rfl) ?_
  intro Q A ah ai
  have aj:=((Ch.base e).extk P).extk ah
  refine aw (vs (some Q) 0 0) ?_
  refine n1 ?_
  refine rt (vs (some Q) 0 0) ?_
  refine ⟨aj.keep0,?_⟩
  rw [af]
  exact ⟨_,_,rfl,(tB ai P.size),(by simp),⟨trivial,trivial⟩⟩
 refine mw (vi d) ?_
 refine cl wN (EA e d 0 200) ?_
 rintro _ p ⟨q,rfl⟩
 have G:=(Ch.base e).extk q
 refine pu (vb (!(Cy d 0 200))) wN ?_
 refine mw (vb (!(Cy d 0 200))) ?_
 rcases bf (Cy d 0 200) with f|f
 ·have aA:=CW f
  iterate 3 refine sk (cA not f) ?_
  refine pk (vb true) wN (cA not f) ?_
  refine mw (vb true) ?_
  iterate 3 refine sk (Eq.refl true) ?_
  refine pk (vb true) wN (Eq.refl true) ?_
  refine n2 ?_
  refine ct (Eq.refl true) ?_
  have ak:Co b a d=[]:=by first|exact FG (by omega)|exact Ge (by omega) (by omega) (by omega) (by omega) (by omega) (by omega)
  exact wj (F ak _ q)
 have aB:=CK f
 refine mv (vs j a.length m) (wS (cA not f)) ?_
 refine ln (wS (cA not f)) tD (O.from0 G) ?_
 refine pu (vb (decide (100 < (a.length:Int)))) (wS (cA not f)) ?_
 refine pf (vb (decide (100 < (a.length:Int)))) wN (cA not f) ?_
 refine mw (vb (decide (100 < (a.length:Int)))) ?_
 rcases bt (decide (100 < (a.length:Int))) with g|g
 ·have aC:=dT g
  iterate 3 refine sk g ?_
  refine pk (vb true) wN g ?_
  refine n2 ?_
  refine ct (Eq.refl true) ?_
  have am:Co b a d=[]:=by first|exact FG (by omega)|exact Ge (by omega) (by omega) (by omega) (by omega) (by omega) (by omega)
  exact wj (F am _ q)
 have aD:=dF g
 refine mv (vs h b.length i) (wS g) ?_
 refine ln (wS g) tD (N.from0 G) ?_
 refine pu (vb (decide (1048576 < (b.length:Int)))) (wS g) ?_
 refine pf (vb (decide (1048576 < (b.length:Int)))) wN g ?_
 refine n2 ?_
 rcases bt (decide (1048576 < (b.length:Int))) with t|t
 ·have aE:=dT t
  refine ct t ?_
  have an:Co b a d=[]:=by first|exact FG (by omega)|exact Ge (by omega) (by omega) (by omega) (by omega) (by omega) (by omega)
  exact wj (F an _ q)
 have aF:=dF t
 refine cf t ?_
 refine y1 ?_
 refine CR wN rfl rfl tD (fun w=>by kernel_rfl) ?_
 intro H A I ao
 have ap:=G.extk I
 refine aw (vs (some H) 0 0) ?_
 refine n4 ?_
 refine aw (vi 0) ?_
 refine BU<|re<|Ca ?_
 have R:([]:List UInt8)=ES b a 0:=by rfl
 have S:0=(ES b a 0).length:=by rw [← R];try (first|rfl|simp only [List.length_set]|simp)
 refine CJ [(0,(vs h b.length i)),(1,(vs j a.length m)),(2,(vi d)),(6,(vs none 0 0)),(7,(.slice (some H) (ES b a 0).length 0)),(8,(vi ((0:Nat):Int)))] ⟨rfl,rfl,rfl,rfl,rfl,(cA (Value.int .i64) (show (0:Int)=((0:Nat):Int) by omega)),trivial⟩ (fun e' o=>∃ (k:Nat) (T:Env) (r:Option Addr) (s:Nat),e'=pt T [(0,(vs h b.length i)),(1,(vs j a.length m)),(2,(vi d)),(6,(vs none 0 0)),(7,(.slice r (ES b a k).length s)),(8,(vi ((k:Nat):Int)))]∧Ch (fun k=>e.heap.size≤k) e o∧Ch (fun k=>p.heap.size≤k) A o∧32*((k:Nat):Int) < d+32∧(World.ownsRow o p.heap.size 5 1 (.slice r (ES b a k).length s) (ES b a k).length ((ES b a k).map bV)∧(ES b a k).length≤1073741824)) (fun e' _=>d.toNat - (lenOf (e' 7))) ?_ ?_
 ·exact fun u=>⟨0,u,(some H),0,rfl,ap,(Ch.refl (fun k=>p.heap.size≤k) A),(by omega),⟨(by rw [← S,← R];exact ao),(by rw [← S];first|exact (by simp)|(simp only [List.length_append,List.length_take,List.length_replicate];omega))⟩⟩
 ·rintro _ V ⟨k,T,r,s,rfl,B,J,aG,⟨x,aq⟩⟩
  have hsl:=JK (key:=b) (head:=a) (by omega) (by omega) k
  have hsm:=JK (key:=b) (head:=a) (by omega) (by omega) (k+1)
  refine Cc<|sr ?_
  refine mw (vs r (ES b a k).length s) ?_
  refine ln wN tD (Rd.of_own x) ?_
  refine mw (vi d) ?_
  refine pu (vb (decide (((ES b a k).length:Int) < d))) wN ?_
  refine n2 ?_
  rcases bt (decide (((ES b a k).length:Int) < d)) with y|y
  ·have aH:=dT y
   refine ct y ?_
   refine Ct<|re<|Cc<|Ca<|BZ ?_
   refine mw (vs r (ES b a k).length s) ?_
   refine mw (vs h b.length i) ?_
   refine mw (vs j a.length m) ?_
   refine mw (vi ((k:Nat):Int)) ?_
   refine cl wN (NV V _ b (CC (N.from0 B) ad) _ a (CC (O.from0 B) ae) ((k:Nat):Int)) ?_
   rintro _ au ⟨C,⟨aI,aJ,rfl,av,_⟩⟩
   have aK:=IP b a ((k:Nat):Int)
   have ax:=(gc x C)
   refine apB (ES b a k) (Gb b a ((k:Nat):Int)) wN tD ax (Rd.of_own av) (z3 I J C) ?_
   intro D E ay W az aL a0
   have a1:=(B.extk C).ext W (fun k hk=>nT q.size (Cm x k hk).1)
   refine aw (vs D ((ES b a k)++(Gb b a ((k:Nat):Int))).length E) ?_
   refine BU<|BS<|re<|BZ ?_
   refine mw (vi ((k:Nat):Int)) ?_
   refine ar (((k:Nat):Int)+1) wN ?_
   refine aw (vi (((k:Nat):Int)+1)) ?_
   refine BU ?_
   have X:(((ES b a k)++(Gb b a ((k:Nat):Int))):List UInt8)=ES b a (k+1):=by rfl
   refine CI (w0:=V) [(0,(vs h b.length i)),(1,(vs j a.length m)),(2,(vi d)),(6,(vs none 0 0)),(7,(.slice D (ES b a (k+1)).length E)),(8,(vi (((k+1):Nat):Int)))] ?_ ?_ ?_
   · exact ⟨rfl,rfl,rfl,rfl,(cA (fun l:List UInt8=>Value.slice D l.length E) X),(cA (Value.int .i64) (show ((((k:Nat):Int)+1):Int)=(((k+1):Nat):Int) by omega)),trivial⟩
   · exact fun u=>⟨(k+1),u,D,E,rfl,a1,((((Ch.refl (fun k=>p.heap.size≤k) A).ext J (fun k hk=>hk)).extk C).ext W (fun k hk=>nT (Nat.le_refl p.heap.size) (Cm x k hk).1)),(by omega),(X ▸ ⟨az,a0⟩)⟩
   · show d.toNat - (ES b a (k+1)).length < d.toNat - (ES b a k).length;omega
  have aM:=dF y
  refine cf y ?_
  refine CS<|wb<|wb<|Ce<|re<|sr ?_
  refine CR wN rfl rfl tD (fun w=>by kernel_rfl) ?_
  intro aN au K a2
  refine mw (vs r (ES b a k).length s) ?_
  refine mw (vi d) ?_
  have Y:=(gc x K)
  refine slv ((ES b a k).take ((d).toNat)) 0 ((d).toNat) wN tD (Rd.of_own Y) (by first|omega|(simp <;> omega)) (by first|omega|(simp <;> omega)) (by first|rfl|(simp;done)|(rw [List.take_of_length_le (by first|(simp;done)|(simp;omega))])) rfl rfl rfl rfl (.inl ⟨rfl,rfl⟩) (.inr ⟨_,_,_,rfl,rfl,by omega⟩) ?_
  have a3:0≤((d).toNat):=(by first|omega|(simp <;> omega))
  have a4:((d).toNat)≤(ES b a k).length:=(by first|omega|(simp <;> omega))
  refine ap0 ((ES b a k).take ((d).toNat)) wN tD a2 (Rd.subV (x':=((ES b a k).take ((d).toNat))) (Rd.of_own Y) a3 a4 (by first|rfl|(simp;done)|(rw [List.take_of_length_le (by first|(simp;done)|(simp;omega))]))) K.size ?_
  intro Z aa ay a5 a6 aO
  have a7:=(B.extk K).extk a5
  refine aw (vs Z ((ES b a k).take ((d).toNat)).length aa) ?_
  refine n3 ?_
  refine rt (vs Z ((ES b a k).take ((d).toNat)).length aa) ?_
  refine ⟨a7.keep0,?_⟩
  have a8:Co b a d=((ES b a k).take ((d).toNat)):=by first|exact FG (by omega)|exact Ge (by omega) (by omega) (by omega) (by omega) (by omega) (by omega)
  rw [a8]
  exact ⟨_,_,rfl,(tB a6 (z3 q I J)),(nT (by simp only [List.length_take,List.length_drop];omega) aq),⟨trivial,trivial⟩⟩

theorem Sp (f:World) (ac:Value) (d:List UInt8) (az:EP f ac d) (ad:Value) (b:List UInt8) (a0:EP f ad b) (ae:Value) (a:List UInt8) (a1:EP f ae a) :Fn Tryz.prog 113 #[ac,ad,ae] f (fun v q=>Keep f q∧GE q f.heap.size v (HX d b a)):=by
 obtain ⟨A,J,rfl,af,a2⟩:=az
 obtain ⟨K,L,rfl,ah,a3⟩:=a0
 obtain ⟨i,j,rfl,E,be⟩:=a1
 refine Cl (n:=49) [(vs A d.length J),(vs K b.length L),(vs i a.length j)] Tryz.func113 rfl rfl ?_
 refine sr ?_
 refine aw (vs none 0 0) ?_
 refine nx ?_
 refine CR wN rfl rfl tD (fun w=>by kernel_rfl) ?_
 intro D M ai T
 have B:=(Ch.base f).extk ai
 refine aw (vs (some D) 0 0) ?_
 refine n4 ?_
 refine jT1 [(0,(vs A d.length J)),(1,(vs K b.length L)),(2,(vs i a.length j)),(6,(vs none 0 0)),(7,(vs (some D) 0 0))] (HX d b a=[]) ?_ fun V=>?_
 ·intro a4 N aj bg
  have a5:=B.extk aj
  refine sr ?_
  refine mw (vs (some D) 0 0) ?_
  refine aw (vs (some D) 0 0) ?_
  refine n1 ?_
  have a6:=(gc T aj)
  refine rt (vs (some D) 0 0) ?_
  refine ⟨a5.keep0,?_⟩
  rw [a4]
  exact ⟨_,_,rfl,a6,(by simp),⟨trivial,trivial⟩⟩
 refine mw (vs i a.length j) ?_
 refine ln wN tD (E.from0 B) ?_
 refine pu (vb (decide (200 < (a.length:Int)))) wN ?_
 refine mw (vb (decide (200 < (a.length:Int)))) ?_
 rcases bt (decide (200 < (a.length:Int))) with r|r
 ·have bh:=dT r
  iterate 3 refine sk r ?_
  refine pk (vb true) wN r ?_
  refine mw (vb true) ?_
  iterate 3 refine sk (Eq.refl true) ?_
  refine pk (vb true) wN (Eq.refl true) ?_
  refine n2 ?_
  refine ct (Eq.refl true) ?_
  have a7:HX d b a=[]:=by first|exact Hs (by omega)|exact HV (by omega) (by omega) (by omega) (by omega)
  exact wj (V a7 _ (Ch.refl _ _))
 have bi:=dF r
 refine mv (vs K b.length L) (wS r) ?_
 refine ln (wS r) tD (ah.from0 B) ?_
 refine pu (vb (decide (100 < (b.length:Int)))) (wS r) ?_
 refine pf (vb (decide (100 < (b.length:Int)))) wN r ?_
 refine mw (vb (decide (100 < (b.length:Int)))) ?_
 rcases bt (decide (100 < (b.length:Int))) with s|s
 ·have bj:=dT s
  iterate 3 refine sk s ?_
  refine pk (vb true) wN s ?_
  refine n2 ?_
  refine ct (Eq.refl true) ?_
  have a8:HX d b a=[]:=by first|exact Hs (by omega)|exact HV (by omega) (by omega) (by omega) (by omega)
  exact wj (V a8 _ (Ch.refl _ _))
 have bk:=dF s
 refine mv (vs A d.length J) (wS s) ?_
 refine ln (wS s) tD (af.from0 B) ?_
 refine pu (vb (decide (1048576 < (d.length:Int)))) (wS s) ?_
 refine pf (vb (decide (1048576 < (d.length:Int)))) wN s ?_
 refine n2 ?_
 rcases bt (decide (1048576 < (d.length:Int))) with F|F
 ·have bl:=dT F
  refine ct F ?_
  have a9:HX d b a=[]:=by first|exact Hs (by omega)|exact HV (by omega) (by omega) (by omega) (by omega)
  exact wj (V a9 _ (Ch.refl _ _))
 have bm:=dF F
 refine cf F ?_
 refine y1 ?_
 refine mw (vs A d.length J) ?_
 refine mw (vs K b.length L) ?_
 refine mw (vs i a.length j) ?_
 refine ln wN tD (E.from0 B) ?_
 refine cl wN (Pl M _ d (CC (af.from0 B) a2) _ b (CC (ah.from0 B) a3) (a.length:Int)) ?_
 rintro _ N ⟨W,⟨O,P,rfl,ak,aA,bn⟩⟩
 have aB:=B.extk W
 have bo:=FM d b (a.length:Int)
 refine aw (vs O (Co d b (a.length:Int)).length P) ?_
 refine n4 ?_
 refine aw (vi 0) ?_
 refine BU<|re<|Ca ?_
 have aC:=(gc T W)
 have am:([]:List UInt8)=FL (a.take 0) ((Co d b (a.length:Int)).take 0):=by rfl
 have an:0=(FL (a.take 0) ((Co d b (a.length:Int)).take 0)).length:=by rw [← am];try (first|rfl|simp only [List.length_set]|simp)
 have ao:((Co d b (a.length:Int)):List UInt8)=(Co d b (a.length:Int)):=by rfl
 refine CJ [(2,(vs i a.length j)),(6,(vs none 0 0)),(7,(.slice (some D) (FL (a.take 0) ((Co d b (a.length:Int)).take 0)).length 0)),(8,(.slice O ((Co d b (a.length:Int))).length P)),(9,(vi ((0:Nat):Int)))] ⟨rfl,rfl,rfl,(cA (fun l:List UInt8=>Value.slice O l.length P) ao),(cA (Value.int .i64) (show (0:Int)=((0:Nat):Int) by omega)),trivial⟩ (fun e' q=>∃ (k:Nat) (ap:Env) (t:Option Addr) (C:Nat) (p:Option Addr) (y:Nat),e'=pt ap [(2,(vs i a.length j)),(6,(vs none 0 0)),(7,(.slice t (FL (a.take k) ((Co d b (a.length:Int)).take k)).length C)),(8,(.slice p ((Co d b (a.length:Int))).length y)),(9,(vi ((k:Nat):Int)))]∧Ch (fun k=>f.heap.size≤k) f q∧Ch (fun k=>f.heap.size≤k) N q∧k≤a.length∧(World.ownsRow q f.heap.size 5 1 (.slice t (FL (a.take k) ((Co d b (a.length:Int)).take k)).length C) (FL (a.take k) ((Co d b (a.length:Int)).take k)).length ((FL (a.take k) ((Co d b (a.length:Int)).take k)).map bV)∧(FL (a.take k) ((Co d b (a.length:Int)).take k)).length≤1073741824)∧(World.ownsRow q M.heap.size 5 1 (.slice p ((Co d b (a.length:Int))).length y) ((Co d b (a.length:Int))).length (((Co d b (a.length:Int))).map bV)∧((Co d b (a.length:Int))).length≤1073741824)∧NeS t p) (fun e' _=>a.length - ((intOf (e' 9))).toNat) ?_ ?_
 ·exact fun u=>⟨0,u,(some D),0,O,P,rfl,aB,(Ch.refl (fun k=>f.heap.size≤k) N),(by omega),⟨(by rw [← an,← am];exact aC),(by rw [← an];first|exact (by simp)|(simp only [List.length_append,List.length_take,List.length_replicate];omega))⟩,(ao ▸ ⟨ak,aA⟩),(NeS.lt T ak (Nat.le_refl M.heap.size))⟩
 ·rintro _ X ⟨k,ap,t,C,p,y,rfl,G,aq,bp,⟨Q,aD⟩,⟨Y,aE⟩,au⟩
  have hzl:=Nd a (Co d b (a.length:Int)) k
  have hsl:=FM d b (a.length:Int)
  refine Cc<|sr ?_
  refine mw (vi ((k:Nat):Int)) ?_
  refine mw (vs i a.length j) ?_
  refine ln wN tD (E.from0 G) ?_
  refine pu (vb (decide (((k:Nat):Int) < (a.length:Int)))) wN ?_
  refine n2 ?_
  rcases bf (decide (((k:Nat):Int) < (a.length:Int))) with H|H
  ·have bq:=dF H
   refine cf H ?_
   refine CS<|wb<|wb<|Ce<|re<|sr ?_
   refine mw (vs t (FL (a.take k) ((Co d b (a.length:Int)).take k)).length C) ?_
   refine aw (vs t (FL (a.take k) ((Co d b (a.length:Int)).take k)).length C) ?_
   refine n3 ?_
   refine rt (vs t (FL (a.take k) ((Co d b (a.length:Int)).take k)).length C) ?_
   refine ⟨G.keep0,?_⟩
   have aF:HX d b a=(FL (a.take k) ((Co d b (a.length:Int)).take k)):=by first|exact Hs (by omega)|exact HV (by omega) (by omega) (by omega) (by omega)
   rw [aF]
   exact ⟨_,_,rfl,Q,aD,⟨trivial,trivial⟩⟩
  have br:=dT H
  refine ct H ?_
  refine Ct<|re<|Cc<|Ca ?_
  refine CU ([(36,[],[],(fun _ v _=>v=(vs t (FL (a.take k) ((Co d b (a.length:Int)).take k)).length C))),(37,[],[],(fun _ v _=>v=(vs i a.length j))),(38,[],[],(fun _ v _=>v=(vi ((k:Nat):Int)))),(39,[],[1,2],(fun _ v _=>v=(ve (vs i a.length j) ((((k:Nat):Int)).toNat*1)))),(40,[],[1,2,3],(fun _ v _=>v=(v8 ((a.getD k 0).toNat:Int)))),(41,[],[],(fun _ v _=>v=(vs p ((Co d b (a.length:Int))).length y))),(42,[],[],(fun _ v _=>v=(vi ((k:Nat):Int)))),(43,[],[5,6],(fun _ v _=>v=(ve (vs p ((Co d b (a.length:Int))).length y) ((((k:Nat):Int)).toNat*1)))),(44,[],[5,6,7],(fun _ v _=>v=(v8 (((Co d b (a.length:Int)).getD k 0).toNat:Int)))),(45,[],[1,2,3,4,5,6,7,8],(fun _ v _=>v=(v8 (((a.getD k 0)^^^((Co d b (a.length:Int)).getD k 0)).toNat:Int)))),(46,[],[1,2,3,4,5,6,7,8,9],(fun _ v w=>∃ (A:Option Addr) (Z:Nat),v=.slice A ([((a.getD k 0)^^^((Co d b (a.length:Int)).getD k 0))]:List UInt8).length Z∧w.ownsRow X.heap.size 5 1 (.slice A ([((a.getD k 0)^^^((Co d b (a.length:Int)).getD k 0))]:List UInt8).length Z) ([((a.getD k 0)^^^((Co d b (a.length:Int)).getD k 0))]:List UInt8).length (([((a.getD k 0)^^^((Co d b (a.length:Int)).getD k 0))]:List UInt8).map bV)∧([((a.getD k 0)^^^((Co d b (a.length:Int)).getD k 0))]:List UInt8).length≤1073741824∧Aps [(A,Z)]))]:GV) (fun _ q=>Keep X q) [] DN rfl (by kernel_rfl) (by kernel_rfl) ?_ (fun _ _ h=>h) (fun _ _ _ _ h _ k=>h.trans k) trivial ?_ ?_ ?_
  ·exact ⟨hV,hE,⟨hV,hE,⟨hV,hE,⟨hV,hE,⟨hV,hE,⟨hV,hE,⟨hV,hE,⟨hV,hE,⟨hV,hE,⟨hV,hE,⟨(fun e v w M h hk=>by obtain ⟨aG,aH,he,aI,aJ,hap⟩:=h;exact ⟨aG,aH,he,gc aI hk,aJ,hap⟩),hE,trivial⟩⟩⟩⟩⟩⟩⟩⟩⟩⟩⟩
  ·exact trivial
  ·refine ⟨?_,⟨?_,⟨?_,⟨?_,⟨?_,⟨?_,⟨?_,⟨?_,⟨?_,⟨?_,⟨?_,trivial⟩⟩⟩⟩⟩⟩⟩⟩⟩⟩⟩
   ·intro _ o bu _
    rintro _ _ _ _ _ _ _ _ _ _ _
    refine sw ?_
    refine mw (vs t (FL (a.take k) ((Co d b (a.length:Int)).take k)).length C) ?_
    exact f1
   ·intro _ o bv _
    rintro _ _ _ _ _ _ _ _ _ _ _
    refine sw ?_
    refine mw (vs i a.length j) ?_
    exact f1
   ·intro _ o bw _
    rintro _ _ _ _ _ _ _ _ _ _ _
    refine sw ?_
    refine mw (vi ((k:Nat):Int)) ?_
    exact f1
   ·intro _ o aK _
    have aL:=G.extk aK
    rintro _ _ rfl _ rfl _ _ _ _ _ _ _ _
    refine sw ?_
    refine ix wN ((k:Nat):Int) tD (E.from0 aL) ?_
    exact f1
   ·intro _ o aM _
    have aN:=G.extk aM
    rintro _ _ rfl _ rfl _ rfl _ _ _ _ _ _ _
    refine sw ?_
    refine eb (x:=a) k wN EF (E.from0 aN) ?_
    exact f1
   ·intro _ o bz _
    rintro _ _ _ _ _ _ _ _ _ _ _
    refine sw ?_
    refine mw (vs p ((Co d b (a.length:Int))).length y) ?_
    exact f1
   ·intro _ o b0 _
    rintro _ _ _ _ _ _ _ _ _ _ _
    refine sw ?_
    refine mw (vi ((k:Nat):Int)) ?_
    exact f1
   ·intro _ o aO _
    rintro _ _ _ _ _ _ rfl _ rfl _ _ _ _
    refine sw ?_
    have aP:=(gc Y aO)
    refine ix wN ((k:Nat):Int) tD (Rd.of_own aP) ?_
    exact f1
   ·intro _ o aQ _
    rintro _ _ _ _ _ _ rfl _ rfl _ rfl _ _ _
    refine sw ?_
    have aR:=(gc Y aQ)
    refine eb (x:=(Co d b (a.length:Int))) k wN EF (Rd.of_own aR) ?_
    exact f1
   ·intro _ o b1 _
    rintro _ _ rfl _ rfl _ rfl _ rfl _ rfl _ rfl _ rfl _ rfl _ _
    refine sw ?_
    refine He (a.getD k 0) ((Co d b (a.length:Int)).getD k 0) wN rfl rfl (by kernel_rfl) ?_
    exact f1
   ·intro _ o aS _
    rintro _ _ rfl _ rfl _ rfl _ rfl _ rfl _ rfl _ rfl _ rfl _ rfl _
    refine sw ?_
    refine ltB ([((a.getD k 0)^^^((Co d b (a.length:Int)).getD k 0))]:List UInt8) wN tD ?_
    intro b2 b3 aT aU aV
    exact CN aU ⟨_,_,rfl,(tB aV aS.size),(by simp),⟨trivial,trivial⟩⟩
  ·intro _ o I
   rintro _ rfl _ rfl _ rfl _ rfl _ rfl _ rfl _ rfl _ rfl _ rfl _ rfl _ ⟨b4,b5,rfl,aW,b6,-⟩
   refine sw ?_
   have aX:=(gc Q I)
   refine apB (FL (a.take k) ((Co d b (a.length:Int)).take k)) ([((a.getD k 0)^^^((Co d b (a.length:Int)).getD k 0))]:List UInt8) wN tD aX (Rd.of_own aW) (z4 ai W aq I) ?_
   intro R S aT aa aY aZ ba
   have bb:=(G.extk I).ext aa (fun k hk=>nT (Nat.le_refl f.heap.size) (Cm Q k hk).1)
   have av:=(gc Y I)
   have bc:=NeS.app au aZ av
   refine aw (vs R ((FL (a.take k) ((Co d b (a.length:Int)).take k))++([((a.getD k 0)^^^((Co d b (a.length:Int)).getD k 0))]:List UInt8)).length S) ?_
   refine BU<|BS<|re<|BZ ?_
   refine mw (vi ((k:Nat):Int)) ?_
   refine ar (((k:Nat):Int)+1) wN ?_
   refine aw (vi (((k:Nat):Int)+1)) ?_
   refine BU ?_
   have ax:(((FL (a.take k) ((Co d b (a.length:Int)).take k))++([((a.getD k 0)^^^((Co d b (a.length:Int)).getD k 0))]:List UInt8)):List UInt8)=FL (a.take (k+1)) ((Co d b (a.length:Int)).take (k+1)):=by exact Kn (by omega) (by omega)
   have bd:=(tC av aa (fun g hg hlt hk=>NeS.no (NeS.symm au) hg hk))
   have ay:((Co d b (a.length:Int)):List UInt8)=(Co d b (a.length:Int)):=by rfl
   have ab:((Co d b (a.length:Int))).length=((Co d b (a.length:Int))).length:=by rw [← ay];try (first|rfl|simp only [List.length_set]|simp)
   refine CI (w0:=X) [(2,(vs i a.length j)),(6,(vs none 0 0)),(7,(.slice R (FL (a.take (k+1)) ((Co d b (a.length:Int)).take (k+1))).length S)),(8,(.slice p ((Co d b (a.length:Int))).length y)),(9,(vi (((k+1):Nat):Int)))] ?_ ?_ ?_
   · exact ⟨rfl,rfl,(cA (fun l:List UInt8=>Value.slice R l.length S) ax),(cA (fun m:Nat=>Value.slice p m y) ab),(cA (Value.int .i64) (show ((((k:Nat):Int)+1):Int)=(((k+1):Nat):Int) by omega)),trivial⟩
   · exact fun u=>⟨(k+1),u,R,S,p,y,rfl,bb,((((Ch.refl (fun k=>f.heap.size≤k) N).ext aq (fun k hk=>hk)).extk I).ext aa (fun k hk=>nT (Nat.le_refl f.heap.size) (Cm Q k hk).1)),(by omega),(ax ▸ ⟨aY,ba⟩),⟨(by rw [← ab,← ay];exact bd),(by rw [← ab];first|exact aE|(simp only [List.length_append,List.length_take,List.length_replicate];omega))⟩,bc⟩
   · show a.length - ((((k+1):Nat):Int)).toNat < a.length - (((k:Nat):Int)).toNat;omega

def OA (w:World) (lo:Nat) (v:Value) (x:(List UInt8)×(Bool)):Prop:=∃ (a:Option Addr) (b:Nat),v=.tuple #[.slice a x.1.length b,.bool x.2]∧w.ownsRow lo 5 1 (.slice a x.1.length b) x.1.length (x.1.map bV)∧x.1.length≤1073741824∧Aps [(a,b)]
def DF (b:List UInt8) (d:Int) (a:PFrame):(List UInt8)×(Bool):=bif (decide ((b.length:Int)=32)) then (bif (decide (((Cp d a).length:Int)=0)) then (([],false)) else (bif (Fr a.Tag (Iv b (Cp d a))) then (((HX b (CY d a.Sn a.Epoch a.Seq) a.Body),true)) else (([],false)))) else (([],false))
theorem Pk (A:World) (ad:Value) (f:List UInt8) (a2:EP A ad f) (d:Int) (ae:Value) (a:PFrame) (a3:JC A ae a) :Fn Tryz.prog 74 #[ad,(vi d),ae] A (fun v o=>Keep A o∧OA o A.heap.size v (DF f d a)):=by
 obtain ⟨l,m,rfl,C,af⟩:=a2
 obtain ⟨N,O,D,E,P,Q,R,S,F,G,H,I,rfl,a4,a5,ah,ai,a6,a7,a8,a9,aj,ak,am,an⟩:=a3
 refine Cl (n:=42) [(vs l f.length m),(vi d),(va (EB a N O D E P Q R S F G H I))] Tryz.func74 rfl rfl ?_
 refine sr ?_
 refine bx (EB a N O D E P Q R S F G H I) wN ?_
 intro p T b3 b4 J B
 have r:=(Ch.base A).extk J
 refine aw (vs none 0 0) ?_
 refine aw (vb false) ?_
 refine nx ?_
 refine mw (vi d) ?_
 refine lN (EB a N O D E P Q R S F G H I) wN Dn CV B ?_
 refine cl wN (Jv T d _ a (FC (a4.from0 r) a5 (ah.from0 r) ai (a6.from0 r) a7 (a8.from0 r) a9 (aj.from0 r) ak (am.from0 r) an)) ?_
 rintro _ M ⟨q,⟨s,t,rfl,V,aA,b5⟩⟩
 have u:=r.extk q
 refine aw (vs s (Cp d a).length t) ?_
 refine BU<|re<|Cc<|Cc ?_
 rcases bf (decide ((f.length:Int)=32)) with i|i
 ·have b6:=dF i
  refine CU ([(12,[],[],(fun _ v _=>v=(vs l f.length m))),(13,[],[0],(fun _ v _=>v=(vi (f.length:Int)))),(14,[],[0,1],(fun _ v _=>v=(vb (!(decide ((f.length:Int)=32)))))),(15,[],[0,1,2],(fun _ v _=>v=(vb (!(decide ((f.length:Int)=32)))))),(16,[],[0,1,2,3],(fun _ v _=>v=U)),(17,[],[0,1,2,3,4],(fun _ v _=>v=U)),(18,[],[0,1,2,3,4,5],(fun _ v _=>v=U)),(19,[],[0,1,2,3,4,5,6],(fun _ v _=>v=(vb true))),(20,[],[0,1,2,3,4,5,6,7],(fun _ v _=>v=(vb true))),(21,[],[0,1,2,3,4,5,6,7,8],(fun _ v _=>v=U)),(22,[],[0,1,2,3,4,5,6,7,8,9],(fun _ v _=>v=U)),(23,[],[0,1,2,3,4,5,6,7,8],(fun _ v _=>v=U)),(24,[],[0,1,2,3,4,5,6,7,8],(fun _ v _=>v=U)),(25,[],[0,1,2,3,4,5,6,7,8,11,12],(fun _ v _=>v=U))]:GV) (fun _ o=>Keep M o) [] DN rfl (by kernel_rfl) (by kernel_rfl) ?_ (fun _ _ h=>h) (fun _ _ _ _ h _ k=>h.trans k) trivial ?_ ?_ ?_
  ·exact ⟨hV,hE,⟨hV,hE,⟨hV,hE,⟨hV,hE,⟨hV,hE,⟨hV,hE,⟨hV,hE,⟨hV,hE,⟨hV,hE,⟨hV,hE,⟨hV,hE,⟨hV,hE,⟨hV,hE,⟨hV,hE,trivial⟩⟩⟩⟩⟩⟩⟩⟩⟩⟩⟩⟩⟩⟩
  ·exact trivial
  ·refine ⟨?_,⟨?_,⟨?_,⟨?_,⟨?_,⟨?_,⟨?_,⟨?_,⟨?_,⟨?_,⟨?_,⟨?_,⟨?_,⟨?_,trivial⟩⟩⟩⟩⟩⟩⟩⟩⟩⟩⟩⟩⟩⟩
   ·intro _ b b7 _
    rintro _ _ _ _ _ _ _ _ _ _ _ _ _ _
    refine sw ?_
    refine mw (vs l f.length m) ?_
    exact f1
   ·intro _ b aB _
    have aC:=u.extk aB
    rintro _ rfl _ _ _ _ _ _ _ _ _ _ _ _ _
    refine sw ?_
    refine ln wN tD (C.from0 aC) ?_
    exact f1
   ·intro _ b b8 _
    rintro _ rfl _ rfl _ _ _ _ _ _ _ _ _ _ _ _
    refine sw ?_
    refine pu (vb (!(decide ((f.length:Int)=32)))) wN ?_
    exact f1
   ·intro _ b b9 _
    rintro _ rfl _ rfl _ rfl _ _ _ _ _ _ _ _ _ _ _
    refine sw ?_
    refine mw (vb (!(decide ((f.length:Int)=32)))) ?_
    exact f1
   ·intro _ b bA _
    rintro _ rfl _ rfl _ rfl _ rfl _ _ _ _ _ _ _ _ _ _
    refine sw ?_
    refine sk (cA not i) ?_
    exact f1
   ·intro _ b bB _
    rintro _ rfl _ rfl _ rfl _ rfl _ rfl _ _ _ _ _ _ _ _ _
    refine sw ?_
    refine sk (cA not i) ?_
    exact f1
   ·intro _ b bC _
    rintro _ rfl _ rfl _ rfl _ rfl _ rfl _ rfl _ _ _ _ _ _ _ _
    refine sw ?_
    refine sk (cA not i) ?_
    exact f1
   ·intro _ b bD _
    rintro _ rfl _ rfl _ rfl _ rfl _ rfl _ rfl _ rfl _ _ _ _ _ _ _
    refine sw ?_
    refine pk (vb true) wN (cA not i) ?_
    exact f1
   ·intro _ b bE _
    rintro _ rfl _ rfl _ rfl _ rfl _ rfl _ rfl _ rfl _ rfl _ _ _ _ _ _
    refine sw ?_
    refine mw (vb true) ?_
    exact f1
   ·intro _ b bF _
    rintro _ rfl _ rfl _ rfl _ rfl _ rfl _ rfl _ rfl _ rfl _ rfl _ _ _ _ _
    refine sw ?_
    refine sk T1 ?_
    exact f1
   ·intro _ b bG _
    rintro _ rfl _ rfl _ rfl _ rfl _ rfl _ rfl _ rfl _ rfl _ rfl _ rfl _ _ _ _
    refine sw ?_
    refine sk T1 ?_
    exact f1
   ·intro _ b bH _
    rintro _ rfl _ rfl _ rfl _ rfl _ rfl _ rfl _ rfl _ rfl _ rfl _ _ _ _ _
    refine sw ?_
    refine sk T1 ?_
    exact f1
   ·intro _ b bI _
    rintro _ rfl _ rfl _ rfl _ rfl _ rfl _ rfl _ rfl _ rfl _ rfl _ _ _ _ _
    refine sw ?_
    refine sk T1 ?_
    exact f1
   ·intro _ b bJ _
    rintro _ rfl _ rfl _ rfl _ rfl _ rfl _ rfl _ rfl _ rfl _ rfl _ _ _ rfl _ rfl _
    refine sw ?_
    refine sk T1 ?_
    exact f1
  ·intro _ b ao
   rintro _ rfl _ rfl _ rfl _ rfl _ rfl _ rfl _ rfl _ rfl _ rfl _ rfl _ rfl _ rfl _ rfl _ rfl
   refine sw ?_
   iterate 2 refine sk (Eq.refl true) ?_
   refine pk (vb true) wN (Eq.refl true) ?_
   refine n2 ?_
   refine ct (Eq.refl true) ?_
   refine sr ?_
   refine CR wN rfl rfl tD (fun w=>by kernel_rfl) ?_
   intro ap K aD aE
   have aF:=(u.extk ao).extk aD
   refine aw (vs (some ap) 0 0) ?_
   refine aw (vb false) ?_
   refine n1 ?_
   refine GF (.inl rfl) (vs (some ap) 0 0) (vb false) rfl rfl rfl ?_
   refine ⟨aF.keep0,?_⟩
   simp only [DF,i,cond_true,cond_false]
   exact ⟨_,_,rfl,(tB aE (z3 J q ao)),(by simp),⟨trivial,trivial⟩⟩
 have bK:=dT i
 rcases bt (decide (((Cp d a).length:Int)=0)) with g|g
 ·have bL:=dT g
  refine CU ([(12,[],[],(fun _ v _=>v=(vs l f.length m))),(13,[],[0],(fun _ v _=>v=(vi (f.length:Int)))),(14,[],[0,1],(fun _ v _=>v=(vb (!(decide ((f.length:Int)=32)))))),(15,[],[0,1,2],(fun _ v _=>v=(vb (!(decide ((f.length:Int)=32)))))),(16,[],[0,1,2,3],(fun _ v _=>v=(vs s (Cp d a).length t))),(17,[],[0,1,2,3,4],(fun _ v _=>v=(vi ((Cp d a).length:Int)))),(18,[],[0,1,2,3,4,5],(fun _ v _=>v=(vb (decide (((Cp d a).length:Int)=0))))),(19,[],[0,1,2,3,4,5,6],(fun _ v _=>v=(vb (decide (((Cp d a).length:Int)=0))))),(20,[],[0,1,2,3,4,5,6,7],(fun _ v _=>v=(vb (decide (((Cp d a).length:Int)=0))))),(21,[],[0,1,2,3,4,5,6,7,8],(fun _ v _=>v=U)),(22,[],[0,1,2,3,4,5,6,7,8,9],(fun _ v _=>v=U)),(23,[],[0,1,2,3,4,5,6,7,8],(fun _ v _=>v=U)),(24,[],[0,1,2,3,4,5,6,7,8],(fun _ v _=>v=U)),(25,[],[0,1,2,3,4,5,6,7,8,11,12],(fun _ v _=>v=U))]:GV) (fun _ o=>Keep M o) [] DN rfl (by kernel_rfl) (by kernel_rfl) ?_ (fun _ _ h=>h) (fun _ _ _ _ h _ k=>h.trans k) trivial ?_ ?_ ?_
  ·exact ⟨hV,hE,⟨hV,hE,⟨hV,hE,⟨hV,hE,⟨hV,hE,⟨hV,hE,⟨hV,hE,⟨hV,hE,⟨hV,hE,⟨hV,hE,⟨hV,hE,⟨hV,hE,⟨hV,hE,⟨hV,hE,trivial⟩⟩⟩⟩⟩⟩⟩⟩⟩⟩⟩⟩⟩⟩
  ·exact trivial
  ·refine ⟨?_,⟨?_,⟨?_,⟨?_,⟨?_,⟨?_,⟨?_,⟨?_,⟨?_,⟨?_,⟨?_,⟨?_,⟨?_,⟨?_,trivial⟩⟩⟩⟩⟩⟩⟩⟩⟩⟩⟩⟩⟩⟩
   ·intro _ b bM _
    rintro _ _ _ _ _ _ _ _ _ _ _ _ _ _
    refine sw ?_
    refine mw (vs l f.length m) ?_
    exact f1
   ·intro _ b aG _
    have aH:=u.extk aG
    rintro _ rfl _ _ _ _ _ _ _ _ _ _ _ _ _
    refine sw ?_
    refine ln wN tD (C.from0 aH) ?_
    exact f1
   ·intro _ b bN _
    rintro _ rfl _ rfl _ _ _ _ _ _ _ _ _ _ _ _
    refine sw ?_
    refine pu (vb (!(decide ((f.length:Int)=32)))) wN ?_
    exact f1
   ·intro _ b bO _
    rintro _ rfl _ rfl _ rfl _ _ _ _ _ _ _ _ _ _ _
    refine sw ?_
    refine mw (vb (!(decide ((f.length:Int)=32)))) ?_
    exact f1
   ·intro _ b bP _
    rintro _ rfl _ rfl _ rfl _ rfl _ _ _ _ _ _ _ _ _ _
    refine sw ?_
    refine mv (vs s (Cp d a).length t) (wS (cA not i)) ?_
    exact f1
   ·intro _ b aI _
    rintro _ rfl _ rfl _ rfl _ rfl _ rfl _ _ _ _ _ _ _ _ _
    refine sw ?_
    have aJ:=(gc V aI)
    refine ln (wS (cA not i)) tD (Rd.of_own aJ) ?_
    exact f1
   ·intro _ b bQ _
    rintro _ rfl _ rfl _ rfl _ rfl _ rfl _ rfl _ _ _ _ _ _ _ _
    refine sw ?_
    refine pu (vb (decide (((Cp d a).length:Int)=0))) (wS (cA not i)) ?_
    exact f1
   ·intro _ b bR _
    rintro _ rfl _ rfl _ rfl _ rfl _ rfl _ rfl _ rfl _ _ _ _ _ _ _
    refine sw ?_
    refine pf (vb (decide (((Cp d a).length:Int)=0))) wN (cA not i) ?_
    exact f1
   ·intro _ b bS _
    rintro _ rfl _ rfl _ rfl _ rfl _ rfl _ rfl _ rfl _ rfl _ _ _ _ _ _
    refine sw ?_
    refine mw (vb (decide (((Cp d a).length:Int)=0))) ?_
    exact f1
   ·intro _ b bT _
    rintro _ rfl _ rfl _ rfl _ rfl _ rfl _ rfl _ rfl _ rfl _ rfl _ _ _ _ _
    refine sw ?_
    refine sk g ?_
    exact f1
   ·intro _ b bU _
    rintro _ rfl _ rfl _ rfl _ rfl _ rfl _ rfl _ rfl _ rfl _ rfl _ rfl _ _ _ _
    refine sw ?_
    refine sk g ?_
    exact f1
   ·intro _ b bW _
    rintro _ rfl _ rfl _ rfl _ rfl _ rfl _ rfl _ rfl _ rfl _ rfl _ _ _ _ _
    refine sw ?_
    refine sk g ?_
    exact f1
   ·intro _ b bX _
    rintro _ rfl _ rfl _ rfl _ rfl _ rfl _ rfl _ rfl _ rfl _ rfl _ _ _ _ _
    refine sw ?_
    refine sk g ?_
    exact f1
   ·intro _ b bY _
    rintro _ rfl _ rfl _ rfl _ rfl _ rfl _ rfl _ rfl _ rfl _ rfl _ _ _ rfl _ rfl _
    refine sw ?_
    refine sk g ?_
    exact f1
  ·intro _ b aq
   rintro _ rfl _ rfl _ rfl _ rfl _ rfl _ rfl _ rfl _ rfl _ rfl _ rfl _ rfl _ rfl _ rfl _ rfl
   refine sw ?_
   iterate 2 refine sk g ?_
   refine pk (vb true) wN g ?_
   refine n2 ?_
   refine ct (Eq.refl true) ?_
   refine sr ?_
   refine CR wN rfl rfl tD (fun w=>by kernel_rfl) ?_
   intro au K aK aL
   have aM:=(u.extk aq).extk aK
   refine aw (vs (some au) 0 0) ?_
   refine aw (vb false) ?_
   refine n1 ?_
   refine GF (.inl rfl) (vs (some au) 0 0) (vb false) rfl rfl rfl ?_
   refine ⟨aM.keep0,?_⟩
   simp only [DF,i,g,cond_true,cond_false]
   exact ⟨_,_,rfl,(tB aL (z3 J q aq)),(by simp),⟨trivial,trivial⟩⟩
 have bZ:=dF g
 refine CU ([(12,[],[],(fun _ v _=>v=(vs l f.length m))),(13,[],[0],(fun _ v _=>v=(vi (f.length:Int)))),(14,[],[0,1],(fun _ v _=>v=(vb (!(decide ((f.length:Int)=32)))))),(15,[],[0,1,2],(fun _ v _=>v=(vb (!(decide ((f.length:Int)=32)))))),(16,[],[0,1,2,3],(fun _ v _=>v=(vs s (Cp d a).length t))),(17,[],[0,1,2,3,4],(fun _ v _=>v=(vi ((Cp d a).length:Int)))),(18,[],[0,1,2,3,4,5],(fun _ v _=>v=(vb (decide (((Cp d a).length:Int)=0))))),(19,[],[0,1,2,3,4,5,6],(fun _ v _=>v=(vb (decide (((Cp d a).length:Int)=0))))),(20,[],[0,1,2,3,4,5,6,7],(fun _ v _=>v=(vb (decide (((Cp d a).length:Int)=0))))),(21,[],[0,1,2,3,4,5,6,7,8],(fun _ v _=>v=(vp p 10))),(22,[],[0,1,2,3,4,5,6,7,8,9],(fun _ v _=>v=(vs H a.Tag.length I))),(23,[],[0,1,2,3,4,5,6,7,8],(fun _ v _=>v=(vs l f.length m))),(24,[],[0,1,2,3,4,5,6,7,8],(fun _ v _=>v=(vs s (Cp d a).length t))),(25,[],[0,1,2,3,4,5,6,7,8,11,12],(fun _ v w=>GE w M.heap.size v (Iv f (Cp d a))))]:GV) (fun _ o=>Keep M o) [] DN rfl (by kernel_rfl) (by kernel_rfl) ?_ (fun _ _ h=>h) (fun _ _ _ _ h _ k=>h.trans k) trivial ?_ ?_ ?_
 ·exact ⟨hV,hE,⟨hV,hE,⟨hV,hE,⟨hV,hE,⟨hV,hE,⟨hV,hE,⟨hV,hE,⟨hV,hE,⟨hV,hE,⟨hV,hE,⟨hV,hE,⟨hV,hE,⟨hV,hE,⟨(fun e v w T h hk=>by obtain ⟨W,X,he,Y,Z,hap⟩:=h;exact ⟨W,X,he,gc Y hk,Z,hap⟩),hE,trivial⟩⟩⟩⟩⟩⟩⟩⟩⟩⟩⟩⟩⟩⟩
 ·exact trivial
 ·refine ⟨?_,⟨?_,⟨?_,⟨?_,⟨?_,⟨?_,⟨?_,⟨?_,⟨?_,⟨?_,⟨?_,⟨?_,⟨?_,⟨?_,trivial⟩⟩⟩⟩⟩⟩⟩⟩⟩⟩⟩⟩⟩⟩
  ·intro _ b ca _
   rintro _ _ _ _ _ _ _ _ _ _ _ _ _ _
   refine sw ?_
   refine mw (vs l f.length m) ?_
   exact f1
  ·intro _ b aN _
   have aO:=u.extk aN
   rintro _ rfl _ _ _ _ _ _ _ _ _ _ _ _ _
   refine sw ?_
   refine ln wN tD (C.from0 aO) ?_
   exact f1
  ·intro _ b cb _
   rintro _ rfl _ rfl _ _ _ _ _ _ _ _ _ _ _ _
   refine sw ?_
   refine pu (vb (!(decide ((f.length:Int)=32)))) wN ?_
   exact f1
  ·intro _ b cc _
   rintro _ rfl _ rfl _ rfl _ _ _ _ _ _ _ _ _ _ _
   refine sw ?_
   refine mw (vb (!(decide ((f.length:Int)=32)))) ?_
   exact f1
  ·intro _ b cd _
   rintro _ rfl _ rfl _ rfl _ rfl _ _ _ _ _ _ _ _ _ _
   refine sw ?_
   refine mv (vs s (Cp d a).length t) (wS (cA not i)) ?_
   exact f1
  ·intro _ b aP _
   rintro _ rfl _ rfl _ rfl _ rfl _ rfl _ _ _ _ _ _ _ _ _
   refine sw ?_
   have aQ:=(gc V aP)
   refine ln (wS (cA not i)) tD (Rd.of_own aQ) ?_
   exact f1
  ·intro _ b ce _
   rintro _ rfl _ rfl _ rfl _ rfl _ rfl _ rfl _ _ _ _ _ _ _ _
   refine sw ?_
   refine pu (vb (decide (((Cp d a).length:Int)=0))) (wS (cA not i)) ?_
   exact f1
  ·intro _ b cg _
   rintro _ rfl _ rfl _ rfl _ rfl _ rfl _ rfl _ rfl _ _ _ _ _ _ _
   refine sw ?_
   refine pf (vb (decide (((Cp d a).length:Int)=0))) wN (cA not i) ?_
   exact f1
  ·intro _ b ci _
   rintro _ rfl _ rfl _ rfl _ rfl _ rfl _ rfl _ rfl _ rfl _ _ _ _ _ _
   refine sw ?_
   refine mw (vb (decide (((Cp d a).length:Int)=0))) ?_
   exact f1
  ·intro _ b cj _
   rintro _ rfl _ rfl _ rfl _ rfl _ rfl _ rfl _ rfl _ rfl _ rfl _ _ _ _ _
   refine sw ?_
   refine pu (vp p 10) (wS g) ?_
   exact f1
  ·intro _ b aR _
   rintro _ rfl _ rfl _ rfl _ rfl _ rfl _ rfl _ rfl _ rfl _ rfl _ rfl _ _ _ _
   refine sw ?_
   have aS:=((B.kp q).kp aR)
   refine ld (vs H a.Tag.length I) (wS g) BT aS ?_
   exact f1
  ·intro _ b ck _
   rintro _ rfl _ rfl _ rfl _ rfl _ rfl _ rfl _ rfl _ rfl _ rfl _ _ _ _ _
   refine sw ?_
   refine mv (vs l f.length m) (wS g) ?_
   exact f1
  ·intro _ b cm _
   rintro _ rfl _ rfl _ rfl _ rfl _ rfl _ rfl _ rfl _ rfl _ rfl _ _ _ _ _
   refine sw ?_
   refine mv (vs s (Cp d a).length t) (wS g) ?_
   exact f1
  ·intro _ b aa _
   have aT:=u.extk aa
   rintro _ rfl _ rfl _ rfl _ rfl _ rfl _ rfl _ rfl _ rfl _ rfl _ _ _ rfl _ rfl _
   refine sw ?_
   have aU:=(gc V aa)
   refine cl (wS g) (Sm b _ f (CC (C.from0 aT) af) _ (Cp d a) (CC (Rd.of_own aU) aA)) ?_
   rintro _ K ⟨aV,⟨cn,co,rfl,aW,aX,aY⟩⟩
   have cp:=HZ f (Cp d a)
   exact CN aV ⟨_,_,rfl,(tB aW aa.size),aX,aY⟩
 ·intro _ b x
  have av:=u.extk x
  rintro _ rfl _ rfl _ rfl _ rfl _ rfl _ rfl _ rfl _ rfl _ rfl _ rfl _ rfl _ rfl _ rfl _ ⟨cq,cr,rfl,aZ,ba,cs⟩
  have cu:=HZ f (Cp d a)
  refine sw ?_
  refine cl (wS g) (NU b _ a.Tag (CC (am.from0 av) an) _ (Iv f (Cp d a)) (CC (Rd.of_own aZ) ba)) ?_
  rintro _ K ⟨y,rfl⟩
  have ab:=av.extk y
  refine pu (vb (!(Fr a.Tag (Iv f (Cp d a))))) (wS g) ?_
  refine pf (vb (!(Fr a.Tag (Iv f (Cp d a))))) wN g ?_
  refine n2 ?_
  rcases bf (Fr a.Tag (Iv f (Cp d a))) with L|L
  ·refine ct (cA not L) ?_
   refine sr ?_
   refine CR wN rfl rfl tD (fun w=>by kernel_rfl) ?_
   intro ax j bb bc
   have bd:=ab.extk bb
   refine aw (vs (some ax) 0 0) ?_
   refine aw (vb false) ?_
   refine n1 ?_
   refine GF (.inl rfl) (vs (some ax) 0 0) (vb false) rfl rfl rfl ?_
   refine ⟨bd.keep0,?_⟩
   simp only [DF,i,g,L,cond_true,cond_false]
   exact ⟨_,_,rfl,(tB bc (z4 J q x y)),(by simp),⟨trivial,trivial⟩⟩
  refine cf (cA not L) ?_
  refine Ct<|re<|Cc ?_
  refine CU ([(30,[],[],(fun _ v _=>v=(vs l f.length m))),(31,[],[],(fun _ v _=>v=(vi d))),(32,[],[],(fun _ v _=>v=(vp p 3))),(33,[],[2],(fun _ v _=>v=(vs D a.Sn.length E))),(34,[],[],(fun _ v _=>v=(vp p 7))),(35,[],[4],(fun _ v _=>v=(vi a.Epoch))),(36,[],[],(fun _ v _=>v=(vp p 8))),(37,[],[6],(fun _ v _=>v=(vi a.Seq))),(38,[],[1,2,3,4,5,6,7],(fun _ v w=>GE w K.heap.size v (CY d a.Sn a.Epoch a.Seq))),(39,[],[],(fun _ v _=>v=(vp p 9))),(40,[],[9],(fun _ v _=>v=(vs F a.Body.length G)))]:GV) (fun _ o=>Keep K o) [] DN rfl (by kernel_rfl) (by kernel_rfl) ?_ (fun _ _ h=>h) (fun _ _ _ _ h _ k=>h.trans k) trivial ?_ ?_ ?_
  ·exact ⟨hV,hE,⟨hV,hE,⟨hV,hE,⟨hV,hE,⟨hV,hE,⟨hV,hE,⟨hV,hE,⟨hV,hE,⟨(fun e v w T h hk=>by obtain ⟨W,X,he,Y,Z,hap⟩:=h;exact ⟨W,X,he,gc Y hk,Z,hap⟩),hE,⟨hV,hE,⟨hV,hE,trivial⟩⟩⟩⟩⟩⟩⟩⟩⟩⟩⟩
  ·exact trivial
  ·refine ⟨?_,⟨?_,⟨?_,⟨?_,⟨?_,⟨?_,⟨?_,⟨?_,⟨?_,⟨?_,⟨?_,trivial⟩⟩⟩⟩⟩⟩⟩⟩⟩⟩⟩
   ·intro _ j cv _
    rintro _ _ _ _ _ _ _ _ _ _ _
    refine sw ?_
    refine mw (vs l f.length m) ?_
    exact f1
   ·intro _ j cw _
    rintro _ _ _ _ _ _ _ _ _ _ _
    refine sw ?_
    refine mw (vi d) ?_
    exact f1
   ·intro _ j cx _
    rintro _ _ _ _ _ _ _ _ _ _ _
    refine sw ?_
    refine pu (vp p 3) wN ?_
    exact f1
   ·intro _ j be _
    rintro _ _ _ rfl _ _ _ _ _ _ _ _
    refine sw ?_
    have bg:=((((B.kp q).kp x).kp y).kp be)
    refine ld (vs D a.Sn.length E) wN BT bg ?_
    exact f1
   ·intro _ j cy _
    rintro _ _ _ _ _ _ _ _ _ _ _
    refine sw ?_
    refine pu (vp p 7) wN ?_
    exact f1
   ·intro _ j bh _
    rintro _ _ _ _ _ rfl _ _ _ _ _ _
    refine sw ?_
    have bi:=((((B.kp q).kp x).kp y).kp bh)
    refine ld (vi a.Epoch) wN tE bi ?_
    exact f1
   ·intro _ j cz _
    rintro _ _ _ _ _ _ _ _ _ _ _
    refine sw ?_
    refine pu (vp p 8) wN ?_
    exact f1
   ·intro _ j bj _
    rintro _ _ _ _ _ _ _ rfl _ _ _ _
    refine sw ?_
    have bk:=((((B.kp q).kp x).kp y).kp bj)
    refine ld (vi a.Seq) wN tE bk ?_
    exact f1
   ·intro _ j ay _
    have bl:=ab.extk ay
    rintro _ _ rfl _ rfl _ rfl _ rfl _ rfl _ rfl _ rfl _ _ _
    refine sw ?_
    refine cl wN (Mf j d _ a.Sn (CC (ah.from0 bl) ai) a.Epoch a.Seq) ?_
    rintro _ bm ⟨bn,⟨c0,c1,rfl,bo,bp,bq⟩⟩
    have c2:=Fl d a.Sn a.Epoch a.Seq
    exact CN bn ⟨_,_,rfl,(tB bo ay.size),bp,bq⟩
   ·intro _ j c3 _
    rintro _ _ _ _ _ _ _ _ _ _ _
    refine sw ?_
    refine pu (vp p 9) wN ?_
    exact f1
   ·intro _ j br _
    rintro _ _ _ _ _ _ _ _ _ _ rfl _
    refine sw ?_
    have bu:=((((B.kp q).kp x).kp y).kp br)
    refine ld (vs F a.Body.length G) wN BT bu ?_
    exact f1
  ·intro _ j az
   have ac:=ab.extk az
   rintro _ rfl _ rfl _ rfl _ rfl _ rfl _ rfl _ rfl _ rfl _ ⟨c4,c5,rfl,bv,bw,c6⟩
   have c7:=Fl d a.Sn a.Epoch a.Seq
   rintro _ rfl _ rfl
   refine sw ?_
   refine cl wN (Sp j _ f (CC (C.from0 ac) af) _ (CY d a.Sn a.Epoch a.Seq) (CC (Rd.of_own bv) bw) _ a.Body (CC (aj.from0 ac) ak)) ?_
   rintro _ bm ⟨bz,⟨a0,a1,rfl,b0,b1,c8⟩⟩
   have b2:=ac.extk bz
   have c9:=LV f (CY d a.Sn a.Epoch a.Seq) a.Body
   refine aw (vs a0 (HX f (CY d a.Sn a.Epoch a.Seq) a.Body).length a1) ?_
   refine aw (vb true) ?_
   refine n3 ?_
   refine GF (.inl rfl) (vs a0 (HX f (CY d a.Sn a.Epoch a.Seq) a.Body).length a1) (vb true) rfl rfl rfl ?_
   refine ⟨b2.keep0,?_⟩
   simp only [DF,i,g,L,cond_true,cond_false]
   exact ⟨_,_,rfl,(tB b0 (z5 J q x y az)),b1,⟨trivial,trivial⟩⟩

def Ql (w:World) (lo:Nat) (v:Value) (x:(PWin)×(Bool)):Prop:=∃ (a:Option Addr) (b:Nat),v=.tuple #[.agg #[.int .i64 x.1.Top,.slice a x.1.Bits.length b],.bool x.2]∧w.ownsRow lo 3 1 (.slice a x.1.Bits.length b) x.1.Bits.length (x.1.Bits.map iV)∧x.1.Bits.length≤1073741824∧Aps [(a,b)]
def GQ (w:PWin) (n:Int):PWin×Bool:=bif DC w n then ({Top:=bif decide (w.Top < n) then n else w.Top,Bits:=PD w.Bits w.Top n:PWin},true) else (w,false)
theorem Pj (H:World) (ak:Value) (d:PWin) (aL:LD H ak d) (e:Int) :Fn Tryz.prog 75 #[ak,(vi e)] H (fun v I=>Keep H I∧Ql I H.heap.size v (GQ d e)):=by
 obtain ⟨Y,Z,rfl,am,an⟩:=aL
 refine Cl (n:=73) [(va (DW d Y Z)),(vi e)] Tryz.func75 rfl rfl ?_
 refine sr ?_
 refine bx (DW d Y Z) wN ?_
 intro P bX bY S t aM
 refine al [(vi 0),(vs none 0 0)] wN FA ?_
 intro ab C T o q V
 have ao:=((Ch.base H).extk t).extk q
 refine aw (vb false) ?_
 refine nx ?_
 have ap:=(aM.kp q)
 refine lN (DW d Y Z) wN CM Cj ap ?_
 refine cl wN (Md C _ d (FX (am.from0 ao) an)) ?_
 rintro _ W ⟨r,⟨g,i,rfl,m,X,bZ⟩⟩
 refine al [(vi 0),(vs none 0 0)] wN FA ?_
 intro s ca p cb D aN
 refine sv (DW (d) g i) wN Cj aN ?_
 intro aO E aq cc
 have au:=((ao.extk r).extk D).ext E (fun k hk=>by subst hk;exact nT (z3 t q r) p)
 refine n4 ?_
 have av:=(((ap.kp r).kp D).ch E (nN (nL S (nT (z2 q r) p))))
 refine lN (DW d Y Z) wN CM Cj av ?_
 refine mw (vi e) ?_
 refine cl wN (Me aO _ d (FX (am.from0 au) an) e) ?_
 rintro _ ac ⟨A,rfl⟩
 have ax:=au.extk A
 refine pu (vb (!(DC d e))) wN ?_
 refine n2 ?_
 rcases bf (DC d e) with F|F
 ·refine ct (cA not F) ?_
  refine sr ?_
  have aP:=(aq.kp A)
  refine lN (DW (d) g i) wN CM Cj aP ?_
  have aQ:=((((V.kp r).kp D).ch E (nN (nL o (nT r.size p)))).kp A)
  refine sv (DW (d) g i) wN Cj aQ ?_
  intro ay az aR cd
  have aS:=ax.ext az (fun k hk=>by subst hk;exact nT t.size T)
  refine aw (vb false) ?_
  refine n1 ?_
  have aT:=(tC (gc (tC (gc m D) E (ne2 m (p))) A) az (ne1 m (o)))
  refine GF (.inl rfl) (va (DW (d) g i)) (vb false) rfl (Fe (DW (d) g i) rfl aR CM Cj) rfl ?_
  refine ⟨aS.keep0,?_⟩
  have aU:GQ d e=((d),false):=by simp only [GQ,F,cond_true,cond_false]
  rw [aU]
  exact ⟨_,_,rfl,(tB aT (z2 t q)),X,⟨trivial,trivial⟩⟩
 have ce:=Gm F
 refine cf (cA not F) ?_
 refine y1 ?_
 refine aw (vi 0) ?_
 refine n4 ?_
 refine pu (vp P 0) wN ?_
 have ad:=(av.kp A)
 refine ld (vi d.Top) wN tE ad ?_
 refine ar (d.Top+1) wN ?_
 refine aw (vi (d.Top+1)) ?_
 refine BU<|re<|Ca ?_
 have aV:=(gc (tC (gc m D) E (ne2 m (p))) A)
 have aW:((d).Bits:List Int)=Eu d.Bits (d.Top+1) 0:=by rfl
 have aX:=(aq.kp A)
 refine CJ [(1,(vi e)),(2,(vp P 0)),(4,(vp ab 0)),(5,(vb false)),(6,(vp s 0)),(7,(vi ((0:Nat):Int))),(8,(vi ((d.Top+1)+((0:Nat):Int))))] ⟨rfl,rfl,rfl,rfl,rfl,(cA (Value.int .i64) (show (0:Int)=((0:Nat):Int) by omega)),(cA (Value.int .i64) (show ((d.Top+1):Int)=((d.Top+1)+((0:Nat):Int)) by omega)),trivial⟩ (fun e' I=>∃ (j:Nat) (a0:Env),e'=pt a0 [(1,(vi e)),(2,(vp P 0)),(4,(vp ab 0)),(5,(vb false)),(6,(vp s 0)),(7,(vi ((j:Nat):Int))),(8,(vi ((d.Top+1)+((j:Nat):Int))))]∧Ch (fun k=>H.heap.size≤k) H I∧Ch (fun k=>C.heap.size≤k) ac I∧j≤1024∧(d.Top+((j:Nat):Int)≤e∨j=0)∧World.ownsRow I C.heap.size 3 1 (.slice g ((d).Bits).length i) ((d).Bits).length ((Eu d.Bits (d.Top+1) j).map iV)∧Blk I s 34 [(vi ((d).Top)),(vs g ((d).Bits).length i)]) (fun e' _=>(1024 - (intOf (e' 7))).toNat) ?_ ?_
 ·exact fun u=>⟨0,u,rfl,ax,(Ch.refl (fun k=>C.heap.size≤k) ac),(by omega),(by omega),(by rw [← aW];exact aV),aX⟩
 ·rintro _ ay ⟨j,a0,rfl,ae,J,cg,ci,G,B⟩
  have hwl:=FK d.Bits (d.Top+1) j
  have hwi:=Ha (Hd (l:=d.Bits) (Gm (w:=d) (n:=e) (by assumption)).1 (d.Top+1) j) ((((d.Top+1)+((j:Nat):Int)) % 1024) / 32).toNat
  have hwn:=Ha (Hd (l:=d.Bits) (Gm (w:=d) (n:=e) (by assumption)).1 (d.Top+1) j) ((e % 1024) / 32).toNat
  refine Cc<|sr ?_
  refine mw (vi ((d.Top+1)+((j:Nat):Int))) ?_
  refine mw (vi e) ?_
  refine pu (vb (decide (((d.Top+1)+((j:Nat):Int))≤e))) wN ?_
  refine mw (vb (decide (((d.Top+1)+((j:Nat):Int))≤e))) ?_
  rcases bf (decide (((d.Top+1)+((j:Nat):Int))≤e)) with y|y
  ·have cj:=dF y
   iterate 2 refine sk y ?_
   refine pf (vb false) wN y ?_
   refine n2 ?_
   refine cf (Eq.refl false) ?_
   refine CS<|wb<|wb<|Ce<|re<|sr ?_
   refine mw (vi e) ?_
   refine Fq e 1024 wN rfl rfl (by kernel_rfl) (by first|omega|assumption) ?_
   refine aw (vi (e % 1024)) ?_
   refine BU<|re<|Cc ?_
   refine FB ([(51,[],[],(fun _ v _=>v=(vp s 1))),(52,[],[0],(fun _ v _=>v=(vs g ((d).Bits).length i))),(53,[],[],(fun _ v _=>v=(vi (e % 1024)))),(54,[],[2],(fun _ v _=>v=(vi ((e % 1024) / 32)))),(55,[],[],(fun _ v _=>v=(vp s 1))),(56,[],[4],(fun _ v _=>v=(vs g ((d).Bits).length i))),(57,[],[],(fun _ v _=>v=(vi (e % 1024)))),(58,[],[6],(fun _ v _=>v=(vi ((e % 1024) / 32)))),(59,[],[4,5,6,7],(fun _ v _=>v=(ve (vs g ((d).Bits).length i) ((((e % 1024) / 32)).toNat*1)))),(60,[],[4,5,6,7,8],(fun _ v _=>v=(vi ((Eu d.Bits (d.Top+1) j).getD (((e % 1024) / 32)).toNat 0)))),(61,[],[],(fun _ v _=>v=(vi (e % 1024)))),(62,[],[10],(fun _ v _=>v=(vi ((e % 1024) % 32)))),(63,[],[10,11],(fun _ v _=>v=(vi (1*(2:Int) ^ (((e % 1024) % 32)).toNat)))),(64,[],[4,5,6,7,8,9,10,11,12],(fun _ v _=>v=(vi (orI ((Eu d.Bits (d.Top+1) j).getD (((e % 1024) / 32)).toNat 0) (1*(2:Int) ^ (((e % 1024) % 32)).toNat)))))]:GV) DN rfl (by kernel_rfl) (by kernel_rfl) ?_ ?_ ?_
   ·exact ⟨hV,hE,⟨hV,hE,⟨hV,hE,⟨hV,hE,⟨hV,hE,⟨hV,hE,⟨hV,hE,⟨hV,hE,⟨hV,hE,⟨hV,hE,⟨hV,hE,⟨hV,hE,⟨hV,hE,⟨hV,hE,trivial⟩⟩⟩⟩⟩⟩⟩⟩⟩⟩⟩⟩⟩⟩
   ·refine ⟨?_,⟨?_,⟨?_,⟨?_,⟨?_,⟨?_,⟨?_,⟨?_,⟨?_,⟨?_,⟨?_,⟨?_,⟨?_,⟨?_,trivial⟩⟩⟩⟩⟩⟩⟩⟩⟩⟩⟩⟩⟩⟩
    ·intro f ck
     rintro _ _ _ _ _ _ _ _ _ _ _ _ _ _
     refine sw ?_
     refine pu (vp s 1) wN ?_
     exact f2
    ·intro f aY
     rintro _ rfl _ _ _ _ _ _ _ _ _ _ _ _ _
     refine sw ?_
     have aZ:=(B.kp aY)
     refine ld (vs g ((d).Bits).length i) wN Dk aZ ?_
     exact f2
    ·intro f cm
     rintro _ _ _ _ _ _ _ _ _ _ _ _ _ _
     refine sw ?_
     refine mw (vi (e % 1024)) ?_
     exact f2
    ·intro f cn
     rintro _ _ _ rfl _ _ _ _ _ _ _ _ _ _ _
     refine sw ?_
     refine GZ (e % 1024) 32 wN rfl rfl (by kernel_rfl) (by omega) (by omega) (by omega) ?_
     exact f2
    ·intro f co
     rintro _ _ _ _ _ _ _ _ _ _ _ _ _ _
     refine sw ?_
     refine pu (vp s 1) wN ?_
     exact f2
    ·intro f ba
     rintro _ _ _ _ _ rfl _ _ _ _ _ _ _ _ _
     refine sw ?_
     have bb:=(B.kp ba)
     refine ld (vs g ((d).Bits).length i) wN Dk bb ?_
     exact f2
    ·intro f cp
     rintro _ _ _ _ _ _ _ _ _ _ _ _ _ _
     refine sw ?_
     refine mw (vi (e % 1024)) ?_
     exact f2
    ·intro f cq
     rintro _ _ _ _ _ _ _ rfl _ _ _ _ _ _ _
     refine sw ?_
     refine GZ (e % 1024) 32 wN rfl rfl (by kernel_rfl) (by omega) (by omega) (by omega) ?_
     exact f2
    ·intro f bc
     rintro _ _ _ _ _ rfl _ rfl _ rfl _ rfl _ _ _ _ _ _
     refine sw ?_
     have bd:=(gc G bc)
     refine ix wN ((e % 1024) / 32) Cd (Rd.of_own bd) ?_
     exact f2
    ·intro f be
     rintro _ _ _ _ _ rfl _ rfl _ rfl _ rfl _ rfl _ _ _ _ _
     refine sw ?_
     have bg:=(gc G be)
     refine ei (x:=(Eu d.Bits (d.Top+1) j)) ((((e % 1024) / 32)).toNat) wN tE (Rd.of_own bg) ?_
     exact f2
    ·intro f cr
     rintro _ _ _ _ _ _ _ _ _ _ _ _ _ _
     refine sw ?_
     refine mw (vi (e % 1024)) ?_
     exact f2
    ·intro f cs
     rintro _ _ _ _ _ _ _ _ _ _ _ rfl _ _ _
     refine sw ?_
     refine Fq (e % 1024) 32 wN rfl rfl (by kernel_rfl) (by first|omega|assumption) ?_
     exact f2
    ·intro f cu
     rintro _ _ _ _ _ _ _ _ _ _ _ rfl _ rfl _ _
     refine sw ?_
     refine Is 1 ((e % 1024) % 32) wN rfl rfl rfl rfl rfl (by omega) (by omega) (by omega) (by omega) ?_
     have cv:=Gl (((e % 1024) % 32)).toNat (by omega)
     exact f2
    ·intro f cw
     rintro _ _ _ _ _ rfl _ rfl _ rfl _ rfl _ rfl _ rfl _ rfl _ rfl _ rfl
     have cx:=Gl (((e % 1024) % 32)).toNat (by omega)
     intro _
     refine sw ?_
     refine Lg ((Eu d.Bits (d.Top+1) j).getD (((e % 1024) / 32)).toNat 0) (1*(2:Int) ^ (((e % 1024) % 32)).toNat) wN rfl rfl (by kernel_rfl) (by omega) (by omega) (by omega) (by omega) ?_
     have cy:=JP (a:=((Eu d.Bits (d.Top+1) j).getD (((e % 1024) / 32)).toNat 0)) (b:=(1*(2:Int) ^ (((e % 1024) % 32)).toNat)) (by omega) (by omega)
     exact f2
   ·intro f K
    rintro _ rfl _ rfl _ rfl _ rfl _ rfl _ rfl _ rfl _ rfl _ rfl _ rfl _ rfl _ rfl _ rfl
    have cz:=Gl (((e % 1024) % 32)).toNat (by omega)
    rintro _ rfl
    have c0:=JP (a:=((Eu d.Bits (d.Top+1) j).getD (((e % 1024) / 32)).toNat 0)) (b:=(1*(2:Int) ^ (((e % 1024) % 32)).toNat)) (by omega) (by omega)
    refine sw ?_
    have a1:=(gc G K)
    refine ix wN ((e % 1024) / 32) Cd (Rd.of_own a1) ?_
    refine EC (Eu d.Bits (d.Top+1) j) ((((e % 1024) / 32)).toNat) ((orI ((Eu d.Bits (d.Top+1) j).getD (((e % 1024) / 32)).toNat 0) (1*(2:Int) ^ (((e % 1024) % 32)).toNat))) wN rfl rfl rfl (by simp) rfl CZ a1 (by first|omega|(simp only [List.length_append,List.length_replicate,List.length_take,List.length_set,List.length_map];omega)) ?_
    intro a2 Q a3
    have a4:=(ae.extk K).ext Q (fun k hk=>nT (z2 t q) (Cm m k hk).1)
    refine n4 ?_
    refine mw (vi e) ?_
    refine pu (vp P 0) wN ?_
    have bh:=(((ad.ch J (Nat.not_le.2 (nL S q.size))).kp K).ch Q (fun h=>by have:=(Cm m _ h).1;have:=nL S q.size;omega))
    refine ld (vi d.Top) wN tE bh ?_
    refine pu (vb (decide (d.Top < e))) wN ?_
    refine n2 ?_
    rcases bf (decide (d.Top < e)) with L|L
    ·have c1:=dF L
     refine cf L ?_
     refine y1 ?_
     have bi:=((B.kp K).ch Q (fun h=>by have:=(Cm m _ h).2;have:=nT (Nat.le_refl W.heap.size) p;omega))
     refine lN [(vi ((d).Top)),(vs g ((d).Bits).length i)] wN CM Cj bi ?_
     have bj:=(((((((V.kp r).kp D).ch E (nN (nL o (nT r.size p)))).kp A).ch J (Nat.not_le.2 (o))).kp K).ch Q (fun h=>by have:=(Cm m _ h).1;have:=nL o (Nat.le_refl C.heap.size);omega))
     refine sv [(vi ((d).Top)),(vs g ((d).Bits).length i)] wN Cj bj ?_
     intro af a5 bk c2
     have bl:=a4.ext a5 (fun k hk=>by subst hk;exact nT t.size T)
     refine aw (vb true) ?_
     refine n3 ?_
     have a6:=(tC a3 a5 (ne1 m (o)))
     refine GF (.inl rfl) (va [(vi ((d).Top)),(vs g ((d).Bits).length i)]) (vb true) rfl (Fe [(vi ((d).Top)),(vs g ((d).Bits).length i)] rfl bk CM Cj) rfl ?_
     refine ⟨bl.keep0,?_⟩
     have bm:GQ d e=({Top:=(d).Top,Bits:=((Eu d.Bits (d.Top+1) j).set ((((e % 1024) / 32)).toNat) (orI ((Eu d.Bits (d.Top+1) j).getD (((e % 1024) / 32)).toNat 0) (1*(2:Int) ^ (((e % 1024) % 32)).toNat))):PWin},true):=by have hz:=HA (l:=d.Bits) (top:=d.Top) (n:=e) (j:=j) (Gm (w:=d) (n:=e) (by assumption)).1 (Gm (w:=d) (n:=e) (by assumption)).2.1 (by omega) (by omega) (by omega) (by omega);simp only [GQ,F,y,L,cond_true,cond_false];rw [← hz];first|rfl|(rw [PK])|(rw [← PK])
     rw [bm]
     have a7:((d).Bits).length=(((Eu d.Bits (d.Top+1) j).set ((((e % 1024) / 32)).toNat) (orI ((Eu d.Bits (d.Top+1) j).getD (((e % 1024) / 32)).toNat 0) (1*(2:Int) ^ (((e % 1024) % 32)).toNat)))).length:=by first|(simp only [List.length_append,List.length_take,List.length_replicate,List.length_set,List.length_map];done)|(simp only [List.length_append,List.length_take,List.length_replicate,List.length_set,List.length_map];omega)
     rw [a7] at a6 ⊢
     exact ⟨_,_,rfl,(tB a6 (z2 t q)),(by rw [← a7];exact X),⟨trivial,trivial⟩⟩
    have c3:=dT L
    refine ct L ?_
    refine BZ ?_
    refine mw (vi e) ?_
    refine pu (vp s 0) wN ?_
    have bn:=((B.kp K).ch Q (fun h=>by have:=(Cm m _ h).2;have:=nT (Nat.le_refl W.heap.size) p;omega))
    refine st (vi e) [(vi e)] [(vi e),(vs g ((d).Bits).length i)] wN CZ bn ?_
    intro af ah bo c4
    have bp:=a4.ext ah (fun k hk=>by subst hk;exact nT (z3 t q r) p)
    refine nx ?_
    refine lN [(vi e),(vs g ((d).Bits).length i)] wN CM Cj bo ?_
    have bq:=((((((((V.kp r).kp D).ch E (nN (nL o (nT r.size p)))).kp A).ch J (Nat.not_le.2 (o))).kp K).ch Q (fun h=>by have:=(Cm m _ h).1;have:=nL o (Nat.le_refl C.heap.size);omega)).ch ah (nN (nL o (nT r.size p))))
    refine sv [(vi e),(vs g ((d).Bits).length i)] wN Cj bq ?_
    intro br a8 bu c5
    have bv:=bp.ext a8 (fun k hk=>by subst hk;exact nT t.size T)
    refine aw (vb true) ?_
    refine n3 ?_
    have a9:=(tC (tC a3 ah (ne2 m (p))) a8 (ne1 m (o)))
    refine GF (.inl rfl) (va [(vi e),(vs g ((d).Bits).length i)]) (vb true) rfl (Fe [(vi e),(vs g ((d).Bits).length i)] rfl bu CM Cj) rfl ?_
    refine ⟨bv.keep0,?_⟩
    have bw:GQ d e=({Top:=e,Bits:=((Eu d.Bits (d.Top+1) j).set ((((e % 1024) / 32)).toNat) (orI ((Eu d.Bits (d.Top+1) j).getD (((e % 1024) / 32)).toNat 0) (1*(2:Int) ^ (((e % 1024) % 32)).toNat))):PWin},true):=by have hz:=HA (l:=d.Bits) (top:=d.Top) (n:=e) (j:=j) (Gm (w:=d) (n:=e) (by assumption)).1 (Gm (w:=d) (n:=e) (by assumption)).2.1 (by omega) (by omega) (by omega) (by omega);simp only [GQ,F,y,L,cond_true,cond_false];rw [← hz];first|rfl|(rw [PK])|(rw [← PK])
    rw [bw]
    have aA:((d).Bits).length=(((Eu d.Bits (d.Top+1) j).set ((((e % 1024) / 32)).toNat) (orI ((Eu d.Bits (d.Top+1) j).getD (((e % 1024) / 32)).toNat 0) (1*(2:Int) ^ (((e % 1024) % 32)).toNat)))).length:=by first|(simp only [List.length_append,List.length_take,List.length_replicate,List.length_set,List.length_map];done)|(simp only [List.length_append,List.length_take,List.length_replicate,List.length_set,List.length_map];omega)
    rw [aA] at a9 ⊢
    exact ⟨_,_,rfl,(tB a9 (z2 t q)),(by rw [← aA];exact X),⟨trivial,trivial⟩⟩
  have c6:=dT y
  refine mv (vi ((j:Nat):Int)) (wS y) ?_
  refine pu (vb (decide (((j:Nat):Int) < 1024))) (wS y) ?_
  refine pk (vb (decide (((j:Nat):Int) < 1024))) wN y ?_
  refine n2 ?_
  rcases bt (decide (((j:Nat):Int) < 1024)) with M|M
  ·have c7:=dT M
   refine ct M ?_
   refine Ct<|re<|Cc<|Ca<|sr ?_
   refine mw (vi ((d.Top+1)+((j:Nat):Int))) ?_
   refine Fq ((d.Top+1)+((j:Nat):Int)) 1024 wN rfl rfl (by kernel_rfl) (by first|omega|assumption) ?_
   refine aw (vi (((d.Top+1)+((j:Nat):Int)) % 1024)) ?_
   refine BU<|re<|Cc ?_
   refine FB ([(32,[],[],(fun _ v _=>v=(vp s 1))),(33,[],[0],(fun _ v _=>v=(vs g ((d).Bits).length i))),(34,[],[],(fun _ v _=>v=(vi (((d.Top+1)+((j:Nat):Int)) % 1024)))),(35,[],[2],(fun _ v _=>v=(vi ((((d.Top+1)+((j:Nat):Int)) % 1024) / 32)))),(36,[],[],(fun _ v _=>v=(vp s 1))),(37,[],[4],(fun _ v _=>v=(vs g ((d).Bits).length i))),(38,[],[],(fun _ v _=>v=(vi (((d.Top+1)+((j:Nat):Int)) % 1024)))),(39,[],[6],(fun _ v _=>v=(vi ((((d.Top+1)+((j:Nat):Int)) % 1024) / 32)))),(40,[],[4,5,6,7],(fun _ v _=>v=(ve (vs g ((d).Bits).length i) ((((((d.Top+1)+((j:Nat):Int)) % 1024) / 32)).toNat*1)))),(41,[],[4,5,6,7,8],(fun _ v _=>v=(vi ((Eu d.Bits (d.Top+1) j).getD (((((d.Top+1)+((j:Nat):Int)) % 1024) / 32)).toNat 0)))),(42,[],[],(fun _ v _=>v=(vi (((d.Top+1)+((j:Nat):Int)) % 1024)))),(43,[],[10],(fun _ v _=>v=(vi ((((d.Top+1)+((j:Nat):Int)) % 1024) % 32)))),(44,[],[10,11],(fun _ v _=>v=(vi (1*(2:Int) ^ (((((d.Top+1)+((j:Nat):Int)) % 1024) % 32)).toNat)))),(45,[],[4,5,6,7,8,9,10,11,12],(fun _ v _=>v=(vi (HR ((Eu d.Bits (d.Top+1) j).getD (((((d.Top+1)+((j:Nat):Int)) % 1024) / 32)).toNat 0) (1*(2:Int) ^ (((((d.Top+1)+((j:Nat):Int)) % 1024) % 32)).toNat)))))]:GV) DN rfl (by kernel_rfl) (by kernel_rfl) ?_ ?_ ?_
   ·exact ⟨hV,hE,⟨hV,hE,⟨hV,hE,⟨hV,hE,⟨hV,hE,⟨hV,hE,⟨hV,hE,⟨hV,hE,⟨hV,hE,⟨hV,hE,⟨hV,hE,⟨hV,hE,⟨hV,hE,⟨hV,hE,trivial⟩⟩⟩⟩⟩⟩⟩⟩⟩⟩⟩⟩⟩⟩
   ·refine ⟨?_,⟨?_,⟨?_,⟨?_,⟨?_,⟨?_,⟨?_,⟨?_,⟨?_,⟨?_,⟨?_,⟨?_,⟨?_,⟨?_,trivial⟩⟩⟩⟩⟩⟩⟩⟩⟩⟩⟩⟩⟩⟩
    ·intro f c8
     rintro _ _ _ _ _ _ _ _ _ _ _ _ _ _
     refine sw ?_
     refine pu (vp s 1) wN ?_
     exact f2
    ·intro f bz
     rintro _ rfl _ _ _ _ _ _ _ _ _ _ _ _ _
     refine sw ?_
     have b0:=(B.kp bz)
     refine ld (vs g ((d).Bits).length i) wN Dk b0 ?_
     exact f2
    ·intro f c9
     rintro _ _ _ _ _ _ _ _ _ _ _ _ _ _
     refine sw ?_
     refine mw (vi (((d.Top+1)+((j:Nat):Int)) % 1024)) ?_
     exact f2
    ·intro f cC
     rintro _ _ _ rfl _ _ _ _ _ _ _ _ _ _ _
     refine sw ?_
     refine GZ (((d.Top+1)+((j:Nat):Int)) % 1024) 32 wN rfl rfl (by kernel_rfl) (by omega) (by omega) (by omega) ?_
     exact f2
    ·intro f cD
     rintro _ _ _ _ _ _ _ _ _ _ _ _ _ _
     refine sw ?_
     refine pu (vp s 1) wN ?_
     exact f2
    ·intro f b1
     rintro _ _ _ _ _ rfl _ _ _ _ _ _ _ _ _
     refine sw ?_
     have b2:=(B.kp b1)
     refine ld (vs g ((d).Bits).length i) wN Dk b2 ?_
     exact f2
    ·intro f cE
     rintro _ _ _ _ _ _ _ _ _ _ _ _ _ _
     refine sw ?_
     refine mw (vi (((d.Top+1)+((j:Nat):Int)) % 1024)) ?_
     exact f2
    ·intro f cF
     rintro _ _ _ _ _ _ _ rfl _ _ _ _ _ _ _
     refine sw ?_
     refine GZ (((d.Top+1)+((j:Nat):Int)) % 1024) 32 wN rfl rfl (by kernel_rfl) (by omega) (by omega) (by omega) ?_
     exact f2
    ·intro f b3
     rintro _ _ _ _ _ rfl _ rfl _ rfl _ rfl _ _ _ _ _ _
     refine sw ?_
     have b4:=(gc G b3)
     refine ix wN ((((d.Top+1)+((j:Nat):Int)) % 1024) / 32) Cd (Rd.of_own b4) ?_
     exact f2
    ·intro f b5
     rintro _ _ _ _ _ rfl _ rfl _ rfl _ rfl _ rfl _ _ _ _ _
     refine sw ?_
     have b6:=(gc G b5)
     refine ei (x:=(Eu d.Bits (d.Top+1) j)) ((((((d.Top+1)+((j:Nat):Int)) % 1024) / 32)).toNat) wN tE (Rd.of_own b6) ?_
     exact f2
    ·intro f cG
     rintro _ _ _ _ _ _ _ _ _ _ _ _ _ _
     refine sw ?_
     refine mw (vi (((d.Top+1)+((j:Nat):Int)) % 1024)) ?_
     exact f2
    ·intro f cH
     rintro _ _ _ _ _ _ _ _ _ _ _ rfl _ _ _
     refine sw ?_
     refine Fq (((d.Top+1)+((j:Nat):Int)) % 1024) 32 wN rfl rfl (by kernel_rfl) (by first|omega|assumption) ?_
     exact f2
    ·intro f cI
     rintro _ _ _ _ _ _ _ _ _ _ _ rfl _ rfl _ _
     refine sw ?_
     refine Is 1 ((((d.Top+1)+((j:Nat):Int)) % 1024) % 32) wN rfl rfl rfl rfl rfl (by omega) (by omega) (by omega) (by omega) ?_
     have cJ:=Gl (((((d.Top+1)+((j:Nat):Int)) % 1024) % 32)).toNat (by omega)
     exact f2
    ·intro f cK
     rintro _ _ _ _ _ rfl _ rfl _ rfl _ rfl _ rfl _ rfl _ rfl _ rfl _ rfl
     have cL:=Gl (((((d.Top+1)+((j:Nat):Int)) % 1024) % 32)).toNat (by omega)
     intro _
     refine sw ?_
     refine Nl ((Eu d.Bits (d.Top+1) j).getD (((((d.Top+1)+((j:Nat):Int)) % 1024) / 32)).toNat 0) (1*(2:Int) ^ (((((d.Top+1)+((j:Nat):Int)) % 1024) % 32)).toNat) wN rfl rfl (by kernel_rfl) (by omega) (by omega) (by omega) (by omega) ?_
     have cM:=IR (a:=((Eu d.Bits (d.Top+1) j).getD (((((d.Top+1)+((j:Nat):Int)) % 1024) / 32)).toNat 0)) (b:=(1*(2:Int) ^ (((((d.Top+1)+((j:Nat):Int)) % 1024) % 32)).toNat)) (by omega)
     exact f2
   ·intro f aa
    rintro _ rfl _ rfl _ rfl _ rfl _ rfl _ rfl _ rfl _ rfl _ rfl _ rfl _ rfl _ rfl _ rfl
    have cN:=Gl (((((d.Top+1)+((j:Nat):Int)) % 1024) % 32)).toNat (by omega)
    rintro _ rfl
    have cO:=IR (a:=((Eu d.Bits (d.Top+1) j).getD (((((d.Top+1)+((j:Nat):Int)) % 1024) / 32)).toNat 0)) (b:=(1*(2:Int) ^ (((((d.Top+1)+((j:Nat):Int)) % 1024) % 32)).toNat)) (by omega)
    refine sw ?_
    have aB:=(gc G aa)
    refine ix wN ((((d.Top+1)+((j:Nat):Int)) % 1024) / 32) Cd (Rd.of_own aB) ?_
    refine EC (Eu d.Bits (d.Top+1) j) ((((((d.Top+1)+((j:Nat):Int)) % 1024) / 32)).toNat) ((HR ((Eu d.Bits (d.Top+1) j).getD (((((d.Top+1)+((j:Nat):Int)) % 1024) / 32)).toNat 0) (1*(2:Int) ^ (((((d.Top+1)+((j:Nat):Int)) % 1024) % 32)).toNat))) wN rfl rfl rfl (by simp) rfl CZ aB (by first|omega|(simp only [List.length_append,List.length_replicate,List.length_take,List.length_set,List.length_map];omega)) ?_
    intro a2 ai b7
    have b8:=(ae.extk aa).ext ai (fun k hk=>nT (z2 t q) (Cm m k hk).1)
    refine BU<|re<|BZ ?_
    refine mw (vi ((j:Nat):Int)) ?_
    refine ar (((j:Nat):Int)+1) wN ?_
    refine aw (vi (((j:Nat):Int)+1)) ?_
    refine BU<|BS<|re<|BZ ?_
    refine mw (vi ((d.Top+1)+((j:Nat):Int))) ?_
    refine ar (((d.Top+1)+((j:Nat):Int))+1) wN ?_
    refine aw (vi (((d.Top+1)+((j:Nat):Int))+1)) ?_
    refine BU ?_
    have b9:(((Eu d.Bits (d.Top+1) j).set ((((((d.Top+1)+((j:Nat):Int)) % 1024) / 32)).toNat) (HR ((Eu d.Bits (d.Top+1) j).getD (((((d.Top+1)+((j:Nat):Int)) % 1024) / 32)).toNat 0) (1*(2:Int) ^ (((((d.Top+1)+((j:Nat):Int)) % 1024) % 32)).toNat))):List Int)=Eu d.Bits (d.Top+1) (j+1):=by first|rfl|exact SC _ _
    have bA:=((B.kp aa).ch ai (fun h=>by have:=(Cm m _ h).2;have:=nT (Nat.le_refl W.heap.size) p;omega))
    refine CI (w0:=ay) [(1,(vi e)),(2,(vp P 0)),(4,(vp ab 0)),(5,(vb false)),(6,(vp s 0)),(7,(vi (((j+1):Nat):Int))),(8,(vi ((d.Top+1)+(((j+1):Nat):Int))))] ?_ ?_ ?_
    · exact ⟨rfl,rfl,rfl,rfl,rfl,(cA (Value.int .i64) (show ((((j:Nat):Int)+1):Int)=(((j+1):Nat):Int) by omega)),(cA (Value.int .i64) (show ((((d.Top+1)+((j:Nat):Int))+1):Int)=((d.Top+1)+(((j+1):Nat):Int)) by omega)),trivial⟩
    · exact fun u=>⟨(j+1),u,rfl,b8,((((Ch.refl (fun k=>C.heap.size≤k) ac).ext J (fun k hk=>hk)).extk aa).ext ai (fun k hk=>nT (Nat.le_refl C.heap.size) (Cm m k hk).1)),(by omega),(by omega),(by rw [← b9];exact b7),bA⟩
    · show (1024 - (((j+1):Nat):Int)).toNat < (1024 - ((j:Nat):Int)).toNat;omega
  have cP:=dF M
  refine cf M ?_
  refine CS<|wb<|wb<|Ce<|re<|sr ?_
  refine mw (vi e) ?_
  refine Fq e 1024 wN rfl rfl (by kernel_rfl) (by first|omega|assumption) ?_
  refine aw (vi (e % 1024)) ?_
  refine BU<|re<|Cc ?_
  refine FB ([(51,[],[],(fun _ v _=>v=(vp s 1))),(52,[],[0],(fun _ v _=>v=(vs g ((d).Bits).length i))),(53,[],[],(fun _ v _=>v=(vi (e % 1024)))),(54,[],[2],(fun _ v _=>v=(vi ((e % 1024) / 32)))),(55,[],[],(fun _ v _=>v=(vp s 1))),(56,[],[4],(fun _ v _=>v=(vs g ((d).Bits).length i))),(57,[],[],(fun _ v _=>v=(vi (e % 1024)))),(58,[],[6],(fun _ v _=>v=(vi ((e % 1024) / 32)))),(59,[],[4,5,6,7],(fun _ v _=>v=(ve (vs g ((d).Bits).length i) ((((e % 1024) / 32)).toNat*1)))),(60,[],[4,5,6,7,8],(fun _ v _=>v=(vi ((Eu d.Bits (d.Top+1) j).getD (((e % 1024) / 32)).toNat 0)))),(61,[],[],(fun _ v _=>v=(vi (e % 1024)))),(62,[],[10],(fun _ v _=>v=(vi ((e % 1024) % 32)))),(63,[],[10,11],(fun _ v _=>v=(vi (1*(2:Int) ^ (((e % 1024) % 32)).toNat)))),(64,[],[4,5,6,7,8,9,10,11,12],(fun _ v _=>v=(vi (orI ((Eu d.Bits (d.Top+1) j).getD (((e % 1024) / 32)).toNat 0) (1*(2:Int) ^ (((e % 1024) % 32)).toNat)))))]:GV) DN rfl (by kernel_rfl) (by kernel_rfl) ?_ ?_ ?_
  ·exact ⟨hV,hE,⟨hV,hE,⟨hV,hE,⟨hV,hE,⟨hV,hE,⟨hV,hE,⟨hV,hE,⟨hV,hE,⟨hV,hE,⟨hV,hE,⟨hV,hE,⟨hV,hE,⟨hV,hE,⟨hV,hE,trivial⟩⟩⟩⟩⟩⟩⟩⟩⟩⟩⟩⟩⟩⟩
  ·refine ⟨?_,⟨?_,⟨?_,⟨?_,⟨?_,⟨?_,⟨?_,⟨?_,⟨?_,⟨?_,⟨?_,⟨?_,⟨?_,⟨?_,trivial⟩⟩⟩⟩⟩⟩⟩⟩⟩⟩⟩⟩⟩⟩
   ·intro f cQ
    rintro _ _ _ _ _ _ _ _ _ _ _ _ _ _
    refine sw ?_
    refine pu (vp s 1) wN ?_
    exact f2
   ·intro f bB
    rintro _ rfl _ _ _ _ _ _ _ _ _ _ _ _ _
    refine sw ?_
    have bC:=(B.kp bB)
    refine ld (vs g ((d).Bits).length i) wN Dk bC ?_
    exact f2
   ·intro f cR
    rintro _ _ _ _ _ _ _ _ _ _ _ _ _ _
    refine sw ?_
    refine mw (vi (e % 1024)) ?_
    exact f2
   ·intro f cS
    rintro _ _ _ rfl _ _ _ _ _ _ _ _ _ _ _
    refine sw ?_
    refine GZ (e % 1024) 32 wN rfl rfl (by kernel_rfl) (by omega) (by omega) (by omega) ?_
    exact f2
   ·intro f cT
    rintro _ _ _ _ _ _ _ _ _ _ _ _ _ _
    refine sw ?_
    refine pu (vp s 1) wN ?_
    exact f2
   ·intro f bD
    rintro _ _ _ _ _ rfl _ _ _ _ _ _ _ _ _
    refine sw ?_
    have bE:=(B.kp bD)
    refine ld (vs g ((d).Bits).length i) wN Dk bE ?_
    exact f2
   ·intro f cU
    rintro _ _ _ _ _ _ _ _ _ _ _ _ _ _
    refine sw ?_
    refine mw (vi (e % 1024)) ?_
    exact f2
   ·intro f cV
    rintro _ _ _ _ _ _ _ rfl _ _ _ _ _ _ _
    refine sw ?_
    refine GZ (e % 1024) 32 wN rfl rfl (by kernel_rfl) (by omega) (by omega) (by omega) ?_
    exact f2
   ·intro f bF
    rintro _ _ _ _ _ rfl _ rfl _ rfl _ rfl _ _ _ _ _ _
    refine sw ?_
    have bG:=(gc G bF)
    refine ix wN ((e % 1024) / 32) Cd (Rd.of_own bG) ?_
    exact f2
   ·intro f bH
    rintro _ _ _ _ _ rfl _ rfl _ rfl _ rfl _ rfl _ _ _ _ _
    refine sw ?_
    have bI:=(gc G bH)
    refine ei (x:=(Eu d.Bits (d.Top+1) j)) ((((e % 1024) / 32)).toNat) wN tE (Rd.of_own bI) ?_
    exact f2
   ·intro f cW
    rintro _ _ _ _ _ _ _ _ _ _ _ _ _ _
    refine sw ?_
    refine mw (vi (e % 1024)) ?_
    exact f2
   ·intro f cX
    rintro _ _ _ _ _ _ _ _ _ _ _ rfl _ _ _
    refine sw ?_
    refine Fq (e % 1024) 32 wN rfl rfl (by kernel_rfl) (by first|omega|assumption) ?_
    exact f2
   ·intro f cY
    rintro _ _ _ _ _ _ _ _ _ _ _ rfl _ rfl _ _
    refine sw ?_
    refine Is 1 ((e % 1024) % 32) wN rfl rfl rfl rfl rfl (by omega) (by omega) (by omega) (by omega) ?_
    have cZ:=Gl (((e % 1024) % 32)).toNat (by omega)
    exact f2
   ·intro f da
    rintro _ _ _ _ _ rfl _ rfl _ rfl _ rfl _ rfl _ rfl _ rfl _ rfl _ rfl
    have db:=Gl (((e % 1024) % 32)).toNat (by omega)
    intro _
    refine sw ?_
    refine Lg ((Eu d.Bits (d.Top+1) j).getD (((e % 1024) / 32)).toNat 0) (1*(2:Int) ^ (((e % 1024) % 32)).toNat) wN rfl rfl (by kernel_rfl) (by omega) (by omega) (by omega) (by omega) ?_
    have dc:=JP (a:=((Eu d.Bits (d.Top+1) j).getD (((e % 1024) / 32)).toNat 0)) (b:=(1*(2:Int) ^ (((e % 1024) % 32)).toNat)) (by omega) (by omega)
    exact f2
  ·intro f N
   rintro _ rfl _ rfl _ rfl _ rfl _ rfl _ rfl _ rfl _ rfl _ rfl _ rfl _ rfl _ rfl _ rfl
   have dd:=Gl (((e % 1024) % 32)).toNat (by omega)
   rintro _ rfl
   have de:=JP (a:=((Eu d.Bits (d.Top+1) j).getD (((e % 1024) / 32)).toNat 0)) (b:=(1*(2:Int) ^ (((e % 1024) % 32)).toNat)) (by omega) (by omega)
   refine sw ?_
   have aC:=(gc G N)
   refine ix wN ((e % 1024) / 32) Cd (Rd.of_own aC) ?_
   refine EC (Eu d.Bits (d.Top+1) j) ((((e % 1024) / 32)).toNat) ((orI ((Eu d.Bits (d.Top+1) j).getD (((e % 1024) / 32)).toNat 0) (1*(2:Int) ^ (((e % 1024) % 32)).toNat))) wN rfl rfl rfl (by simp) rfl CZ aC (by first|omega|(simp only [List.length_append,List.length_replicate,List.length_take,List.length_set,List.length_map];omega)) ?_
   intro a2 R aD
   have aE:=(ae.extk N).ext R (fun k hk=>nT (z2 t q) (Cm m k hk).1)
   refine n4 ?_
   refine mw (vi e) ?_
   refine pu (vp P 0) wN ?_
   have bJ:=(((ad.ch J (Nat.not_le.2 (nL S q.size))).kp N).ch R (fun h=>by have:=(Cm m _ h).1;have:=nL S q.size;omega))
   refine ld (vi d.Top) wN tE bJ ?_
   refine pu (vb (decide (d.Top < e))) wN ?_
   refine n2 ?_
   rcases bf (decide (d.Top < e)) with O|O
   ·have df:=dF O
    refine cf O ?_
    refine y1 ?_
    have bK:=((B.kp N).ch R (fun h=>by have:=(Cm m _ h).2;have:=nT (Nat.le_refl W.heap.size) p;omega))
    refine lN [(vi ((d).Top)),(vs g ((d).Bits).length i)] wN CM Cj bK ?_
    have bL:=(((((((V.kp r).kp D).ch E (nN (nL o (nT r.size p)))).kp A).ch J (Nat.not_le.2 (o))).kp N).ch R (fun h=>by have:=(Cm m _ h).1;have:=nL o (Nat.le_refl C.heap.size);omega))
    refine sv [(vi ((d).Top)),(vs g ((d).Bits).length i)] wN Cj bL ?_
    intro af aF bM dg
    have bN:=aE.ext aF (fun k hk=>by subst hk;exact nT t.size T)
    refine aw (vb true) ?_
    refine n3 ?_
    have aG:=(tC aD aF (ne1 m (o)))
    refine GF (.inl rfl) (va [(vi ((d).Top)),(vs g ((d).Bits).length i)]) (vb true) rfl (Fe [(vi ((d).Top)),(vs g ((d).Bits).length i)] rfl bM CM Cj) rfl ?_
    refine ⟨bN.keep0,?_⟩
    have bO:GQ d e=({Top:=(d).Top,Bits:=((Eu d.Bits (d.Top+1) j).set ((((e % 1024) / 32)).toNat) (orI ((Eu d.Bits (d.Top+1) j).getD (((e % 1024) / 32)).toNat 0) (1*(2:Int) ^ (((e % 1024) % 32)).toNat))):PWin},true):=by have hz:=HA (l:=d.Bits) (top:=d.Top) (n:=e) (j:=j) (Gm (w:=d) (n:=e) (by assumption)).1 (Gm (w:=d) (n:=e) (by assumption)).2.1 (by omega) (by omega) (by omega) (by omega);simp only [GQ,F,y,M,O,cond_true,cond_false];rw [← hz];first|rfl|(rw [PK])|(rw [← PK])
    rw [bO]
    have aH:((d).Bits).length=(((Eu d.Bits (d.Top+1) j).set ((((e % 1024) / 32)).toNat) (orI ((Eu d.Bits (d.Top+1) j).getD (((e % 1024) / 32)).toNat 0) (1*(2:Int) ^ (((e % 1024) % 32)).toNat)))).length:=by first|(simp only [List.length_append,List.length_take,List.length_replicate,List.length_set,List.length_map];done)|(simp only [List.length_append,List.length_take,List.length_replicate,List.length_set,List.length_map];omega)
    rw [aH] at aG ⊢
    exact ⟨_,_,rfl,(tB aG (z2 t q)),(by rw [← aH];exact X),⟨trivial,trivial⟩⟩
   have dh:=dT O
   refine ct O ?_
   refine BZ ?_
   refine mw (vi e) ?_
   refine pu (vp s 0) wN ?_
   have bP:=((B.kp N).ch R (fun h=>by have:=(Cm m _ h).2;have:=nT (Nat.le_refl W.heap.size) p;omega))
   refine st (vi e) [(vi e)] [(vi e),(vs g ((d).Bits).length i)] wN CZ bP ?_
   intro af aj bQ di
   have bR:=aE.ext aj (fun k hk=>by subst hk;exact nT (z3 t q r) p)
   refine nx ?_
   refine lN [(vi e),(vs g ((d).Bits).length i)] wN CM Cj bQ ?_
   have bS:=((((((((V.kp r).kp D).ch E (nN (nL o (nT r.size p)))).kp A).ch J (Nat.not_le.2 (o))).kp N).ch R (fun h=>by have:=(Cm m _ h).1;have:=nL o (Nat.le_refl C.heap.size);omega)).ch aj (nN (nL o (nT r.size p))))
   refine sv [(vi e),(vs g ((d).Bits).length i)] wN Cj bS ?_
   intro br aI bT dj
   have bU:=bR.ext aI (fun k hk=>by subst hk;exact nT t.size T)
   refine aw (vb true) ?_
   refine n3 ?_
   have aJ:=(tC (tC aD aj (ne2 m (p))) aI (ne1 m (o)))
   refine GF (.inl rfl) (va [(vi e),(vs g ((d).Bits).length i)]) (vb true) rfl (Fe [(vi e),(vs g ((d).Bits).length i)] rfl bT CM Cj) rfl ?_
   refine ⟨bU.keep0,?_⟩
   have bW:GQ d e=({Top:=e,Bits:=((Eu d.Bits (d.Top+1) j).set ((((e % 1024) / 32)).toNat) (orI ((Eu d.Bits (d.Top+1) j).getD (((e % 1024) / 32)).toNat 0) (1*(2:Int) ^ (((e % 1024) % 32)).toNat))):PWin},true):=by have hz:=HA (l:=d.Bits) (top:=d.Top) (n:=e) (j:=j) (Gm (w:=d) (n:=e) (by assumption)).1 (Gm (w:=d) (n:=e) (by assumption)).2.1 (by omega) (by omega) (by omega) (by omega);simp only [GQ,F,y,M,O,cond_true,cond_false];rw [← hz];first|rfl|(rw [PK])|(rw [← PK])
   rw [bW]
   have aK:((d).Bits).length=(((Eu d.Bits (d.Top+1) j).set ((((e % 1024) / 32)).toNat) (orI ((Eu d.Bits (d.Top+1) j).getD (((e % 1024) / 32)).toNat 0) (1*(2:Int) ^ (((e % 1024) % 32)).toNat)))).length:=by first|(simp only [List.length_append,List.length_take,List.length_replicate,List.length_set,List.length_map];done)|(simp only [List.length_append,List.length_take,List.length_replicate,List.length_set,List.length_map];omega)
   rw [aK] at aJ ⊢
   exact ⟨_,_,rfl,(tB aJ (z2 t q)),(by rw [← aK];exact X),⟨trivial,trivial⟩⟩
theorem sAdd_len (w:PWin) (n:Int):(GQ w n).1.Bits.length=w.Bits.length:=by
  unfold GQ
  cases h:DC w n
  · rfl
  · have a:=Gm h
    show (PD w.Bits w.Top n).length=w.Bits.length
    rw [PD,JM,FK]

def Ld (w:World) (lo:Nat) (v:Value) (x:(PEp)×(List UInt8)×(Int)):Prop:=∃ (a:Option Addr) (b:Nat) (d:Option Addr) (e:Nat) (f:Option Addr) (g:Nat),v=.tuple #[.agg #[.int .i64 x.1.N,.slice a x.1.Key.length b,.int .i64 x.1.Seq,.int .i64 x.1.Win.Top,.slice d x.1.Win.Bits.length e],.slice f x.2.1.length g,.int .i64 x.2.2]∧w.ownsRow lo 5 1 (.slice a x.1.Key.length b) x.1.Key.length (x.1.Key.map bV)∧x.1.Key.length≤1073741824∧w.ownsRow lo 3 1 (.slice d x.1.Win.Bits.length e) x.1.Win.Bits.length (x.1.Win.Bits.map iV)∧x.1.Win.Bits.length≤1073741824∧w.ownsRow lo 5 1 (.slice f x.2.1.length g) x.2.1.length (x.2.1.map bV)∧x.2.1.length≤1073741824∧Aps [(a,b),(d,e),(f,g)]
def tA (a:PEp) (d:Int) (b:PFrame):(PEp)×(List UInt8)×(Int):=bif (Eo a) then (bif (decide (((Cp d b).length:Int)=0)) then (((a),[],1)) else (bif (decide (b.Epoch=a.N)) then (bif (DC a.Win b.Seq) then (bif ((DF a.Key d b).2) then (({N:=(a).N,Key:=(a).Key,Seq:=(a).Seq,Win:=((GQ a.Win b.Seq).1):PEp},(DF a.Key d b).1,0)) else (((a),[],2))) else (((a),[],3))) else (((a),[],1)))) else (((a),[],1))
theorem Kf (R:World) (aP:Value) (a:PEp) (b1:Lf R aP a) (h:Int) (aQ:Value) (b:PFrame) (b2:JC R aQ b) :Fn Tryz.prog 37 #[aP,(vi h),aQ] R (fun v aR=>Keep R aR∧Ld aR R.heap.size v (tA a h b)):=by
 obtain ⟨X,Y,S,T,rfl,a9,aA,af,ah⟩:=b1
 obtain ⟨ai,aj,ak,am,an,ao,ap,aq,au,av,ax,ay,rfl,aS,aT,aU,aV,aW,aX,aY,aZ,ba,bb,bc,bd⟩:=b2
 refine Cl (n:=64) [(va (Dd a X Y S T)),(vi h),(va (EB b ai aj ak am an ao ap aq au av ax ay))] Tryz.func37 rfl rfl ?_
 refine sr ?_
 refine bx (Dd a X Y S T) wN ?_
 intro Z cu cv b3 m b4
 refine bx (EB b ai aj ak am an ao ap aq au av ax ay) wN ?_
 intro az cw cx b5 l b6
 refine al HC wN Ev ?_
 intro b7 G a0 x p a1
 have aB:=(((Ch.base R).extk m).extk l).extk p
 refine aw (vs none 0 0) ?_
 refine aw (vi 0) ?_
 refine nx ?_
 have be:=((b4.kp l).kp p)
 refine lN (Dd a X Y S T) wN Cs BW be ?_
 refine cl wN (Kc G _ a (Fh (a9.from0 aB) aA (af.from0 aB) ah)) ?_
 rintro _ M ⟨j,⟨q,r,A,B,rfl,C,a2,H,aC,aD⟩⟩
 refine al HC wN Ev ?_
 intro bg cy y bh g b8
 refine sv (Dd (a) q r A B) wN BW b8 ?_
 intro b9 d a3 cz
 have a4:=((aB.extk j).extk g).ext d (fun k hk=>by subst hk;exact nT (z4 m l p j) y)
 refine n4 ?_
 refine jT1 [(1,(vi h)),(3,(vp Z 0)),(5,(vp az 0)),(6,(vp b7 0)),(7,(vs none 0 0)),(8,(vi 0)),(9,(vp bg 0))] (tA a h b=((a),[],1)) ?_ fun aE=>?_
 ·intro bA bi O c0
  refine sr ?_
  have bB:=(a3.kp O)
  refine lN (Dd (a) q r A B) wN Cs BW bB ?_
  refine CR wN rfl rfl tD (fun w=>by kernel_rfl) ?_
  intro bj bk aF a5
  have bC:=(((((a1.kp j).kp g).ch d (nN (nL x (nT j.size y)))).kp O).kp aF)
  refine sv (Dd (a) q r A B) wN BW bC ?_
  intro bl aG bD c1
  have bE:=((a4.extk O).extk aF).ext aG (fun k hk=>by subst hk;exact nT (z2 m l) a0)
  refine aw (vs (some bj) 0 0) ?_
  refine aw (vi 1) ?_
  refine n1 ?_
  have bm:=fun (E sz n:Nat) (v:Value) (F:List Value) (o:World.ownsRow M G.heap.size E sz v n F) (D:World.ownsRow M G.heap.size E sz v n F)=>(tC (gc (gc (tC (gc o g) d (ne2 D (y))) O) aF) aG (ne1 D (x)))
  have bF:=(bm _ _ _ _ _ C C)
  have bG:=(bm _ _ _ _ _ H H)
  have bH:=(tC a5 aG (ne1 a5 (nL x (z4 j g d O))))
  refine ED (.inl rfl) (va (Dd (a) q r A B)) (vs (some bj) 0 0) (vi 1) rfl (Fe (Dd (a) q r A B) rfl bD Cs BW) rfl rfl ?_
  refine ⟨bE.keep0,?_⟩
  rw [bA]
  exact ⟨_,_,_,_,_,_,rfl,(tB bF (z3 m l p)),a2,(tB bG (z3 m l p)),aC,(tB bH (z7 m l p j g d O)),(by simp),⟨⟨(aD.1.1),⟨(Ap.lt C a5 (z3 g d O)),trivial⟩⟩,⟨⟨(Ap.lt H a5 (z3 g d O)),trivial⟩,⟨trivial,trivial⟩⟩⟩⟩
 have bn:=(((be.kp j).kp g).ch d (nN (nL b3 (nT (z3 l p j) y))))
 refine lN (Dd a X Y S T) wN Cs BW bn ?_
 refine cl wN (Mg b9 _ a (Fh (a9.from0 a4) aA (af.from0 a4) ah)) ?_
 rintro _ bi ⟨e,rfl⟩
 have P:=a4.extk e
 refine pu (vb (!(Eo a))) wN ?_
 refine mw (vb (!(Eo a))) ?_
 rcases bf (Eo a) with t|t
 ·iterate 5 refine sk (cA not t) ?_
  refine pk (vb true) wN (cA not t) ?_
  refine mw (vb true) ?_
  iterate 5 refine sk (Eq.refl true) ?_
  refine pk (vb true) wN (Eq.refl true) ?_
  refine n2 ?_
  refine ct (Eq.refl true) ?_
  have bI:tA a h b=((a),[],1):=by simp only [tA,t,cond_true,cond_false]
  exact wj (aE bI _ e)
 have c2:=FV t
 refine mv (vi h) (wS (cA not t)) ?_
 have bo:=(((((b6.kp p).kp j).kp g).ch d (nN (nL b5 (nT (z2 p j) y)))).kp e)
 refine lN (EB b ai aj ak am an ao ap aq au av ax ay) (wS (cA not t)) Dn CV bo ?_
 refine cl (wS (cA not t)) (Jv bi h _ b (FC (aS.from0 P) aT (aU.from0 P) aV (aW.from0 P) aX (aY.from0 P) aZ (ba.from0 P) bb (bc.from0 P) bd)) ?_
 rintro _ bk ⟨f,⟨c3,c4,rfl,bJ,_⟩⟩
 have bp:=P.extk f
 refine ln (wS (cA not t)) tD (Rd.of_own bJ) ?_
 refine pu (vb (decide (((Cp h b).length:Int)=0))) (wS (cA not t)) ?_
 refine pf (vb (decide (((Cp h b).length:Int)=0))) wN (cA not t) ?_
 refine mw (vb (decide (((Cp h b).length:Int)=0))) ?_
 rcases bt (decide (((Cp h b).length:Int)=0)) with u|u
 ·have c5:=dT u
  iterate 5 refine sk u ?_
  refine pk (vb true) wN u ?_
  refine n2 ?_
  refine ct (Eq.refl true) ?_
  have bK:tA a h b=((a),[],1):=by simp only [tA,t,u,cond_true,cond_false]
  exact wj (aE bK _ (e.trans f))
 have c6:=dF u
 refine pu (vp az 7) (wS u) ?_
 have aH:=(bo.kp f)
 refine ld (vi b.Epoch) (wS u) tE aH ?_
 refine pu (vp Z 0) (wS u) ?_
 have aI:=((bn.kp e).kp f)
 refine ld (vi a.N) (wS u) tE aI ?_
 refine pu (vb (!(decide (b.Epoch=a.N)))) (wS u) ?_
 refine pf (vb (!(decide (b.Epoch=a.N)))) wN u ?_
 refine n2 ?_
 rcases bf (decide (b.Epoch=a.N)) with I|I
 ·have c7:=dF I
  refine ct (cA not I) ?_
  have bL:tA a h b=((a),[],1):=by simp only [tA,t,u,I,cond_true,cond_false]
  exact wj (aE bL _ (e.trans f))
 have c8:=dT I
 refine cf (cA not I) ?_
 refine y2 ?_
 refine pu (vp Z 3) wN ?_
 refine lN (DW a.Win S T) wN CM Cj aI ?_
 refine pu (vp az 8) wN ?_
 refine ld (vi b.Seq) wN tE aH ?_
 refine cl wN (Me bk _ a.Win (FX (af.from0 bp) ah) b.Seq) ?_
 rintro _ bl ⟨i,rfl⟩
 have J:=bp.extk i
 refine pu (vb (!(DC a.Win b.Seq))) wN ?_
 refine n2 ?_
 rcases bf (DC a.Win b.Seq) with Q|Q
 ·refine ct (cA not Q) ?_
  refine sr ?_
  have bM:=(((a3.kp e).kp f).kp i)
  refine lN (Dd (a) q r A B) wN Cs BW bM ?_
  refine CR wN rfl rfl tD (fun w=>by kernel_rfl) ?_
  intro bq aJ aK a6
  have bN:=(((((((a1.kp j).kp g).ch d (nN (nL x (nT j.size y)))).kp e).kp f).kp i).kp aK)
  refine sv (Dd (a) q r A B) wN BW bN ?_
  intro br aL bO c9
  have bP:=(J.extk aK).ext aL (fun k hk=>by subst hk;exact nT (z2 m l) a0)
  refine aw (vs (some bq) 0 0) ?_
  refine aw (vi 3) ?_
  refine n1 ?_
  have bu:=fun (E sz n:Nat) (v:Value) (F:List Value) (o:World.ownsRow M G.heap.size E sz v n F) (D:World.ownsRow M G.heap.size E sz v n F)=>(tC (gc (gc (gc (gc (tC (gc o g) d (ne2 D (y))) e) f) i) aK) aL (ne1 D (x)))
  have bQ:=(bu _ _ _ _ _ C C)
  have bR:=(bu _ _ _ _ _ H H)
  have bS:=(tC a6 aL (ne1 a6 (nL x (z6 j g d e f i))))
  refine ED (.inl rfl) (va (Dd (a) q r A B)) (vs (some bq) 0 0) (vi 3) rfl (Fe (Dd (a) q r A B) rfl bO Cs BW) rfl rfl ?_
  refine ⟨bP.keep0,?_⟩
  simp only [tA,t,u,I,Q,cond_true,cond_false]
  exact ⟨_,_,_,_,_,_,rfl,(tB bQ (z3 m l p)),a2,(tB bR (z3 m l p)),aC,(tB bS (z9 m l p j g d e f i)),(by simp),⟨⟨(aD.1.1),⟨(Ap.lt C a6 (z5 g d e f i)),trivial⟩⟩,⟨⟨(Ap.lt H a6 (z5 g d e f i)),trivial⟩,⟨trivial,trivial⟩⟩⟩⟩
 have cC:=Gm Q
 refine cf (cA not Q) ?_
 refine y1 ?_
 refine pu (vp Z 1) wN ?_
 have bv:=(aI.kp i)
 refine ld (vs X a.Key.length Y) wN BT bv ?_
 refine mw (vi h) ?_
 have bw:=(aH.kp i)
 refine lN (EB b ai aj ak am an ao ap aq au av ax ay) wN Dn CV bw ?_
 refine cl wN (Pk bl _ a.Key (CC (a9.from0 J) aA) h _ b (FC (aS.from0 J) aT (aU.from0 J) aV (aW.from0 J) aX (aY.from0 J) aZ (ba.from0 J) bb (bc.from0 J) bd)) ?_
 rintro _ aJ ⟨s,⟨V,W,rfl,aa,bT,cD⟩⟩
 have aM:=J.extk s
 refine mw (.tuple #[(vs V ((DF a.Key h b).1).length W),(vb ((DF a.Key h b).2))]) ?_
 refine pu (vs V ((DF a.Key h b).1).length W) wN ?_
 refine pu (vb ((DF a.Key h b).2)) wN ?_
 refine aw (vs V ((DF a.Key h b).1).length W) ?_
 refine aw (vb ((DF a.Key h b).2)) ?_
 refine n4 ?_
 refine mw (vb ((DF a.Key h b).2)) ?_
 refine pu (vb (!((DF a.Key h b).2))) wN ?_
 refine n2 ?_
 rcases bf ((DF a.Key h b).2) with ab|ab
 ·refine ct (cA not ab) ?_
  refine sr ?_
  have bU:=((((a3.kp e).kp f).kp i).kp s)
  refine lN (Dd (a) q r A B) wN Cs BW bU ?_
  refine CR wN rfl rfl tD (fun w=>by kernel_rfl) ?_
  intro bz br aN a7
  have bW:=((((((((a1.kp j).kp g).ch d (nN (nL x (nT j.size y)))).kp e).kp f).kp i).kp s).kp aN)
  refine sv (Dd (a) q r A B) wN BW bW ?_
  intro bX aO bY cE
  have bZ:=(aM.extk aN).ext aO (fun k hk=>by subst hk;exact nT (z2 m l) a0)
  refine aw (vs (some bz) 0 0) ?_
  refine aw (vi 2) ?_
  refine n1 ?_
  have b0:=fun (E sz n:Nat) (v:Value) (F:List Value) (o:World.ownsRow M G.heap.size E sz v n F) (D:World.ownsRow M G.heap.size E sz v n F)=>(tC (gc (gc (gc (gc (gc (tC (gc o g) d (ne2 D (y))) e) f) i) s) aN) aO (ne1 D (x)))
  have ca:=(b0 _ _ _ _ _ C C)
  have cb:=(b0 _ _ _ _ _ H H)
  have cc:=(tC a7 aO (ne1 a7 (nL x (z7 j g d e f i s))))
  refine ED (.inl rfl) (va (Dd (a) q r A B)) (vs (some bz) 0 0) (vi 2) rfl (Fe (Dd (a) q r A B) rfl bY Cs BW) rfl rfl ?_
  refine ⟨bZ.keep0,?_⟩
  simp only [tA,t,u,I,Q,ab,cond_true,cond_false]
  exact ⟨_,_,_,_,_,_,rfl,(tB ca (z3 m l p)),a2,(tB cb (z3 m l p)),aC,(tB cc (z10 m l p j g d e f i s)),(by simp),⟨⟨(aD.1.1),⟨(Ap.lt C a7 (z6 g d e f i s)),trivial⟩⟩,⟨⟨(Ap.lt H a7 (z6 g d e f i s)),trivial⟩,⟨trivial,trivial⟩⟩⟩⟩
 refine cf (cA not ab) ?_
 refine y1 ?_
 refine pu (vp Z 3) wN ?_
 have cd:=(bv.kp s)
 refine lN (DW a.Win S T) wN CM Cj cd ?_
 refine pu (vp az 8) wN ?_
 have ce:=(bw.kp s)
 refine ld (vi b.Seq) wN tE ce ?_
 refine cl wN (Pj aJ _ a.Win (FX (af.from0 aM) ah) b.Seq) ?_
 rintro _ br ⟨ac,⟨K,L,rfl,ad,cg,cF⟩⟩
 refine mw (.tuple #[(va (DW ((GQ a.Win b.Seq).1) K L)),(vb ((GQ a.Win b.Seq).2))]) ?_
 refine pu (va (DW ((GQ a.Win b.Seq).1) K L)) wN ?_
 refine pu (vb ((GQ a.Win b.Seq).2)) wN ?_
 refine pu (vp bg 3) wN ?_
 have ci:=(((((a3.kp e).kp f).kp i).kp s).kp ac)
 refine st (va (DW ((GQ a.Win b.Seq).1) K L)) (DW ((GQ a.Win b.Seq).1) K L) [(vi ((a).N)),(vs q ((a).Key).length r),(vi ((a).Seq)),(vi (((GQ a.Win b.Seq).1).Top)),(vs K (((GQ a.Win b.Seq).1).Bits).length L)] wN Cj ci ?_
 intro bX ae cj cG
 have ck:=(aM.extk ac).ext ae (fun k hk=>by subst hk;exact nT (z4 m l p j) y)
 refine nx ?_
 refine lN [(vi ((a).N)),(vs q ((a).Key).length r),(vi ((a).Seq)),(vi (((GQ a.Win b.Seq).1).Top)),(vs K (((GQ a.Win b.Seq).1).Bits).length L)] wN Cs BW cj ?_
 refine mw (vs V ((DF a.Key h b).1).length W) ?_
 have cm:=(((((((((a1.kp j).kp g).ch d (nN (nL x (nT j.size y)))).kp e).kp f).kp i).kp s).kp ac).ch ae (nN (nL x (nT j.size y))))
 refine sv [(vi ((a).N)),(vs q ((a).Key).length r),(vi ((a).Seq)),(vi (((GQ a.Win b.Seq).1).Top)),(vs K (((GQ a.Win b.Seq).1).Bits).length L)] wN BW cm ?_
 intro cH a8 cn cI
 have co:=ck.ext a8 (fun k hk=>by subst hk;exact nT (z2 m l) a0)
 refine aw (vs V ((DF a.Key h b).1).length W) ?_
 refine aw (vi 0) ?_
 refine n3 ?_
 have cp:=fun (E sz n:Nat) (v:Value) (F:List Value) (o:World.ownsRow M G.heap.size E sz v n F) (D:World.ownsRow M G.heap.size E sz v n F)=>(tC (tC (gc (gc (gc (gc (gc (tC (gc o g) d (ne2 D (y))) e) f) i) s) ac) ae (ne2 D (y))) a8 (ne1 D (x)))
 have cq:=(cp _ _ _ _ _ C C)
 have cr:=(tC (tC ad ae (ne1 ad (nL bh (z5 d e f i s)))) a8 (ne1 ad (nL x (z7 j g d e f i s))))
 have cs:=(tC (tC (gc aa ac) ae (ne1 aa (nL bh (z4 d e f i)))) a8 (ne1 aa (nL x (z6 j g d e f i))))
 refine ED (.inl rfl) (va [(vi ((a).N)),(vs q ((a).Key).length r),(vi ((a).Seq)),(vi (((GQ a.Win b.Seq).1).Top)),(vs K (((GQ a.Win b.Seq).1).Bits).length L)]) (vs V ((DF a.Key h b).1).length W) (vi 0) rfl (Fe [(vi ((a).N)),(vs q ((a).Key).length r),(vi ((a).Seq)),(vi (((GQ a.Win b.Seq).1).Top)),(vs K (((GQ a.Win b.Seq).1).Bits).length L)] rfl cn Cs BW) rfl rfl ?_
 refine ⟨co.keep0,?_⟩
 simp only [tA,t,u,I,Q,ab,cond_true,cond_false]
 exact ⟨_,_,_,_,_,_,rfl,(tB cq (z3 m l p)),a2,(tB cr (z10 m l p j g d e f i s)),cg,(tB cs (z9 m l p j g d e f i)),bT,⟨⟨(Ap.lt C ad (z6 g d e f i s)),⟨(Ap.lt C aa (z5 g d e f i)),trivial⟩⟩,⟨⟨(Ap.lt aa ad (Nat.le_refl aJ.heap.size)).symm,trivial⟩,⟨trivial,trivial⟩⟩⟩⟩

theorem Kv:∀ w,(sizeOf 23).run Tryz.prog w=.ok 1 w:=fun w=>by kernel_rfl
def GC:PWin:={Top:=(-1),Bits:=List.replicate 32 0}
theorem Pi (b:World)  :Fn Tryz.prog 76 #[] b (fun v d=>Keep b d∧RQ d b.heap.size v (GC)):=by
 refine Cl (n:=14) [] Tryz.func76 rfl rfl ?_
 refine sr ?_
 refine al [(vi 0),(vs none 0 0)] wN FA ?_
 intro r s H t i I
 refine nx ?_
 refine pu (va [(vi (-1)),(vs none 0 0)]) wN ?_
 refine al [(vi 0),(vs none 0 0)] wN FA ?_
 intro e ae m B f J
 refine sv [(vi (-1)),(vs none 0 0)] wN Cj J ?_
 intro o a K af
 have L:=(((Ch.base b).extk i).extk f).ext a (fun k hk=>by subst hk;exact nT i.size m)
 refine n4 ?_
 refine aw (vi 0) ?_
 refine BU<|re<|Ca ?_
 have M:(([]:List Int):List Int)=List.replicate 0 (0:Int):=by first|rfl|exact List.replicate_succ'.symm
 refine CJ [(0,(vp r 0)),(1,(vp e 0)),(2,(vi ((0:Nat):Int)))] ⟨rfl,rfl,(cA (Value.int .i64) (show (0:Int)=((0:Nat):Int) by omega)),trivial⟩ (fun e' d=>∃ (k:Nat) (C:Env) (ab1_1x:Option Addr) (cb1_1x:Nat),e'=pt C [(0,(vp r 0)),(1,(vp e 0)),(2,(vi ((k:Nat):Int)))]∧Ch (fun k=>b.heap.size≤k) b d∧Ch (fun k=>s.heap.size≤k) o d∧k≤32∧(World.ownsRow d o.heap.size 3 1 (.slice ab1_1x (List.replicate k (0:Int)).length cb1_1x) (List.replicate k (0:Int)).length ((List.replicate k (0:Int)).map iV)∧(List.replicate k (0:Int)).length≤1073741824)∧Blk d e 34 [(vi (-1)),(.slice ab1_1x (List.replicate k (0:Int)).length cb1_1x)]) (fun e' _=>(32 - (intOf (e' 2))).toNat) ?_ ?_
 ·exact fun u=>⟨0,u,none,0,rfl,L,(Ch.refl (fun k=>s.heap.size≤k) o),(by omega),(M ▸ ⟨(Dr _ _ _ _),(by simp)⟩),K⟩
 ·rintro _ N ⟨k,C,ab1_1x,cb1_1x,rfl,D,w,ah,⟨g,O⟩,x⟩
  have hpl:(List.replicate k (0:Int)).length=k:=List.length_replicate
  refine Cc<|sr ?_
  refine mw (vi ((k:Nat):Int)) ?_
  refine pu (vb (decide (((k:Nat):Int) < 32))) wN ?_
  refine n2 ?_
  rcases bf (decide (((k:Nat):Int) < 32)) with j|j
  ·have ai:=dF j
   refine cf j ?_
   refine CS<|wb<|wb<|Ce<|re<|sr ?_
   refine lN [(vi (-1)),(vs ab1_1x (List.replicate k (0:Int)).length cb1_1x)] wN CM Cj x ?_
   have P:=(((I.kp f).ch a (nN (nL t (m)))).ch w (Nat.not_le.2 (t)))
   refine sv [(vi (-1)),(vs ab1_1x (List.replicate k (0:Int)).length cb1_1x)] wN Cj P ?_
   intro Q E R aj
   have S:=D.ext E (fun k hk=>by subst hk;exact H)
   refine n3 ?_
   have T:=(tC g E (ne1 g (nL t (z2 f a))))
   refine EY (.inl rfl) (va [(vi (-1)),(vs ab1_1x (List.replicate k (0:Int)).length cb1_1x)]) rfl (Fe [(vi (-1)),(vs ab1_1x (List.replicate k (0:Int)).length cb1_1x)] rfl R CM Cj) ?_
   refine ⟨S.keep0,?_⟩
   have V:GC={Top:=(-1),Bits:=(List.replicate k (0:Int)):PWin}:=by (obtain rfl:k=32:=by omega);rfl
   rw [V]
   exact ⟨_,_,rfl,(tB T (z3 i f a)),O,⟨trivial,trivial⟩⟩
  have ak:=dT j
  refine ct j ?_
  refine Ct<|re<|Cc<|Ca<|BZ ?_
  refine pu (vp e 1) wN ?_
  refine ld (vs ab1_1x (List.replicate k (0:Int)).length cb1_1x) wN Dk x ?_
  refine ltI ([0]:List Int) wN Cd ?_
  intro am an Q l W
  have X:=(gc g l)
  refine apI (List.replicate k (0:Int)) ([0]:List Int) wN Cd X (Rd.of_own W) (z2 w l) ?_
  intro p q ao y F ap Y
  have Z:=(D.extk l).ext y (fun k hk=>nT (z3 i f a) (Cm g k hk).1)
  refine pu (vp e 1) wN ?_
  have aa:=((x.kp l).ch y (fun h=>by have:=(Cm g _ h).1;have:=nL B a.size;omega))
  refine st (vs p ((List.replicate k (0:Int))++([0]:List Int)).length q) [(vs p ((List.replicate k (0:Int))++([0]:List Int)).length q)] [(vi (-1)),(vs p ((List.replicate k (0:Int))++([0]:List Int)).length q)] wN Kv aa ?_
  intro aq A ab au
  have ac:=Z.ext A (fun k hk=>by subst hk;exact nT i.size m)
  refine BU<|BS<|re<|BZ ?_
  refine mw (vi ((k:Nat):Int)) ?_
  refine ar (((k:Nat):Int)+1) wN ?_
  refine aw (vi (((k:Nat):Int)+1)) ?_
  refine BU ?_
  have ad:=(tC F A (ne1 F (nL B a.size)))
  have G:(((List.replicate k (0:Int))++([0]:List Int)):List Int)=List.replicate (k+1) (0:Int):=by first|rfl|exact List.replicate_succ'.symm
  refine CI (w0:=N) [(0,(vp r 0)),(1,(vp e 0)),(2,(vi (((k+1):Nat):Int)))] ?_ ?_ ?_
  · exact ⟨rfl,rfl,(cA (Value.int .i64) (show ((((k:Nat):Int)+1):Int)=(((k+1):Nat):Int) by omega)),trivial⟩
  · exact fun u=>⟨(k+1),u,p,q,rfl,ac,(((((Ch.refl (fun k=>s.heap.size≤k) o).ext w (fun k hk=>hk)).extk l).ext y (fun k hk=>nT (z2 f a) (Cm g k hk).1)).ext A (fun k hk=>by subst hk;exact m)),(by omega),(G ▸ ⟨ad,Y⟩),(by have hb:=ab;first|exact hb|(rw [G] at hb;exact hb))⟩
  · show (32 - (((k+1):Nat):Int)).toNat < (32 - ((k:Nat):Int)).toNat;omega

def Cw (a:Int) (b:List UInt8):(PEp):=bif (Cy a 0 4294967295) then (bif (decide ((b.length:Int)=32)) then ({N:=a,Key:=b,Seq:=0,Win:=(GC):PEp}) else ({N:=0,Key:=[],Seq:=0,Win:={Top:=0,Bits:=[]:PWin}:PEp})) else ({N:=0,Key:=[],Seq:=0,Win:={Top:=0,Bits:=[]:PWin}:PEp})
theorem QJ (g:World) (a:Int) (y:Value) (b:List UInt8) (L:EP g y b) :Fn Tryz.prog 38 #[(vi a),y] g (fun v A=>Keep g A∧Qk A g.heap.size v (Cw a b)):=by
 obtain ⟨i,j,rfl,B,M⟩:=L
 refine Cl (n:=20) [(vi a),(vs i b.length j)] Tryz.func38 rfl rfl ?_
 refine sr ?_
 refine al HC wN Ev ?_
 intro O P C D r E
 have F:=(Ch.base g).extk r
 refine n4 ?_
 refine jT1 [(0,(vi a)),(1,(vs i b.length j)),(4,(vp O 0))] (Cw a b={N:=0,Key:=[],Seq:=0,Win:={Top:=0,Bits:=[]:PWin}:PEp}) ?_ fun G=>?_
 ·intro Q R H ai
  refine sr ?_
  refine pu (va HC) wN ?_
  have S:=(E.kp H)
  refine sv HC wN BW S ?_
  intro T V W aj
  have X:=(F.extk H).ext V (fun k hk=>by subst hk;exact C)
  refine n1 ?_
  refine EY (.inl rfl) (va HC) rfl (Fe HC rfl W Cs BW) ?_
  refine ⟨X.keep0,?_⟩
  rw [Q]
  exact ⟨_,_,_,_,rfl,(by first|exact Dr _ _ _ _|exact OLv.nil _ _ _ _),(by simp),(by first|exact Dr _ _ _ _|exact OLv.nil _ _ _ _),(by simp),⟨⟨(Ap.nl _),trivial⟩,⟨trivial,trivial⟩⟩⟩
 refine mw (vi a) ?_
 refine cl wN (EA P a 0 4294967295) ?_
 rintro _ R ⟨e,rfl⟩
 have I:=F.extk e
 refine pu (vb (!(Cy a 0 4294967295))) wN ?_
 refine mw (vb (!(Cy a 0 4294967295))) ?_
 rcases bf (Cy a 0 4294967295) with d|d
 ·have ak:=CW d
  iterate 3 refine sk (cA not d) ?_
  refine pk (vb true) wN (cA not d) ?_
  refine n2 ?_
  refine ct (Eq.refl true) ?_
  have Y:Cw a b={N:=0,Key:=[],Seq:=0,Win:={Top:=0,Bits:=[]:PWin}:PEp}:=by simp only [Cw,d,cond_true,cond_false]
  exact wj (G Y _ e)
 have am:=CK d
 refine mv (vs i b.length j) (wS (cA not d)) ?_
 refine ln (wS (cA not d)) tD (B.from0 I) ?_
 refine pu (vb (!(decide ((b.length:Int)=32)))) (wS (cA not d)) ?_
 refine pf (vb (!(decide ((b.length:Int)=32)))) wN (cA not d) ?_
 refine n2 ?_
 rcases bf (decide ((b.length:Int)=32)) with f|f
 ·have an:=dF f
  refine ct (cA not f) ?_
  have Z:Cw a b={N:=0,Key:=[],Seq:=0,Win:={Top:=0,Bits:=[]:PWin}:PEp}:=by simp only [Cw,d,f,cond_true,cond_false]
  exact wj (G Z _ e)
 have ao:=dT f
 refine cf (cA not f) ?_
 refine y1 ?_
 refine mw (vi a) ?_
 refine CR wN rfl rfl tD (fun w=>by kernel_rfl) ?_
 intro ap T h aa
 have J:=I.extk h
 refine mw (vs i b.length j) ?_
 refine ap0 b wN tD aa (B.from0 J) h.size ?_
 intro l m K o s aq
 refine cl wN (Pi K ) ?_
 rintro _ au ⟨t,⟨p,q,rfl,u,ab,av⟩⟩
 refine pu (va [(vi a),(vs l b.length m),(vi 0),(vi ((GC).Top)),(vs p ((GC).Bits).length q)]) wN ?_
 have ac:=((((E.kp e).kp h).kp o).kp t)
 refine sv [(vi a),(vs l b.length m),(vi 0),(vi ((GC).Top)),(vs p ((GC).Bits).length q)] wN BW ac ?_
 intro ax x ad ay
 have ae:=((J.extk o).extk t).ext x (fun k hk=>by subst hk;exact C)
 refine n3 ?_
 have af:=(tC (gc s t) x (ne1 s (nL D e.size)))
 have ah:=(tC u x (ne1 u (nL D (z3 e h o))))
 refine EY (.inl rfl) (va [(vi a),(vs l b.length m),(vi 0),(vi ((GC).Top)),(vs p ((GC).Bits).length q)]) rfl (Fe [(vi a),(vs l b.length m),(vi 0),(vi ((GC).Top)),(vs p ((GC).Bits).length q)] rfl ad Cs BW) ?_
 refine ⟨ae.keep0,?_⟩
 simp only [Cw,d,f,cond_true,cond_false]
 exact ⟨_,_,_,_,rfl,(tB af (z2 r e)),M,(tB ah (z4 r e h o)),ab,⟨⟨(Ap.lt s u (Nat.le_refl K.heap.size)),trivial⟩,⟨trivial,trivial⟩⟩⟩
theorem epNew_N (n:Int) (k:List UInt8):0≤(Cw n k).N∧(Cw n k).N≤4294967295:=by
  unfold Cw
  cases h1:Cy n 0 4294967295 with
  | false=>exact ⟨Int.le_refl _,(show (0:Int)≤4294967295 by decide)⟩
  | true =>
    cases decide ((k.length:Int)=32) with
    | false=>exact ⟨Int.le_refl _,(show (0:Int)≤4294967295 by decide)⟩
    | true=>exact CK h1
end Go.Proofs.YtacoceibbheccaaGreat.K
