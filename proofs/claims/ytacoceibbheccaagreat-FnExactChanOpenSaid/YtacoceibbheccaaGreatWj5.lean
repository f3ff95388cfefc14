import Derived.Test.YtacoceibbheccaaGreatCore
import Derived.Test.YtacoceibbheccaaGreatProg
import Derived.Test.YtacoceibbheccaaGreatHeld
import Derived.Test.YtacoceibbheccaaGreatFun
import Derived.Test.YtacoceibbheccaaGreatFunZ
import Derived.Test.YtacoceibbheccaaGreatSqz
import Derived.Test.YtacoceibbheccaaGreatHash
import Derived.Test.YtacoceibbheccaaGreatCur
import Derived.Test.YtacoceibbheccaaGreatDrawW
import Derived.Test.YtacoceibbheccaaGreatAead
import Derived.Test.YtacoceibbheccaaGreatWj4
namespace Go.Proofs.YtacoceibbheccaaGreat.K
open Go.RowKit
set_option linter.unusedVariables false
set_option linter.unusedSimpArgs false
set_option maxRecDepth 100000
set_option maxHeartbeats 4000000
theorem MX (G:World) (av:Value) (i:List Int) (aK:Mw G av i) (ax:Value) (p:List UInt8) (aL:EP G ax p) :Fn Tryz.prog 150 #[av,ax] G (fun v K=>Keep G K∧Qm K G.heap.size v (Dz i p)):=by
 obtain ⟨B,C,rfl,F,af⟩:=aK
 obtain ⟨X,Y,rfl,ay,aM⟩:=aL
 refine Cl (n:=151) [(vs B i.length C),(vs X p.length Y)] Tryz.func150 rfl rfl ?_
 refine sr ?_
 refine aw (vs none 0 0) ?_
 refine nx ?_
 refine CR wN rfl rfl Cd (fun w=>by kernel_rfl) ?_
 intro bT bU az aN
 have a0:=(Ch.base G).extk az
 refine mw (vs B i.length C) ?_
 refine QV i wN Cd aN (F.from0 a0) az.size ?_
 intro I J a1 aO Q bW
 have ah:=a0.extk aO
 refine aw (vs I i.length J) ?_
 refine n4 ?_
 refine jT1 [(0,(vs B i.length C)),(1,(vs X p.length Y)),(4,(vs none 0 0)),(5,(vs I i.length J))] (Dz i p=i) ?_ fun a2=>?_
 ·intro aP a3 a4 bX
  have aQ:=ah.extk a4
  refine sr ?_
  refine mw (vs I i.length J) ?_
  refine aw (vs I i.length J) ?_
  refine n1 ?_
  have aR:=(gc Q a4)
  refine rt (vs I i.length J) ?_
  refine ⟨aQ.keep0,?_⟩
  rw [aP]
  exact ⟨_,_,rfl,aR,af,⟨trivial,trivial⟩⟩
 refine mw (vs B i.length C) ?_
 refine cl wN (HQ a1 _ i (GY (F.from0 ah) af) 8) ?_
 rintro _ a3 ⟨R,rfl⟩
 have ai:=ah.extk R
 refine pu (vb (!(Gp i 8))) wN ?_
 refine mw (vb (!(Gp i 8))) ?_
 rcases bf (Gp i 8) with L|L
 ·iterate 3 refine sk (cA not L) ?_
  refine pk (vb true) wN (cA not L) ?_
  refine n2 ?_
  refine ct (Eq.refl true) ?_
  have aS:Dz i p=i:=by first|exact FQ (by first|assumption|exact ‹ws8 i=false›)|exact FP (by omega)|exact FO (by first|assumption|exact ‹ws8 i=true›) (by omega) (by omega)
  exact wj (a2 aS _ R)
 have bY:=FF L
 refine mv (vs X p.length Y) (wS (cA not L)) ?_
 refine ln (wS (cA not L)) tD (ay.from0 ai) ?_
 refine pu (vb (!(decide ((p.length:Int)=64)))) (wS (cA not L)) ?_
 refine pf (vb (!(decide ((p.length:Int)=64)))) wN (cA not L) ?_
 refine n2 ?_
 rcases bf (decide ((p.length:Int)=64)) with S|S
 ·have bZ:=dF S
  refine ct (cA not S) ?_
  have aT:Dz i p=i:=by first|exact FQ (by first|assumption|exact ‹ws8 i=false›)|exact FP (by omega)|exact FO (by first|assumption|exact ‹ws8 i=true›) (by omega) (by omega)
  exact wj (a2 aT _ R)
 have ca:=dT S
 refine cf (cA not S) ?_
 refine y1 ?_
 refine mw (vs X p.length Y) ?_
 refine cl wN (MW a3 _ p (CC (ay.from0 ai) aM)) ?_
 rintro _ a5 ⟨Z,⟨O,P,rfl,aa,_⟩⟩
 have H:=ai.extk Z
 have cb:=Jk p
 refine aw (vs O (schedP p).length P) ?_
 refine BU<|re<|Cc ?_
 refine FB ([(36,[],[],(fun _ v _=>v=(vs B i.length C))),(37,[],[0],(fun _ v _=>v=(ve (vs B i.length C) ((0:Int).toNat*1)))),(38,[],[0,1],(fun _ v _=>v=(vi (i.getD 0 0)))),(39,[],[],(fun _ v _=>v=(vs B i.length C))),(40,[],[3],(fun _ v _=>v=(ve (vs B i.length C) ((1:Int).toNat*1)))),(41,[],[3,4],(fun _ v _=>v=(vi (i.getD 1 0)))),(42,[],[],(fun _ v _=>v=(vs B i.length C))),(43,[],[6],(fun _ v _=>v=(ve (vs B i.length C) ((2:Int).toNat*1)))),(44,[],[6,7],(fun _ v _=>v=(vi (i.getD 2 0)))),(45,[],[],(fun _ v _=>v=(vs B i.length C))),(46,[],[9],(fun _ v _=>v=(ve (vs B i.length C) ((3:Int).toNat*1)))),(47,[],[9,10],(fun _ v _=>v=(vi (i.getD 3 0)))),(48,[],[],(fun _ v _=>v=(vs B i.length C))),(49,[],[12],(fun _ v _=>v=(ve (vs B i.length C) ((4:Int).toNat*1)))),(50,[],[12,13],(fun _ v _=>v=(vi (i.getD 4 0)))),(51,[],[],(fun _ v _=>v=(vs B i.length C))),(52,[],[15],(fun _ v _=>v=(ve (vs B i.length C) ((5:Int).toNat*1)))),(53,[],[15,16],(fun _ v _=>v=(vi (i.getD 5 0)))),(54,[],[],(fun _ v _=>v=(vs B i.length C))),(55,[],[18],(fun _ v _=>v=(ve (vs B i.length C) ((6:Int).toNat*1)))),(56,[],[18,19],(fun _ v _=>v=(vi (i.getD 6 0)))),(57,[],[],(fun _ v _=>v=(vs B i.length C))),(58,[],[21],(fun _ v _=>v=(ve (vs B i.length C) ((7:Int).toNat*1)))),(59,[],[21,22],(fun _ v _=>v=(vi (i.getD 7 0)))),(7,[],[0,1,2],(fun _ v _=>v=(vi (i.getD 0 0)))),(8,[],[0,1,2,3,4,5,24],(fun _ v _=>v=(vi (i.getD 1 0)))),(9,[],[0,1,2,3,4,5,6,7,8,24,25],(fun _ v _=>v=(vi (i.getD 2 0)))),(10,[],[0,1,2,3,4,5,6,7,8,9,10,11,24,25,26],(fun _ v _=>v=(vi (i.getD 3 0)))),(11,[],[0,1,2,3,4,5,6,7,8,9,10,11,12,13,14,24,25,26,27],(fun _ v _=>v=(vi (i.getD 4 0)))),(12,[],[0,1,2,3,4,5,6,7,8,9,10,11,12,13,14,15,16,17,24,25,26,27,28],(fun _ v _=>v=(vi (i.getD 5 0)))),(13,[],[0,1,2,3,4,5,6,7,8,9,10,11,12,13,14,15,16,17,18,19,20,24,25,26,27,28,29],(fun _ v _=>v=(vi (i.getD 6 0))))]:GV) DN rfl (by kernel_rfl) (by kernel_rfl) ?_ ?_ ?_
 ·exact ⟨hV,hE,⟨hV,hE,⟨hV,hE,⟨hV,hE,⟨hV,hE,⟨hV,hE,⟨hV,hE,⟨hV,hE,⟨hV,hE,⟨hV,hE,⟨hV,hE,⟨hV,hE,⟨hV,hE,⟨hV,hE,⟨hV,hE,⟨hV,hE,⟨hV,hE,⟨hV,hE,⟨hV,hE,⟨hV,hE,⟨hV,hE,⟨hV,hE,⟨hV,hE,⟨hV,hE,⟨hV,hE,⟨hV,hE,⟨hV,hE,⟨hV,hE,⟨hV,hE,⟨hV,hE,⟨hV,hE,trivial⟩⟩⟩⟩⟩⟩⟩⟩⟩⟩⟩⟩⟩⟩⟩⟩⟩⟩⟩⟩⟩⟩⟩⟩⟩⟩⟩⟩⟩⟩⟩
 ·refine ⟨?_,⟨?_,⟨?_,⟨?_,⟨?_,⟨?_,⟨?_,⟨?_,⟨?_,⟨?_,⟨?_,⟨?_,⟨?_,⟨?_,⟨?_,⟨?_,⟨?_,⟨?_,⟨?_,⟨?_,⟨?_,⟨?_,⟨?_,⟨?_,⟨?_,⟨?_,⟨?_,⟨?_,⟨?_,⟨?_,⟨?_,trivial⟩⟩⟩⟩⟩⟩⟩⟩⟩⟩⟩⟩⟩⟩⟩⟩⟩⟩⟩⟩⟩⟩⟩⟩⟩⟩⟩⟩⟩⟩⟩
  ·intro A cc
   rintro _ _ _ _ _ _ _ _ _ _ _ _ _ _ _ _ _ _ _ _ _ _ _ _ _ _ _ _ _ _ _
   refine sw ?_
   refine mw (vs B i.length C) ?_
   exact f2
  ·intro A aU
   have aV:=H.extk aU
   rintro _ rfl _ _ _ _ _ _ _ _ _ _ _ _ _ _ _ _ _ _ _ _ _ _ _ _ _ _ _ _ _ _
   refine sw ?_
   refine ix wN 0 Cd (F.from0 aV) ?_
   exact f2
  ·intro A aW
   have aX:=H.extk aW
   rintro _ rfl _ rfl _ _ _ _ _ _ _ _ _ _ _ _ _ _ _ _ _ _ _ _ _ _ _ _ _ _ _ _ _
   refine sw ?_
   refine ei (x:=i) 0 wN tE (F.from0 aX) ?_
   exact f2
  ·intro A cd
   rintro _ _ _ _ _ _ _ _ _ _ _ _ _ _ _ _ _ _ _ _ _ _ _ _ _ _ _ _ _ _ _
   refine sw ?_
   refine mw (vs B i.length C) ?_
   exact f2
  ·intro A aY
   have aZ:=H.extk aY
   rintro _ _ _ _ rfl _ _ _ _ _ _ _ _ _ _ _ _ _ _ _ _ _ _ _ _ _ _ _ _ _ _ _
   refine sw ?_
   refine ix wN 1 Cd (F.from0 aZ) ?_
   exact f2
  ·intro A ba
   have bb:=H.extk ba
   rintro _ _ _ _ rfl _ rfl _ _ _ _ _ _ _ _ _ _ _ _ _ _ _ _ _ _ _ _ _ _ _ _ _ _
   refine sw ?_
   refine ei (x:=i) 1 wN tE (F.from0 bb) ?_
   exact f2
  ·intro A ce
   rintro _ _ _ _ _ _ _ _ _ _ _ _ _ _ _ _ _ _ _ _ _ _ _ _ _ _ _ _ _ _ _
   refine sw ?_
   refine mw (vs B i.length C) ?_
   exact f2
  ·intro A bc
   have bd:=H.extk bc
   rintro _ _ _ _ _ _ _ rfl _ _ _ _ _ _ _ _ _ _ _ _ _ _ _ _ _ _ _ _ _ _ _ _
   refine sw ?_
   refine ix wN 2 Cd (F.from0 bd) ?_
   exact f2
  ·intro A be
   have bg:=H.extk be
   rintro _ _ _ _ _ _ _ rfl _ rfl _ _ _ _ _ _ _ _ _ _ _ _ _ _ _ _ _ _ _ _ _ _ _
   refine sw ?_
   refine ei (x:=i) 2 wN tE (F.from0 bg) ?_
   exact f2
  ·intro A cg
   rintro _ _ _ _ _ _ _ _ _ _ _ _ _ _ _ _ _ _ _ _ _ _ _ _ _ _ _ _ _ _ _
   refine sw ?_
   refine mw (vs B i.length C) ?_
   exact f2
  ·intro A bh
   have bi:=H.extk bh
   rintro _ _ _ _ _ _ _ _ _ _ rfl _ _ _ _ _ _ _ _ _ _ _ _ _ _ _ _ _ _ _ _ _
   refine sw ?_
   refine ix wN 3 Cd (F.from0 bi) ?_
   exact f2
  ·intro A bj
   have bk:=H.extk bj
   rintro _ _ _ _ _ _ _ _ _ _ rfl _ rfl _ _ _ _ _ _ _ _ _ _ _ _ _ _ _ _ _ _ _ _
   refine sw ?_
   refine ei (x:=i) 3 wN tE (F.from0 bk) ?_
   exact f2
  ·intro A ci
   rintro _ _ _ _ _ _ _ _ _ _ _ _ _ _ _ _ _ _ _ _ _ _ _ _ _ _ _ _ _ _ _
   refine sw ?_
   refine mw (vs B i.length C) ?_
   exact f2
  ·intro A bl
   have bm:=H.extk bl
   rintro _ _ _ _ _ _ _ _ _ _ _ _ _ rfl _ _ _ _ _ _ _ _ _ _ _ _ _ _ _ _ _ _
   refine sw ?_
   refine ix wN 4 Cd (F.from0 bm) ?_
   exact f2
  ·intro A bn
   have bo:=H.extk bn
   rintro _ _ _ _ _ _ _ _ _ _ _ _ _ rfl _ rfl _ _ _ _ _ _ _ _ _ _ _ _ _ _ _ _ _
   refine sw ?_
   refine ei (x:=i) 4 wN tE (F.from0 bo) ?_
   exact f2
  ·intro A cj
   rintro _ _ _ _ _ _ _ _ _ _ _ _ _ _ _ _ _ _ _ _ _ _ _ _ _ _ _ _ _ _ _
   refine sw ?_
   refine mw (vs B i.length C) ?_
   exact f2
  ·intro A bp
   have bq:=H.extk bp
   rintro _ _ _ _ _ _ _ _ _ _ _ _ _ _ _ _ rfl _ _ _ _ _ _ _ _ _ _ _ _ _ _ _
   refine sw ?_
   refine ix wN 5 Cd (F.from0 bq) ?_
   exact f2
  ·intro A br
   have bu:=H.extk br
   rintro _ _ _ _ _ _ _ _ _ _ _ _ _ _ _ _ rfl _ rfl _ _ _ _ _ _ _ _ _ _ _ _ _ _
   refine sw ?_
   refine ei (x:=i) 5 wN tE (F.from0 bu) ?_
   exact f2
  ·intro A ck
   rintro _ _ _ _ _ _ _ _ _ _ _ _ _ _ _ _ _ _ _ _ _ _ _ _ _ _ _ _ _ _ _
   refine sw ?_
   refine mw (vs B i.length C) ?_
   exact f2
  ·intro A bv
   have bw:=H.extk bv
   rintro _ _ _ _ _ _ _ _ _ _ _ _ _ _ _ _ _ _ _ rfl _ _ _ _ _ _ _ _ _ _ _ _
   refine sw ?_
   refine ix wN 6 Cd (F.from0 bw) ?_
   exact f2
  ·intro A bz
   have b0:=H.extk bz
   rintro _ _ _ _ _ _ _ _ _ _ _ _ _ _ _ _ _ _ _ rfl _ rfl _ _ _ _ _ _ _ _ _ _ _
   refine sw ?_
   refine ei (x:=i) 6 wN tE (F.from0 b0) ?_
   exact f2
  ·intro A cm
   rintro _ _ _ _ _ _ _ _ _ _ _ _ _ _ _ _ _ _ _ _ _ _ _ _ _ _ _ _ _ _ _
   refine sw ?_
   refine mw (vs B i.length C) ?_
   exact f2
  ·intro A b1
   have b2:=H.extk b1
   rintro _ _ _ _ _ _ _ _ _ _ _ _ _ _ _ _ _ _ _ _ _ _ rfl _ _ _ _ _ _ _ _ _
   refine sw ?_
   refine ix wN 7 Cd (F.from0 b2) ?_
   exact f2
  ·intro A b3
   have b4:=H.extk b3
   rintro _ _ _ _ _ _ _ _ _ _ _ _ _ _ _ _ _ _ _ _ _ _ rfl _ rfl _ _ _ _ _ _ _ _
   refine sw ?_
   refine ei (x:=i) 7 wN tE (F.from0 b4) ?_
   exact f2
  ·intro A cn
   rintro _ rfl _ rfl _ rfl _ _ _ _ _ _ _ _ _ _ _ _ _ _ _ _ _ _ _ _ _ _ _ _ _ _ _ _
   refine sw ?_
   refine aw (vi (i.getD 0 0)) ?_
   exact f2
  ·intro A co
   rintro _ rfl _ rfl _ rfl _ rfl _ rfl _ rfl _ _ _ _ _ _ _ _ _ _ _ _ _ _ _ _ _ _ _ rfl _ _ _ _ _ _
   refine sw ?_
   refine aw (vi (i.getD 1 0)) ?_
   exact f2
  ·intro A cp
   rintro _ rfl _ rfl _ rfl _ rfl _ rfl _ rfl _ rfl _ rfl _ rfl _ _ _ _ _ _ _ _ _ _ _ _ _ _ _ _ rfl _ rfl _ _ _ _ _
   refine sw ?_
   refine aw (vi (i.getD 2 0)) ?_
   exact f2
  ·intro A cq
   rintro _ rfl _ rfl _ rfl _ rfl _ rfl _ rfl _ rfl _ rfl _ rfl _ rfl _ rfl _ rfl _ _ _ _ _ _ _ _ _ _ _ _ _ rfl _ rfl _ rfl _ _ _ _
   refine sw ?_
   refine aw (vi (i.getD 3 0)) ?_
   exact f2
  ·intro A cr
   rintro _ rfl _ rfl _ rfl _ rfl _ rfl _ rfl _ rfl _ rfl _ rfl _ rfl _ rfl _ rfl _ rfl _ rfl _ rfl _ _ _ _ _ _ _ _ _ _ rfl _ rfl _ rfl _ rfl _ _ _
   refine sw ?_
   refine aw (vi (i.getD 4 0)) ?_
   exact f2
  ·intro A cs
   rintro _ rfl _ rfl _ rfl _ rfl _ rfl _ rfl _ rfl _ rfl _ rfl _ rfl _ rfl _ rfl _ rfl _ rfl _ rfl _ rfl _ rfl _ rfl _ _ _ _ _ _ _ rfl _ rfl _ rfl _ rfl _ rfl _ _
   refine sw ?_
   refine aw (vi (i.getD 5 0)) ?_
   exact f2
  ·intro A cu
   rintro _ rfl _ rfl _ rfl _ rfl _ rfl _ rfl _ rfl _ rfl _ rfl _ rfl _ rfl _ rfl _ rfl _ rfl _ rfl _ rfl _ rfl _ rfl _ rfl _ rfl _ rfl _ _ _ _ rfl _ rfl _ rfl _ rfl _ rfl _ rfl _
   refine sw ?_
   refine aw (vi (i.getD 6 0)) ?_
   exact f2
 ·intro A M
  have b5:=H.extk M
  rintro _ rfl _ rfl _ rfl _ rfl _ rfl _ rfl _ rfl _ rfl _ rfl _ rfl _ rfl _ rfl _ rfl _ rfl _ rfl _ rfl _ rfl _ rfl _ rfl _ rfl _ rfl _ rfl _ rfl _ rfl _ rfl _ rfl _ rfl _ rfl _ rfl _ rfl _ rfl
  refine sw ?_
  refine aw (vi (i.getD 7 0)) ?_
  refine n4 ?_
  refine aw (vi 0) ?_
  refine BU<|re<|Ca ?_
  refine CJ [(0,(vs B i.length C)),(4,(vs none 0 0)),(5,(vs I i.length J)),(6,(vs O (schedP p).length P)),(7,(vi ((Db (schedP p) (Dt i) 0).a))),(8,(vi ((Db (schedP p) (Dt i) 0).b))),(9,(vi ((Db (schedP p) (Dt i) 0).c))),(10,(vi ((Db (schedP p) (Dt i) 0).d))),(11,(vi ((Db (schedP p) (Dt i) 0).e))),(12,(vi ((Db (schedP p) (Dt i) 0).f))),(13,(vi ((Db (schedP p) (Dt i) 0).g))),(14,(vi ((Db (schedP p) (Dt i) 0).z))),(15,(vi ((0:Nat):Int)))] ⟨rfl,rfl,rfl,rfl,(cA (Value.int .i64) (show ((i.getD 0 0):Int)=(Db (schedP p) (Dt i) 0).a by rfl)),(cA (Value.int .i64) (show ((i.getD 1 0):Int)=(Db (schedP p) (Dt i) 0).b by rfl)),(cA (Value.int .i64) (show ((i.getD 2 0):Int)=(Db (schedP p) (Dt i) 0).c by rfl)),(cA (Value.int .i64) (show ((i.getD 3 0):Int)=(Db (schedP p) (Dt i) 0).d by rfl)),(cA (Value.int .i64) (show ((i.getD 4 0):Int)=(Db (schedP p) (Dt i) 0).e by rfl)),(cA (Value.int .i64) (show ((i.getD 5 0):Int)=(Db (schedP p) (Dt i) 0).f by rfl)),(cA (Value.int .i64) (show ((i.getD 6 0):Int)=(Db (schedP p) (Dt i) 0).g by rfl)),(cA (Value.int .i64) (show ((i.getD 7 0):Int)=(Db (schedP p) (Dt i) 0).z by rfl)),(cA (Value.int .i64) (show (0:Int)=((0:Nat):Int) by omega)),trivial⟩ (fun e' K=>∃ (k:Nat) (o:Int) (q:Int) (r:Int) (D:Int) (j:Int) (s:Int) (t:Int) (y:Int) (a6:Env),e'=pt a6 [(0,(vs B i.length C)),(4,(vs none 0 0)),(5,(vs I i.length J)),(6,(vs O (schedP p).length P)),(7,(vi o)),(8,(vi q)),(9,(vi r)),(10,(vi D)),(11,(vi j)),(12,(vi s)),(13,(vi t)),(14,(vi y)),(15,(vi ((k:Nat):Int)))]∧Ch (fun k=>G.heap.size≤k) G K∧Ch (fun k=>A.heap.size≤k) A K∧k≤64∧o=(Db (schedP p) (Dt i) k).a∧q=(Db (schedP p) (Dt i) k).b∧r=(Db (schedP p) (Dt i) k).c∧D=(Db (schedP p) (Dt i) k).d∧j=(Db (schedP p) (Dt i) k).e∧s=(Db (schedP p) (Dt i) k).f∧t=(Db (schedP p) (Dt i) k).g∧y=(Db (schedP p) (Dt i) k).z) (fun e' _=>(64 - (intOf (e' 15))).toNat) ?_ ?_
  ·exact fun u=>⟨0,(Db (schedP p) (Dt i) 0).a,(Db (schedP p) (Dt i) 0).b,(Db (schedP p) (Dt i) 0).c,(Db (schedP p) (Dt i) 0).d,(Db (schedP p) (Dt i) 0).e,(Db (schedP p) (Dt i) 0).f,(Db (schedP p) (Dt i) 0).g,(Db (schedP p) (Dt i) 0).z,u,rfl,b5,(Ch.refl (fun k=>A.heap.size≤k) A),(by omega),(by first|rfl|assumption),(by first|rfl|assumption),(by first|rfl|assumption),(by first|rfl|assumption),(by first|rfl|assumption),(by first|rfl|assumption),(by first|rfl|assumption),(by first|rfl|assumption)⟩
  ·rintro _ aj ⟨k,o,q,r,D,j,s,t,y,a6,rfl,a7,T,cv,hi_a,hi_b,hi_c,hi_d,hi_e,hi_f,hi_g,hi_z⟩
   obtain ⟨zw,hzw⟩:∃ z,(schedP p).getD k 0=z:=⟨_,rfl⟩
   have hwd:0≤zw∧zw < 4294967296:=hzw ▸ Ha (LM p) k
   obtain ⟨zk,hzk⟩:∃ z,kw.getD k 0=z:=⟨_,rfl⟩
   have hkw:0≤zk∧zk < 4294967296:=hzk ▸ Ha Sk k
   have hkl:kw.length=64:=rfl
   have hok:=IN (w:=schedP p) (JN (FF (by first|assumption|exact ‹ws8 i=true›)).1) k
   unfold S8.ok at hok
   rw [← hi_a,← hi_b,← hi_c,← hi_d,← hi_e,← hi_f,← hi_g,← hi_z] at hok
   refine Cc<|sr ?_
   refine mw (vi ((k:Nat):Int)) ?_
   refine pu (vb (decide (((k:Nat):Int) < 64))) wN ?_
   refine n2 ?_
   rcases bf (decide (((k:Nat):Int) < 64)) with V|V
   ·have cw:=dF V
    refine cf V ?_
    refine CS<|wb ?_
    obtain rfl:k=64:=by omega
    refine wb<|Ce<|re<|Cc<|sr ?_
    refine mw (vi o) ?_
    refine mw (vi q) ?_
    refine mw (vi r) ?_
    refine mw (vi D) ?_
    refine mw (vi j) ?_
    refine mw (vi s) ?_
    refine mw (vi t) ?_
    refine mw (vi y) ?_
    refine ltI ([o,q,r,D,j,s,t,y]:List Int) wN Cd ?_
    intro ab ac E a8 ak
    have b6:=a7.extk a8
    refine ln wN Cd (Rd.of_own ak) ?_
    refine mw (vi 0) ?_
    refine BU<|re<|Ca ?_
    have b7:=(gc (tC (gc (gc (gc Q R) Z) M) T (fun g hg hlt hk=>by have am:=(Cm Q g hg).2;have an:a1.heap.size≤A.heap.size:=(z3 R Z M);have ao:A.heap.size≤g:=hk;omega)) a8)
    have b8:(i:List Int)=(Hl i (S8.list (Db (schedP p) (Dt i) 64))).take 0++i.drop 0:=by first|rfl|simp
    have b9:(([o,q,r,D,j,s,t,y]:List Int):List Int)=([o,q,r,D,j,s,t,y]:List Int):=by first|rfl|simp
    refine CJ [(0,(vs B i.length C)),(4,(vs none 0 0)),(5,(vs I i.length J)),(133,(vs ab ([o,q,r,D,j,s,t,y]:List Int).length ac)),(134,(vi (([o,q,r,D,j,s,t,y]:List Int).length:Int))),(135,(vi ((0:Nat):Int)))] ⟨rfl,rfl,rfl,rfl,rfl,(cA (Value.int .i64) (show (0:Int)=((0:Nat):Int) by omega)),trivial⟩ (fun e' K=>∃ (m:Nat) (a9:Env),e'=pt a9 [(0,(vs B i.length C)),(4,(vs none 0 0)),(5,(vs I i.length J)),(133,(vs ab ([o,q,r,D,j,s,t,y]:List Int).length ac)),(134,(vi (([o,q,r,D,j,s,t,y]:List Int).length:Int))),(135,(vi ((m:Nat):Int)))]∧Ch (fun k=>G.heap.size≤k) G K∧Ch (fun k=>G.heap.size≤k) E K∧m≤8∧World.ownsRow K G.heap.size 3 1 (.slice I i.length J) i.length (((Hl i (S8.list (Db (schedP p) (Dt i) 64))).take m++i.drop m).map iV)∧World.ownsRow K aj.heap.size 3 1 (.slice ab ([o,q,r,D,j,s,t,y]:List Int).length ac) ([o,q,r,D,j,s,t,y]:List Int).length ((([o,q,r,D,j,s,t,y]:List Int)).map iV)) (fun e' _=>(8 - (intOf (e' 135))).toNat) ?_ ?_
    ·exact fun u=>⟨0,u,rfl,b6,(Ch.refl (fun k=>G.heap.size≤k) E),(by omega),(by rw [← b8];exact b7),(by rw [← b9];exact ak)⟩
    ·rintro _ N ⟨m,a9,rfl,ad,bA,cx,ap,aq⟩
     have hlL:([o,q,r,D,j,s,t,y]:List Int).length=8:=rfl
     have hll:(Hl i (S8.list (Db (schedP p) (Dt i) 64))).length=8:=Kl (by omega) rfl
     have cy:(i.length:Int)=8:=(FF (by first|assumption|exact ‹ws8 i=true›)).2
     have cz:=Ha (FF (by first|assumption|exact ‹ws8 i=true›)).1 m
     have hle:([o,q,r,D,j,s,t,y]:List Int)=(S8.list (Db (schedP p) (Dt i) 64)):=by rw [hi_a,hi_b,hi_c,hi_d,hi_e,hi_f,hi_g,hi_z];rfl
     have c0:0≤([o,q,r,D,j,s,t,y]:List Int).getD m 0∧([o,q,r,D,j,s,t,y]:List Int).getD m 0 < 4294967296:=hle ▸ Ha (Rl (IN (w:=schedP p) (JN (FF (by first|assumption|exact ‹ws8 i=true›)).1) 64)) m
     refine sr ?_
     refine pu (vb (decide (((m:Nat):Int) < (([o,q,r,D,j,s,t,y]:List Int).length:Int)))) wN ?_
     refine BU<|re<|Cc ?_
     rcases bf (decide (((m:Nat):Int) < (([o,q,r,D,j,s,t,y]:List Int).length:Int))) with W|W
     ·have c1:=dF W
      refine cf W ?_
      refine CS<|wb<|wb<|Ce<|re<|sr ?_
      refine mw (vs I i.length J) ?_
      refine aw (vs I i.length J) ?_
      refine n3 ?_
      refine rt (vs I i.length J) ?_
      refine ⟨ad.keep0,?_⟩
      have bB:Dz i p=((Hl i (S8.list (Db (schedP p) (Dt i) 64))).take m++i.drop m):=by first|exact FQ (by first|assumption|exact ‹ws8 i=false›)|exact FP (by omega)|exact FO (by first|assumption|exact ‹ws8 i=true›) (by omega) (by omega)
      rw [bB]
      have aA:i.length=(((Hl i (S8.list (Db (schedP p) (Dt i) 64))).take m++i.drop m)).length:=by simp only [List.length_append,List.length_take,List.length_drop];omega
      rw [aA] at ap ⊢
      exact ⟨_,_,rfl,ap,(by rw [← aA];exact af),⟨trivial,trivial⟩⟩
     have c2:=dT W
     refine ct W ?_
     refine Ct<|re<|Cc<|Ca<|sr ?_
     refine mw (vi ((m:Nat):Int)) ?_
     refine ix wN ((m:Nat):Int) Cd (Rd.of_own aq) ?_
     refine ei (x:=(([o,q,r,D,j,s,t,y]:List Int))) m wN tE (Rd.of_own aq) ?_
     refine aw (vi ((m:Nat):Int)) ?_
     refine aw (vi ((([o,q,r,D,j,s,t,y]:List Int)).getD m 0)) ?_
     refine BU<|re<|BZ ?_
     refine mw (vs I i.length J) ?_
     refine mw (vi ((m:Nat):Int)) ?_
     refine mw (vs B i.length C) ?_
     refine mw (vi ((m:Nat):Int)) ?_
     refine ix wN ((m:Nat):Int) Cd (F.from0 ad) ?_
     refine ei (x:=i) m wN tE (F.from0 ad) ?_
     refine mw (vi ((([o,q,r,D,j,s,t,y]:List Int)).getD m 0)) ?_
     refine cl wN (LA N (i.getD m 0) ((([o,q,r,D,j,s,t,y]:List Int)).getD m 0) (by omega) (by omega) (by omega) (by omega)) ?_
     rintro _ aB ⟨ae,rfl⟩
     have aC:=(gc ap ae)
     refine ix wN ((m:Nat):Int) Cd (Rd.of_own aC) ?_
     refine EC ((Hl i (S8.list (Db (schedP p) (Dt i) 64))).take m++i.drop m) (m) ((GM (i.getD m 0) ((([o,q,r,D,j,s,t,y]:List Int)).getD m 0))) wN rfl rfl rfl (by simp) rfl CZ aC (by first|omega|(simp only [List.length_append,List.length_take,List.length_drop];omega)) ?_
     intro aD au bC
     have bD:=(ad.extk ae).ext au (fun k hk=>nT (Nat.le_refl G.heap.size) (Cm Q k hk).1)
     refine BU<|BS<|re<|BZ ?_
     refine ar (((m:Nat):Int)+1) wN ?_
     refine mw (vi (((m:Nat):Int)+1)) ?_
     refine BU ?_
     have bE:((((Hl i (S8.list (Db (schedP p) (Dt i) 64))).take m++i.drop m).set m (GM (i.getD m 0) ((([o,q,r,D,j,s,t,y]:List Int)).getD m 0))):List Int)=(Hl i (S8.list (Db (schedP p) (Dt i) 64))).take (m+1)++i.drop (m+1):=by first|rfl|(rw [hle];exact HB (l:=(S8.list (Db (schedP p) (Dt i) 64))) (by omega) (by show i.length=8;omega))
     have bF:=(tC (gc aq ae) au (fun g hg hlt hk=>by have am:=(Cm ak g hg).1;have an:=(Cm Q g hk).2;have ao:=(z4 R Z M T);omega))
     have bG:((([o,q,r,D,j,s,t,y]:List Int)):List Int)=([o,q,r,D,j,s,t,y]:List Int):=by first|rfl|(rw [hle];exact HB (l:=(S8.list (Db (schedP p) (Dt i) 64))) (by omega) (by show i.length=8;omega))
     refine CI (w0:=N) [(0,(vs B i.length C)),(4,(vs none 0 0)),(5,(vs I i.length J)),(133,(vs ab ([o,q,r,D,j,s,t,y]:List Int).length ac)),(134,(vi (([o,q,r,D,j,s,t,y]:List Int).length:Int))),(135,(vi (((m+1):Nat):Int)))] ?_ ?_ ?_
     · exact ⟨rfl,rfl,rfl,rfl,rfl,(cA (Value.int .i64) (show ((((m:Nat):Int)+1):Int)=(((m+1):Nat):Int) by omega)),trivial⟩
     · exact fun u=>⟨(m+1),u,rfl,bD,((((Ch.refl (fun k=>G.heap.size≤k) E).ext bA (fun k hk=>hk)).extk ae).ext au (fun k hk=>nT (Nat.le_refl G.heap.size) (Cm Q k hk).1)),(by omega),(by rw [← bE];exact bC),(by rw [← bG];exact bF)⟩
     · show (8 - (((m+1):Nat):Int)).toNat < (8 - ((m:Nat):Int)).toNat;omega
   have c3:=dT V
   refine ct V ?_
   refine Ct<|re<|Cc<|Ca<|sr ?_
   refine mw (vi j) ?_
   refine mw (vi s) ?_
   refine Gj j s wN rfl rfl (by kernel_rfl) (by omega) (by omega) (by omega) (by omega) ?_
   have c4:=Fi (a:=j) (b:=s) (by omega)
   refine mw (vi j) ?_
   refine Ew 4294967295 j wN rfl rfl (by kernel_rfl) (by omega) (by omega) (by omega) (by omega) ?_
   have c5:=Dl (a:=4294967295) (b:=j) (by omega) (by omega)
   refine mw (vi t) ?_
   refine Gj (Ck 4294967295 j) t wN rfl rfl (by kernel_rfl) (by omega) (by omega) (by omega) (by omega) ?_
   have c6:=Fi (a:=(Ck 4294967295 j)) (b:=t) (by omega)
   refine Ew (Dg j s) (Dg (Ck 4294967295 j) t) wN rfl rfl (by kernel_rfl) (by omega) (by omega) (by omega) (by omega) ?_
   have c7:=Dl (a:=(Dg j s)) (b:=(Dg (Ck 4294967295 j) t)) (by omega) (by omega)
   refine aw (vi (Ck (Dg j s) (Dg (Ck 4294967295 j) t))) ?_
   refine nx ?_
   refine mw (vi o) ?_
   refine mw (vi q) ?_
   refine Gj o q wN rfl rfl (by kernel_rfl) (by omega) (by omega) (by omega) (by omega) ?_
   have c8:=Fi (a:=o) (b:=q) (by omega)
   refine mw (vi o) ?_
   refine mw (vi r) ?_
   refine Gj o r wN rfl rfl (by kernel_rfl) (by omega) (by omega) (by omega) (by omega) ?_
   have c9:=Fi (a:=o) (b:=r) (by omega)
   refine Ew (Dg o q) (Dg o r) wN rfl rfl (by kernel_rfl) (by omega) (by omega) (by omega) (by omega) ?_
   have cC:=Dl (a:=(Dg o q)) (b:=(Dg o r)) (by omega) (by omega)
   refine mw (vi q) ?_
   refine mw (vi r) ?_
   refine Gj q r wN rfl rfl (by kernel_rfl) (by omega) (by omega) (by omega) (by omega) ?_
   have cD:=Fi (a:=q) (b:=r) (by omega)
   refine Ew (Ck (Dg o q) (Dg o r)) (Dg q r) wN rfl rfl (by kernel_rfl) (by omega) (by omega) (by omega) (by omega) ?_
   have cE:=Dl (a:=(Ck (Dg o q) (Dg o r))) (b:=(Dg q r)) (by omega) (by omega)
   refine aw (vi (Ck (Ck (Dg o q) (Dg o r)) (Dg q r))) ?_
   refine BU<|re<|Cc ?_
   refine CU ([(83,[],[],(fun _ v _=>v=(vi y))),(84,[],[],(fun _ v _=>v=(vi j))),(85,[],[1],(fun _ v w=>v=.int .i64 (rot j 6))),(86,[],[],(fun _ v _=>v=(vi j))),(87,[],[1,2,3],(fun _ v w=>v=.int .i64 (rot j 11))),(88,[],[1,2,3,4],(fun _ v _=>v=(vi (Ck (rot j 6) (rot j 11))))),(89,[],[],(fun _ v _=>v=(vi j))),(90,[],[1,2,3,4,6],(fun _ v w=>v=.int .i64 (rot j 25))),(91,[],[1,2,3,4,5,6,7],(fun _ v _=>v=(vi (Ck (Ck (rot j 6) (rot j 11)) (rot j 25))))),(92,[],[0,1,2,3,4,5,6,7,8],(fun _ v _=>v=(vi (y+(Ck (Ck (rot j 6) (rot j 11)) (rot j 25)))))),(93,[],[],(fun _ v _=>v=(vi (Ck (Dg j s) (Dg (Ck 4294967295 j) t))))),(94,[],[0,1,2,3,4,5,6,7,8,9,10],(fun _ v _=>v=(vi ((y+(Ck (Ck (rot j 6) (rot j 11)) (rot j 25)))+(Ck (Dg j s) (Dg (Ck 4294967295 j) t)))))),(95,[],[],(fun _ v _=>v=(vi ((k:Nat):Int)))),(96,[],[1,2,3,4,6,7,12],(fun _ v w=>v=.int .i64 (HE ((k:Nat):Int)))),(97,[],[0,1,2,3,4,5,6,7,8,9,10,11,12,13],(fun _ v _=>v=(vi (((y+(Ck (Ck (rot j 6) (rot j 11)) (rot j 25)))+(Ck (Dg j s) (Dg (Ck 4294967295 j) t)))+(HE ((k:Nat):Int)))))),(98,[],[],(fun _ v _=>v=(vs O (schedP p).length P))),(99,[],[],(fun _ v _=>v=(vi ((k:Nat):Int)))),(100,[],[15,16],(fun _ v _=>v=(ve (vs O (schedP p).length P) ((((k:Nat):Int)).toNat*1)))),(101,[],[15,16,17],(fun _ v _=>v=(vi zw)))]:GV) (fun _ K=>Keep aj K) [] DN rfl (by kernel_rfl) (by kernel_rfl) ?_ (fun _ _ h=>h) (fun _ _ _ _ h _ k=>h.trans k) trivial ?_ ?_ ?_
   ·exact ⟨hV,hE,⟨hV,hE,⟨hV,hE,⟨hV,hE,⟨hV,hE,⟨hV,hE,⟨hV,hE,⟨hV,hE,⟨hV,hE,⟨hV,hE,⟨hV,hE,⟨hV,hE,⟨hV,hE,⟨hV,hE,⟨hV,hE,⟨hV,hE,⟨hV,hE,⟨hV,hE,⟨hV,hE,trivial⟩⟩⟩⟩⟩⟩⟩⟩⟩⟩⟩⟩⟩⟩⟩⟩⟩⟩⟩
   ·exact trivial
   ·refine ⟨?_,⟨?_,⟨?_,⟨?_,⟨?_,⟨?_,⟨?_,⟨?_,⟨?_,⟨?_,⟨?_,⟨?_,⟨?_,⟨?_,⟨?_,⟨?_,⟨?_,⟨?_,⟨?_,trivial⟩⟩⟩⟩⟩⟩⟩⟩⟩⟩⟩⟩⟩⟩⟩⟩⟩⟩⟩
    ·intro _ E cF _
     rintro _ _ _ _ _ _ _ _ _ _ _ _ _ _ _ _ _ _ _
     refine sw ?_
     refine mw (vi y) ?_
     exact f1
    ·intro _ E cG _
     rintro _ _ _ _ _ _ _ _ _ _ _ _ _ _ _ _ _ _ _
     refine sw ?_
     refine mw (vi j) ?_
     exact f1
    ·intro _ E cH _
     rintro _ _ rfl _ _ _ _ _ _ _ _ _ _ _ _ _ _ _ _ _
     refine sw ?_
     refine cl wN (Jc E j 6 (by omega) (by omega)) ?_
     rintro _ N ⟨bH,rfl⟩
     have cI:=Dx j 6
     exact CN bH rfl
    ·intro _ E cJ _
     rintro _ _ _ _ _ _ _ _ _ _ _ _ _ _ _ _ _ _ _
     refine sw ?_
     refine mw (vi j) ?_
     exact f1
    ·intro _ E cK _
     rintro _ _ rfl _ rfl
     have cL:=Dx j 6
     rintro _ rfl _ _ _ _ _ _ _ _ _ _ _ _ _ _ _
     refine sw ?_
     refine cl wN (Jc E j 11 (by omega) (by omega)) ?_
     rintro _ N ⟨bI,rfl⟩
     have cM:=Dx j 11
     exact CN bI rfl
    ·intro _ E cN _
     rintro _ _ rfl _ rfl
     have cO:=Dx j 6
     rintro _ rfl _ rfl
     have cP:=Dx j 11
     rintro _ _ _ _ _ _ _ _ _ _ _ _ _ _
     refine sw ?_
     refine Ew (rot j 6) (rot j 11) wN rfl rfl (by kernel_rfl) (by omega) (by omega) (by omega) (by omega) ?_
     have cQ:=Dl (a:=(rot j 6)) (b:=(rot j 11)) (by omega) (by omega)
     exact f1
    ·intro _ E cR _
     rintro _ _ _ _ _ _ _ _ _ _ _ _ _ _ _ _ _ _ _
     refine sw ?_
     refine mw (vi j) ?_
     exact f1
    ·intro _ E cS _
     rintro _ _ rfl _ rfl
     have cT:=Dx j 6
     rintro _ rfl _ rfl
     have cU:=Dx j 11
     rintro _ _ rfl _ _ _ _ _ _ _ _ _ _ _ _
     refine sw ?_
     refine cl wN (Jc E j 25 (by omega) (by omega)) ?_
     rintro _ N ⟨bJ,rfl⟩
     have cV:=Dx j 25
     exact CN bJ rfl
    ·intro _ E cW _
     rintro _ _ rfl _ rfl
     have cX:=Dx j 6
     rintro _ rfl _ rfl
     have cY:=Dx j 11
     rintro _ rfl
     have cZ:=Dl (a:=(rot j 6)) (b:=(rot j 11)) (by omega) (by omega)
     rintro _ rfl _ rfl
     have da:=Dx j 25
     rintro _ _ _ _ _ _ _ _ _ _ _
     refine sw ?_
     refine Ew (Ck (rot j 6) (rot j 11)) (rot j 25) wN rfl rfl (by kernel_rfl) (by omega) (by omega) (by omega) (by omega) ?_
     have db:=Dl (a:=(Ck (rot j 6) (rot j 11))) (b:=(rot j 25)) (by omega) (by omega)
     exact f1
    ·intro _ E dc _
     rintro _ rfl _ rfl _ rfl
     have dd:=Dx j 6
     rintro _ rfl _ rfl
     have de:=Dx j 11
     rintro _ rfl
     have df:=Dl (a:=(rot j 6)) (b:=(rot j 11)) (by omega) (by omega)
     rintro _ rfl _ rfl
     have dg:=Dx j 25
     rintro _ rfl
     have dh:=Dl (a:=(Ck (rot j 6) (rot j 11))) (b:=(rot j 25)) (by omega) (by omega)
     rintro _ _ _ _ _ _ _ _ _ _
     refine sw ?_
     refine ar (y+(Ck (Ck (rot j 6) (rot j 11)) (rot j 25))) wN ?_
     exact f1
    ·intro _ E di _
     rintro _ _ _ _ _ _ _ _ _ _ _ _ _ _ _ _ _ _ _
     refine sw ?_
     refine mw (vi (Ck (Dg j s) (Dg (Ck 4294967295 j) t))) ?_
     exact f1
    ·intro _ E dj _
     rintro _ rfl _ rfl _ rfl
     have dk:=Dx j 6
     rintro _ rfl _ rfl
     have dl:=Dx j 11
     rintro _ rfl
     have dm:=Dl (a:=(rot j 6)) (b:=(rot j 11)) (by omega) (by omega)
     rintro _ rfl _ rfl
     have dn:=Dx j 25
     rintro _ rfl
     have dp:=Dl (a:=(Ck (rot j 6) (rot j 11))) (b:=(rot j 25)) (by omega) (by omega)
     rintro _ rfl _ rfl _ _ _ _ _ _ _ _
     refine sw ?_
     refine ar ((y+(Ck (Ck (rot j 6) (rot j 11)) (rot j 25)))+(Ck (Dg j s) (Dg (Ck 4294967295 j) t))) wN ?_
     exact f1
    ·intro _ E dq _
     rintro _ _ _ _ _ _ _ _ _ _ _ _ _ _ _ _ _ _ _
     refine sw ?_
     refine mw (vi ((k:Nat):Int)) ?_
     exact f1
    ·intro _ E dr _
     rintro _ _ rfl _ rfl
     have ds:=Dx j 6
     rintro _ rfl _ rfl
     have dt:=Dx j 11
     rintro _ _ rfl _ rfl
     have du:=Dx j 25
     rintro _ _ _ _ _ rfl _ _ _ _ _ _
     refine sw ?_
     refine cl wN (Lz E ((k:Nat):Int)) ?_
     rintro _ N ⟨bK,rfl⟩
     have dv:=Nx ((k:Nat):Int)
     exact CN bK rfl
    ·intro _ E dw _
     rintro _ rfl _ rfl _ rfl
     have dx:=Dx j 6
     rintro _ rfl _ rfl
     have dy:=Dx j 11
     rintro _ rfl
     have dz:=Dl (a:=(rot j 6)) (b:=(rot j 11)) (by omega) (by omega)
     rintro _ rfl _ rfl
     have d0:=Dx j 25
     rintro _ rfl
     have d1:=Dl (a:=(Ck (rot j 6) (rot j 11))) (b:=(rot j 25)) (by omega) (by omega)
     rintro _ rfl _ rfl _ rfl _ rfl _ rfl
     have d2:=Nx ((k:Nat):Int)
     rintro _ _ _ _ _
     refine sw ?_
     refine ar (((y+(Ck (Ck (rot j 6) (rot j 11)) (rot j 25)))+(Ck (Dg j s) (Dg (Ck 4294967295 j) t)))+(HE ((k:Nat):Int))) wN ?_
     exact f1
    ·intro _ E d3 _
     rintro _ _ _ _ _ _ _ _ _ _ _ _ _ _ _ _ _ _ _
     refine sw ?_
     refine mw (vs O (schedP p).length P) ?_
     exact f1
    ·intro _ E d4 _
     rintro _ _ _ _ _ _ _ _ _ _ _ _ _ _ _ _ _ _ _
     refine sw ?_
     refine mw (vi ((k:Nat):Int)) ?_
     exact f1
    ·intro _ E bL _
     rintro _ _ _ _ _ _ _ _ _ _ _ _ _ _ _ _ rfl _ rfl _ _
     refine sw ?_
     have bM:=(gc (tC (gc aa M) T (fun g hg hlt hk=>by have am:=(Cm aa g hg).2;have an:a5.heap.size≤A.heap.size:=M.size;have ao:A.heap.size≤g:=hk;omega)) bL)
     refine ix wN ((k:Nat):Int) Cd (Rd.of_own bM) ?_
     exact f1
    ·intro _ E bN _
     rintro _ _ _ _ _ _ _ _ _ _ _ _ _ _ _ _ rfl _ rfl _ rfl _
     refine sw ?_
     have bO:=(gc (tC (gc aa M) T (fun g hg hlt hk=>by have am:=(Cm aa g hg).2;have an:a5.heap.size≤A.heap.size:=M.size;have ao:A.heap.size≤g:=hk;omega)) bN)
     refine Ex (iV zw) wN rfl rfl rfl rfl tE (Rd.of_own bO) (by rw [← hzw];exact ME (by simp) (by first|omega|(simp <;> omega))) ?_
     exact f1
   ·intro _ E aE
    rintro _ rfl _ rfl _ rfl
    have d5:=Dx j 6
    rintro _ rfl _ rfl
    have d6:=Dx j 11
    rintro _ rfl
    have d7:=Dl (a:=(rot j 6)) (b:=(rot j 11)) (by omega) (by omega)
    rintro _ rfl _ rfl
    have d8:=Dx j 25
    rintro _ rfl
    have d9:=Dl (a:=(Ck (rot j 6) (rot j 11))) (b:=(rot j 25)) (by omega) (by omega)
    rintro _ rfl _ rfl _ rfl _ rfl _ rfl
    have dA:=Nx ((k:Nat):Int)
    rintro _ rfl _ rfl _ rfl _ rfl _ rfl
    refine sw ?_
    refine ar ((((y+(Ck (Ck (rot j 6) (rot j 11)) (rot j 25)))+(Ck (Dg j s) (Dg (Ck 4294967295 j) t)))+(HE ((k:Nat):Int)))+zw) wN ?_
    refine aw (vi ((((y+(Ck (Ck (rot j 6) (rot j 11)) (rot j 25)))+(Ck (Dg j s) (Dg (Ck 4294967295 j) t)))+(HE ((k:Nat):Int)))+zw)) ?_
    refine nx ?_
    refine mw (vi o) ?_
    refine cl wN (Jc E o 2 (by omega) (by omega)) ?_
    rintro _ N ⟨aF,rfl⟩
    have bP:=(a7.extk aE).extk aF
    have dB:=Dx o 2
    refine mw (vi o) ?_
    refine cl wN (Jc N o 13 (by omega) (by omega)) ?_
    rintro _ aB ⟨aG,rfl⟩
    have dC:=Dx o 13
    refine Ew (rot o 2) (rot o 13) wN rfl rfl (by kernel_rfl) (by omega) (by omega) (by omega) (by omega) ?_
    have dD:=Dl (a:=(rot o 2)) (b:=(rot o 13)) (by omega) (by omega)
    refine mw (vi o) ?_
    refine cl wN (Jc aB o 22 (by omega) (by omega)) ?_
    rintro _ aD ⟨aH,rfl⟩
    have bQ:=(bP.extk aG).extk aH
    have dE:=Dx o 22
    refine Ew (Ck (rot o 2) (rot o 13)) (rot o 22) wN rfl rfl (by kernel_rfl) (by omega) (by omega) (by omega) (by omega) ?_
    have dG:=Dl (a:=(Ck (rot o 2) (rot o 13))) (b:=(rot o 22)) (by omega) (by omega)
    refine mw (vi (Ck (Ck (Dg o q) (Dg o r)) (Dg q r))) ?_
    refine ar ((Ck (Ck (rot o 2) (rot o 13)) (rot o 22))+(Ck (Ck (Dg o q) (Dg o r)) (Dg q r))) wN ?_
    refine aw (vi ((Ck (Ck (rot o 2) (rot o 13)) (rot o 22))+(Ck (Ck (Dg o q) (Dg o r)) (Dg q r)))) ?_
    refine nx ?_
    refine mw (vi t) ?_
    refine mw (vi s) ?_
    refine mw (vi j) ?_
    refine mw (vi D) ?_
    refine mw (vi ((((y+(Ck (Ck (rot j 6) (rot j 11)) (rot j 25)))+(Ck (Dg j s) (Dg (Ck 4294967295 j) t)))+(HE ((k:Nat):Int)))+zw)) ?_
    refine cl wN (LA aD D ((((y+(Ck (Ck (rot j 6) (rot j 11)) (rot j 25)))+(Ck (Dg j s) (Dg (Ck 4294967295 j) t)))+(HE ((k:Nat):Int)))+zw) (by omega) (by omega) (by omega) (by omega)) ?_
    rintro _ bR ⟨aI,rfl⟩
    refine aw (vi t) ?_
    refine aw (vi s) ?_
    refine aw (vi j) ?_
    refine aw (vi (GM D ((((y+(Ck (Ck (rot j 6) (rot j 11)) (rot j 25)))+(Ck (Dg j s) (Dg (Ck 4294967295 j) t)))+(HE ((k:Nat):Int)))+zw))) ?_
    refine BU<|re<|BZ ?_
    refine mw (vi r) ?_
    refine mw (vi q) ?_
    refine mw (vi o) ?_
    refine mw (vi ((((y+(Ck (Ck (rot j 6) (rot j 11)) (rot j 25)))+(Ck (Dg j s) (Dg (Ck 4294967295 j) t)))+(HE ((k:Nat):Int)))+zw)) ?_
    refine mw (vi ((Ck (Ck (rot o 2) (rot o 13)) (rot o 22))+(Ck (Ck (Dg o q) (Dg o r)) (Dg q r)))) ?_
    refine cl wN (LA bR ((((y+(Ck (Ck (rot j 6) (rot j 11)) (rot j 25)))+(Ck (Dg j s) (Dg (Ck 4294967295 j) t)))+(HE ((k:Nat):Int)))+zw) ((Ck (Ck (rot o 2) (rot o 13)) (rot o 22))+(Ck (Ck (Dg o q) (Dg o r)) (Dg q r))) (by omega) (by omega) (by omega) (by omega)) ?_
    rintro _ dH ⟨aJ,rfl⟩
    have bS:=(bQ.extk aI).extk aJ
    refine aw (vi r) ?_
    refine aw (vi q) ?_
    refine aw (vi o) ?_
    refine aw (vi (GM ((((y+(Ck (Ck (rot j 6) (rot j 11)) (rot j 25)))+(Ck (Dg j s) (Dg (Ck 4294967295 j) t)))+(HE ((k:Nat):Int)))+zw) ((Ck (Ck (rot o 2) (rot o 13)) (rot o 22))+(Ck (Ck (Dg o q) (Dg o r)) (Dg q r))))) ?_
    refine BU<|BS<|re<|BZ ?_
    refine mw (vi ((k:Nat):Int)) ?_
    refine ar (((k:Nat):Int)+1) wN ?_
    refine aw (vi (((k:Nat):Int)+1)) ?_
    refine BU ?_
    refine CI (w0:=aj) [(0,(vs B i.length C)),(4,(vs none 0 0)),(5,(vs I i.length J)),(6,(vs O (schedP p).length P)),(7,(vi ((Db (schedP p) (Dt i) (k+1)).a))),(8,(vi ((Db (schedP p) (Dt i) (k+1)).b))),(9,(vi ((Db (schedP p) (Dt i) (k+1)).c))),(10,(vi ((Db (schedP p) (Dt i) (k+1)).d))),(11,(vi ((Db (schedP p) (Dt i) (k+1)).e))),(12,(vi ((Db (schedP p) (Dt i) (k+1)).f))),(13,(vi ((Db (schedP p) (Dt i) (k+1)).g))),(14,(vi ((Db (schedP p) (Dt i) (k+1)).z))),(15,(vi (((k+1):Nat):Int)))] ?_ ?_ ?_
    · exact ⟨rfl,rfl,rfl,rfl,(cA (Value.int .i64) (show ((GM ((((y+(Ck (Ck (rot j 6) (rot j 11)) (rot j 25)))+(Ck (Dg j s) (Dg (Ck 4294967295 j) t)))+(HE ((k:Nat):Int)))+zw) ((Ck (Ck (rot o 2) (rot o 13)) (rot o 22))+(Ck (Ck (Dg o q) (Dg o r)) (Dg q r)))):Int)=(Db (schedP p) (Dt i) (k+1)).a by subst hzw hzk hi_a hi_b hi_c hi_d hi_e hi_f hi_g hi_z;exact RH (by omega) rfl)),(cA (Value.int .i64) (show (o:Int)=(Db (schedP p) (Dt i) (k+1)).b by rw [hi_a];rfl)),(cA (Value.int .i64) (show (q:Int)=(Db (schedP p) (Dt i) (k+1)).c by rw [hi_b];rfl)),(cA (Value.int .i64) (show (r:Int)=(Db (schedP p) (Dt i) (k+1)).d by rw [hi_c];rfl)),(cA (Value.int .i64) (show ((GM D ((((y+(Ck (Ck (rot j 6) (rot j 11)) (rot j 25)))+(Ck (Dg j s) (Dg (Ck 4294967295 j) t)))+(HE ((k:Nat):Int)))+zw)):Int)=(Db (schedP p) (Dt i) (k+1)).e by subst hzw hzk hi_a hi_b hi_c hi_d hi_e hi_f hi_g hi_z;exact RG (by omega) rfl)),(cA (Value.int .i64) (show (j:Int)=(Db (schedP p) (Dt i) (k+1)).f by rw [hi_e];rfl)),(cA (Value.int .i64) (show (s:Int)=(Db (schedP p) (Dt i) (k+1)).g by rw [hi_f];rfl)),(cA (Value.int .i64) (show (t:Int)=(Db (schedP p) (Dt i) (k+1)).z by rw [hi_g];rfl)),(cA (Value.int .i64) (show ((((k:Nat):Int)+1):Int)=(((k+1):Nat):Int) by omega)),trivial⟩
    · exact fun u=>⟨(k+1),(Db (schedP p) (Dt i) (k+1)).a,(Db (schedP p) (Dt i) (k+1)).b,(Db (schedP p) (Dt i) (k+1)).c,(Db (schedP p) (Dt i) (k+1)).d,(Db (schedP p) (Dt i) (k+1)).e,(Db (schedP p) (Dt i) (k+1)).f,(Db (schedP p) (Dt i) (k+1)).g,(Db (schedP p) (Dt i) (k+1)).z,u,rfl,bS,((((((((Ch.refl (fun k=>A.heap.size≤k) A).ext T (fun k hk=>hk)).extk aE).extk aF).extk aG).extk aH).extk aI).extk aJ),(by omega),(by first|rfl|assumption),(by first|rfl|assumption),(by first|rfl|assumption),(by first|rfl|assumption),(by first|rfl|assumption),(by first|rfl|assumption),(by first|rfl|assumption),(by first|rfl|assumption)⟩
    · show (64 - (((k+1):Nat):Int)).toNat < (64 - ((k:Nat):Int)).toNat;omega

def QY (w:World) (v:Value) (x:(List Int)×(List UInt8)):Prop:=∃ (a:Option Addr) (b:Nat) (d:Option Addr) (e:Nat),v=.tuple #[.slice a x.1.length b,.slice d x.2.length e]∧Rd w 1 (.slice a x.1.length b) x.1.length (x.1.map iV)∧x.1.length≤1073741824∧Rd w 1 (.slice d x.2.length e) x.2.length (x.2.map bV)∧x.2.length≤1073741824
theorem Hz (e:World) (y:Value) (b:List Int) (L:Mw e y b) (A:Value) (a:List UInt8) (M:EP e A a) :Fn Tryz.prog 127 #[y,A] e (fun v g=>Keep e g∧QY g v (Cz b a)):=by
 obtain ⟨o,p,rfl,N,O⟩:=L
 obtain ⟨q,r,rfl,P,Q⟩:=M
 refine Cl (n:=17) [(vs o b.length p),(vs q a.length r)] Tryz.func127 rfl rfl ?_
 refine sr ?_
 refine aw (vs none 0 0) ?_
 refine aw (vs none 0 0) ?_
 refine BU<|re<|Cc<|Ca ?_
 have B:(b:List Int)=DK b a 0:=by rfl
 have C:(a:List UInt8)=a.drop (64*0):=by rfl
 refine CJ [(0,(.slice o (DK b a 0).length p)),(1,(.slice q (a.drop (64*0)).length r)),(4,(vs none 0 0)),(5,(vs none 0 0))] ⟨(cA (fun l:List Int=>Value.slice o l.length p) B),(cA (fun l:List UInt8=>Value.slice q l.length r) C),rfl,rfl,trivial⟩ (fun e' g=>∃ (k:Nat) (D:Env) (h:Option Addr) (i:Nat) (f:Option Addr) (d:Nat),e'=pt D [(0,(.slice h (DK b a k).length i)),(1,(.slice f (a.drop (64*k)).length d)),(4,(vs none 0 0)),(5,(vs none 0 0))]∧Ch (fun k=>e.heap.size≤k) e g∧Ch (fun k=>e.heap.size≤k) e g∧64*k≤a.length∧(Rd g 1 (.slice h (DK b a k).length i) (DK b a k).length ((DK b a k).map iV)∧(DK b a k).length≤1073741824)∧(Rd g 1 (.slice f (a.drop (64*k)).length d) (a.drop (64*k)).length ((a.drop (64*k)).map bV)∧(a.drop (64*k)).length≤1073741824)) (fun e' _=>(lenOf (e' 1))) ?_ ?_
 ·exact fun u=>⟨0,u,o,p,q,r,rfl,(Ch.base e),(Ch.refl (fun k=>e.heap.size≤k) e),(by omega),(B ▸ ⟨N,O⟩),(C ▸ ⟨P,Q⟩)⟩
 ·rintro _ E ⟨k,D,h,i,f,d,rfl,F,R,ab,⟨G,H⟩,⟨j,w⟩⟩
  have hdl:(a.drop (64*k)).length=a.length - 64*k:=List.length_drop
  refine Cc<|sr ?_
  refine mw (vs f (a.drop (64*k)).length d) ?_
  refine ln wN tD j ?_
  refine pu (vb (decide (64≤((a.drop (64*k)).length:Int)))) wN ?_
  refine n2 ?_
  rcases bf (decide (64≤((a.drop (64*k)).length:Int))) with m|m
  ·have ac:=dF m
   refine cf m ?_
   refine CS<|wb<|wb<|Ce<|re<|sr ?_
   refine mw (vs h (DK b a k).length i) ?_
   refine mw (vs f (a.drop (64*k)).length d) ?_
   refine aw (vs h (DK b a k).length i) ?_
   refine aw (vs f (a.drop (64*k)).length d) ?_
   refine n3 ?_
   refine GF (.inl rfl) (vs h (DK b a k).length i) (vs f (a.drop (64*k)).length d) rfl rfl rfl ?_
   refine ⟨F.keep0,?_⟩
   have S:Cz b a=((DK b a k),(a.drop (64*k))):=by exact NX (by omega) (by omega)
   rw [S]
   exact ⟨_,_,_,_,rfl,G,H,j,w⟩
  have ad:=dT m
  refine ct m ?_
  refine Ct<|re<|Ca<|sr ?_
  refine mw (vs h (DK b a k).length i) ?_
  refine mw (vs f (a.drop (64*k)).length d) ?_
  refine slv ((a.drop (64*k)).take 64) 0 64 wN tD j (by first|omega|(simp <;> omega)) (by first|omega|(simp <;> omega)) (by first|rfl|(simp;done)|(rw [List.take_of_length_le (by first|(simp;done)|(simp;omega))])) rfl rfl rfl rfl (.inl ⟨rfl,rfl⟩) (.inr ⟨_,_,_,rfl,rfl,by omega⟩) ?_
  have T:0≤64:=(by first|omega|(simp <;> omega))
  have V:64≤(a.drop (64*k)).length:=(by first|omega|(simp <;> omega))
  refine cl wN (MX E _ (DK b a k) (GY G H) _ ((a.drop (64*k)).take 64) (CC (Rd.subV (x':=((a.drop (64*k)).take 64)) j T V (by first|rfl|(simp;done)|(rw [List.take_of_length_le (by first|(simp;done)|(simp;omega))]))) (nT (by simp only [List.length_take,List.length_drop];omega) w))) ?_
  rintro _ ae ⟨x,⟨s,t,rfl,W,X,af⟩⟩
  have Y:=F.extk x
  refine aw (vs s (Dz (DK b a k) ((a.drop (64*k)).take 64)).length t) ?_
  refine BU<|re<|BZ ?_
  refine mw (vs f (a.drop (64*k)).length d) ?_
  have I:=(j.kp x)
  refine slv ((a.drop (64*k)).drop 64) 64 ((a.drop (64*k)).length) wN tD I (by first|omega|(simp <;> omega)) (by first|omega|(simp <;> omega)) (by first|rfl|(simp;done)|(rw [List.take_of_length_le (by first|(simp;done)|(simp;omega))])) rfl rfl rfl rfl (.inr ⟨_,_,_,rfl,rfl,by omega⟩) (.inl ⟨rfl,rfl⟩) ?_
  have Z:64≤((a.drop (64*k)).length):=(by first|omega|(simp <;> omega))
  have aa:((a.drop (64*k)).length)≤(a.drop (64*k)).length:=(by first|omega|(simp <;> omega))
  refine aw (vs (OG f d 64 1) ((a.drop (64*k)).drop 64).length (d - 64)) ?_
  refine BU<|BS ?_
  have J:((Dz (DK b a k) ((a.drop (64*k)).take 64)):List Int)=DK b a (k+1):=by rfl
  have K:(((a.drop (64*k)).drop 64):List UInt8)=a.drop (64*(k+1)):=by rw [List.drop_drop];congr 1
  refine CI (w0:=E) [(0,(.slice s (DK b a (k+1)).length t)),(1,(.slice (OG f d 64 1) (a.drop (64*(k+1))).length (d - 64))),(4,(vs none 0 0)),(5,(vs none 0 0))] ?_ ?_ ?_
  · exact ⟨(cA (fun l:List Int=>Value.slice s l.length t) J),(cA (fun l:List UInt8=>Value.slice (OG f d 64 1) l.length (d - 64)) K),rfl,rfl,trivial⟩
  · exact fun u=>⟨(k+1),u,s,t,(OG f d 64 1),(d - 64),rfl,Y,(((Ch.refl (fun k=>e.heap.size≤k) e).ext R (fun k hk=>hk)).extk x),(by omega),(J ▸ ⟨(Rd.of_own W),X⟩),(K ▸ ⟨(Rd.subV (x':=((a.drop (64*k)).drop 64)) I Z aa (by first|rfl|(simp;done)|(rw [List.take_of_length_le (by first|(simp;done)|(simp;omega))]))),(nT (by simp only [List.length_take,List.length_drop];omega) w)⟩)⟩
  · show (a.drop (64*(k+1))).length < (a.drop (64*k)).length;simp only [List.length_drop];omega

theorem LX {w:World} {x:PHash} {a:Option Addr} {b:Nat} {d:Option Addr} {e:Nat} (f:Rd w 1 (.slice a x.H.length b) x.H.length (x.H.map iV)) (g:x.H.length≤1073741824) (h:Rd w 1 (.slice d x.Held.length e) x.Held.length (x.Held.map bV)) (i:x.Held.length≤1073741824):PF w (va (HS x a b d e)) x:=⟨_,_,_,_,rfl,f,g,h,i⟩
def Ea (a:PHash) (b:List UInt8):(PHash):=bif (DV a) then (bif (decide ((1048576 - a.N) < (b.length:Int))) then (a) else ({H:=(Cz a.H (Ci [a.Held,b])).1,Held:=(((Cz a.H (Ci [a.Held,b])).2)),N:=(a.N+(b.length:Int)):PHash})) else (a)
theorem Oh (K:World) (av:Value) (a:PHash) (aM:PF K av a) (ax:Value) (b:List UInt8) (aN:EP K ax b) :Fn Tryz.prog 91 #[av,ax] K (fun v M=>Keep K M∧RR M K.heap.size v (Ea a b)):=by
 obtain ⟨f,s,t,u,rfl,ae,af,ah,ai⟩:=aM
 obtain ⟨x,y,rfl,aj,aO⟩:=aN
 refine Cl (n:=50) [(va (HS a f s t u)),(vs x b.length y)] Tryz.func91 rfl rfl ?_
 refine sr ?_
 refine bx (HS a f s t u) wN ?_
 intro l A c6 c7 E Q
 refine al [(vs none 0 0),(vs none 0 0),(vi 0)] wN LG ?_
 intro aP aQ ay R B az
 have S:=((Ch.base K).extk E).extk B
 refine n4 ?_
 refine jT1 [(1,(vs x b.length y)),(2,(vp l 0)),(4,(vp aP 0))] (Ea a b=a) ?_ fun a1=>?_
 ·intro aR F C c8
  have ak:=S.extk C
  refine Cc ?_
  refine CU ([(18,[],[],(fun _ v w=>∃ a0:Addr,v=.slice (some a0) 0 0∧w.ownsRow F.heap.size 3 1 (.slice (some a0) 0 0) 0 [])),(19,[],[],(fun _ v _=>v=(vp l 0))),(20,[],[1],(fun _ v _=>v=(vs f a.H.length s))),(21,[],[0,1,2],(fun _ v w=>∃ (f:Option Addr) (p:Nat),v=.slice f a.H.length p∧w.ownsRow F.heap.size 3 1 (.slice f a.H.length p) a.H.length (a.H.map iV)∧a.H.length≤1073741824∧Aps [(f,p)])),(22,[],[],(fun _ v _=>v=(vp l 1))),(23,[],[4],(fun _ v _=>v=(vs t a.Held.length u))),(24,[21],[0,1,2,3,4,5],(fun e v w=>PH w F.heap.size v a.Held (fun am=>Ap (sp (e 21)) am))),(25,[],[],(fun _ v _=>v=(vp l 2))),(26,[],[7],(fun _ v _=>v=(vi a.N)))]:GV) (fun _ M=>Keep F M) [] DN rfl (by kernel_rfl) (by kernel_rfl) ?_ (fun _ _ h=>h) (fun _ _ _ _ h _ k=>h.trans k) trivial ?_ ?_ ?_
  ·exact ⟨(fun e v w A h hk=>by obtain ⟨i,he,j⟩:=h;exact ⟨i,he,gc j hk⟩),hE,⟨hV,hE,⟨hV,hE,⟨(fun e v w A h hk=>by obtain ⟨i,q,he,j,r,hap⟩:=h;exact ⟨i,q,he,gc j hk,r,hap⟩),hE,⟨hV,hE,⟨hV,hE,⟨(fun e v w A h hk=>by obtain ⟨i,q,he,j,r,hap,hx⟩:=h;exact ⟨i,q,he,gc j hk,r,hap,hx⟩),(fun O P v w hx h=>by have aS:=hx 21 (by simp);simp only [aS] at h;exact h),⟨hV,hE,⟨hV,hE,trivial⟩⟩⟩⟩⟩⟩⟩⟩⟩
  ·exact trivial
  ·refine ⟨?_,⟨?_,⟨?_,⟨?_,⟨?_,⟨?_,⟨?_,⟨?_,⟨?_,trivial⟩⟩⟩⟩⟩⟩⟩⟩⟩
   ·intro _ d aT _
    rintro _ _ _ _ _ _ _ _ _
    refine sw ?_
    refine CR wN rfl rfl Cd (fun w=>by kernel_rfl) ?_
    intro c9 g aU aV
    exact CN aU ⟨_,rfl,tB aV aT.size⟩
   ·intro _ d cC _
    rintro _ _ _ _ _ _ _ _ _
    refine sw ?_
    refine pu (vp l 0) wN ?_
    exact f1
   ·intro _ d aW _
    rintro _ _ rfl _ _ _ _ _ _ _
    refine sw ?_
    have aX:=(((Q.kp B).kp C).kp aW)
    refine ld (vs f a.H.length s) wN Dk aX ?_
    exact f1
   ·intro _ d a2 _
    have aY:=ak.extk a2
    rintro _ ⟨cD,rfl,aZ⟩ _ rfl _ rfl _ _ _ _ _ _
    refine sw ?_
    refine QV a.H wN Cd aZ (ae.from0 aY) a2.size ?_
    intro cE cF g ba bb cG
    exact CN ba ⟨_,_,rfl,bb,af,⟨trivial,trivial⟩⟩
   ·intro _ d cH _
    rintro _ _ _ _ _ _ _ _ _
    refine sw ?_
    refine pu (vp l 1) wN ?_
    exact f1
   ·intro _ d bc _
    rintro _ _ _ _ _ rfl _ _ _ _
    refine sw ?_
    have bd:=(((Q.kp B).kp C).kp bc)
    refine ld (vs t a.Held.length u) wN BT bd ?_
    exact f1
   ·intro _ d a3 _
    have be:=ak.extk a3
    rintro _ ⟨cI,rfl,cJ⟩ _ rfl _ rfl _ ⟨cK,cL,rfl,bg,cM,-⟩ _ rfl _ rfl _ _ _
    refine sw ?_
    refine cl wN (GA d _ a.Held (CC (ah.from0 be) ai)) ?_
    rintro _ g ⟨bh,⟨cN,cO,rfl,a4,bi,bj⟩⟩
    exact CN bh ⟨_,_,rfl,(tB a4 a3.size),bi,bj,(Ap.lt bg a4 (Nat.le_refl _))⟩
   ·intro _ d cP _
    rintro _ _ _ _ _ _ _ _ _
    refine sw ?_
    refine pu (vp l 2) wN ?_
    exact f1
   ·intro _ d bk _
    rintro _ _ _ _ _ _ _ _ rfl _
    refine sw ?_
    have bl:=(((Q.kp B).kp C).kp bk)
    refine ld (vi a.N) wN tE bl ?_
    exact f1
  ·intro _ d a5
   rintro _ ⟨cQ,rfl,cR⟩ _ rfl _ rfl _ ⟨T,V,rfl,a6,bm,-⟩ _ rfl _ rfl _ ⟨W,X,rfl,a7,bn,cS,bo⟩ _ rfl _ rfl
   refine sw ?_
   refine pu (va (HS a T V W X)) wN ?_
   have bp:=((az.kp C).kp a5)
   refine sv (HS a T V W X) wN EW bp ?_
   intro g an bq cT
   have br:=(ak.extk a5).ext an (fun k hk=>by subst hk;exact nT E.size ay)
   refine n1 ?_
   have bu:=(tC a6 an (ne1 a6 (nL R C.size)))
   have bv:=(tC a7 an (ne1 a7 (nL R C.size)))
   refine EY (.inl rfl) (va (HS a T V W X)) rfl (Fe (HS a T V W X) rfl bq GL EW) ?_
   refine ⟨br.keep0,?_⟩
   rw [aR]
   exact ⟨_,_,_,_,rfl,(tB bu (z3 E B C)),bm,(tB bv (z3 E B C)),bn,⟨⟨bo,trivial⟩,⟨trivial,trivial⟩⟩⟩
 have a8:=(Q.kp B)
 refine lN (HS a f s t u) wN GL EW a8 ?_
 refine cl wN (Mn aQ _ a (LX (ae.from0 S) af (ah.from0 S) ai)) ?_
 rintro _ F ⟨D,rfl⟩
 have Y:=S.extk D
 refine pu (vb (!(DV a))) wN ?_
 refine mw (vb (!(DV a))) ?_
 rcases bf (DV a) with o|o
 ·iterate 6 refine sk (cA not o) ?_
  refine pk (vb true) wN (cA not o) ?_
  refine n2 ?_
  refine ct (Eq.refl true) ?_
  have bw:Ea a b=a:=by simp only [Ea,o,cond_true,cond_false]
  exact wj (a1 bw _ D)
 have cU:=Ik o
 refine mv (vs x b.length y) (wS (cA not o)) ?_
 refine ln (wS (cA not o)) tD (aj.from0 Y) ?_
 refine pu (vp l 2) (wS (cA not o)) ?_
 have Z:=(a8.kp D)
 refine ld (vi a.N) (wS (cA not o)) tE Z ?_
 refine ar (1048576 - a.N) (wS (cA not o)) ?_
 refine pu (vb (decide ((1048576 - a.N) < (b.length:Int)))) (wS (cA not o)) ?_
 refine pf (vb (decide ((1048576 - a.N) < (b.length:Int)))) wN (cA not o) ?_
 refine n2 ?_
 rcases bt (decide ((1048576 - a.N) < (b.length:Int))) with G|G
 ·have cV:=dT G
  refine ct G ?_
  have bz:Ea a b=a:=by simp only [Ea,o,G,cond_true,cond_false]
  exact wj (a1 bz _ D)
 have cW:=dF G
 refine cf G ?_
 refine Ct<|re<|Cc ?_
 refine FB ([(29,[],[],(fun _ v _=>v=(vp l 0))),(30,[],[0],(fun _ v _=>v=(vs f a.H.length s))),(31,[],[],(fun _ v _=>v=(vp l 1))),(32,[],[2],(fun _ v _=>v=(vs t a.Held.length u))),(33,[],[],(fun _ v _=>v=(vs x b.length y))),(34,[],[2,3,4],(fun _ v w=>∃ (f:Option Addr) (p:Nat),v=.slice f 2 p∧w.ownsRow F.heap.size 22 1 (.slice f 2 p) 2 [(vs t a.Held.length u),(vs x b.length y)])),(35,[],[2,3,4,5],(fun _ v w=>GE w F.heap.size v (Ci [a.Held,b]))),(36,[],[0,1,2,3,4,5,6],(fun _ v w=>∃ (f:Option Addr) (p:Nat) (a9:Option Addr) (s:Nat),v=.tuple #[.slice f ((Cz a.H (Ci [a.Held,b])).1).length p,.slice a9 ((Cz a.H (Ci [a.Held,b])).2).length s]∧Rd w 1 (.slice f ((Cz a.H (Ci [a.Held,b])).1).length p) ((Cz a.H (Ci [a.Held,b])).1).length (((Cz a.H (Ci [a.Held,b])).1).map iV)∧((Cz a.H (Ci [a.Held,b])).1).length≤1073741824∧Rd w 1 (.slice a9 ((Cz a.H (Ci [a.Held,b])).2).length s) ((Cz a.H (Ci [a.Held,b])).2).length (((Cz a.H (Ci [a.Held,b])).2).map bV)∧((Cz a.H (Ci [a.Held,b])).2).length≤1073741824)),(28,[36],[0,1,2,3,4,5,6,7],(fun e v _=>v=(.tuple #[(DA (e 36) 0),(DA (e 36) 1)]))),(37,[36],[0,1,2,3,4,5,6,7,8],(fun e v _=>v=(DA (e 36) 0))),(38,[36],[0,1,2,3,4,5,6,7,8],(fun e v _=>v=(DA (e 36) 1))),(5,[36],[0,1,2,3,4,5,6,7,8,9],(fun e v _=>v=(DA (e 36) 0)))]:GV) DN rfl (by kernel_rfl) (by kernel_rfl) ?_ ?_ ?_
 ·exact ⟨hV,hE,⟨hV,hE,⟨hV,hE,⟨hV,hE,⟨hV,hE,⟨(fun e v w A h hk=>by obtain ⟨i,q,he,j⟩:=h;exact ⟨i,q,he,gc j hk⟩),hE,⟨(fun e v w A h hk=>by obtain ⟨i,q,he,j,r,hap⟩:=h;exact ⟨i,q,he,gc j hk,r,hap⟩),hE,⟨(fun e v w A h hk=>by obtain ⟨i,q,b0,b1,he,j,r,b2,b3⟩:=h;exact ⟨i,q,b0,b1,he,Rd.kp j hk,r,Rd.kp b2 hk,b3⟩),hE,⟨hV,(fun O P v w hx h=>by have I:=hx 36 (by simp);simp only [I] at h;exact h),⟨hV,(fun O P v w hx h=>by have I:=hx 36 (by simp);simp only [I] at h;exact h),⟨hV,(fun O P v w hx h=>by have I:=hx 36 (by simp);simp only [I] at h;exact h),⟨hV,(fun O P v w hx h=>by have I:=hx 36 (by simp);simp only [I] at h;exact h),trivial⟩⟩⟩⟩⟩⟩⟩⟩⟩⟩⟩⟩
 ·refine ⟨?_,⟨?_,⟨?_,⟨?_,⟨?_,⟨?_,⟨?_,⟨?_,⟨?_,⟨?_,⟨?_,⟨?_,trivial⟩⟩⟩⟩⟩⟩⟩⟩⟩⟩⟩⟩
  ·intro d cX
   rintro _ _ _ _ _ _ _ _ _ _ _ _
   refine sw ?_
   refine pu (vp l 0) wN ?_
   exact f2
  ·intro d b4
   rintro _ rfl _ _ _ _ _ _ _ _ _ _ _
   refine sw ?_
   have b5:=(Z.kp b4)
   refine ld (vs f a.H.length s) wN Dk b5 ?_
   exact f2
  ·intro d cY
   rintro _ _ _ _ _ _ _ _ _ _ _ _
   refine sw ?_
   refine pu (vp l 1) wN ?_
   exact f2
  ·intro d b6
   rintro _ _ _ rfl _ _ _ _ _ _ _ _ _
   refine sw ?_
   have b7:=(Z.kp b6)
   refine ld (vs t a.Held.length u) wN BT b7 ?_
   exact f2
  ·intro d cZ
   rintro _ _ _ _ _ _ _ _ _ _ _ _
   refine sw ?_
   refine mw (vs x b.length y) ?_
   exact f2
  ·intro d b8
   rintro _ _ _ rfl _ rfl _ rfl _ _ _ _ _ _ _
   refine sw ?_
   refine Hn [(vs t a.Held.length u),(vs x b.length y)] wN rfl rfl FH (m:=2) rfl (by simp only [maxLen];omega) (fun w=>by kernel_rfl) ?_
   intro da g b9 aA
   obtain ⟨db,dc,rfl⟩:=Em aA
   exact GB b9 ⟨_,_,rfl,tB aA b8.size⟩
  ·intro d aB
   have aC:=Y.extk aB
   rintro _ _ _ rfl _ rfl _ rfl _ ⟨dd,de,rfl,bA⟩ _ _ _ _ _ _
   refine sw ?_
   refine cl wN (Gz d _ [a.Held,b] (IE (RLv.mk (L:=Km) [(a.Held,[(t,u)]),(b,[(x,y)])] (Rd.of_own bA) rfl ⟨⟨⟨(ah.from0 aC),ai⟩,trivial⟩,⟨⟨⟨(aj.from0 aC),aO⟩,trivial⟩,trivial⟩⟩ (by first|decide|exact Nat.le_of_ble_eq_true rfl)) (by first|decide|exact Nat.le_of_ble_eq_true rfl)) (by first|omega|(rw [Ez];omega)|(rw [Ez];simp only [List.length_cons,List.length_nil,Dh];omega)|(rw [Gv];simp only [List.length_cons,List.length_nil,Dh];omega)|(simp only [Ci,List.flatten_cons,List.flatten_nil,List.length_append,List.length_cons,List.length_nil,Dh];omega))) ?_
   rintro _ g ⟨bB,⟨df,dg,rfl,bC,bD,bE⟩⟩
   have dh:=(show (Ci [a.Held,b]).length=a.Held.length+b.length by simp only [Ci,List.flatten_cons,List.flatten_nil,List.length_append,List.length_cons,List.length_nil];omega)
   exact GB bB ⟨_,_,rfl,(tB bC aB.size),bD,bE⟩
  ·intro d bF
   have bG:=Y.extk bF
   rintro _ rfl _ rfl _ rfl _ rfl _ rfl _ ⟨di,dj,rfl,dk⟩ _ ⟨dl,dm,rfl,bH,bI,dn⟩
   have dp:=(show (Ci [a.Held,b]).length=a.Held.length+b.length by simp only [Ci,List.flatten_cons,List.flatten_nil,List.length_append,List.length_cons,List.length_nil];omega)
   rintro _ _ _ _ _
   refine sw ?_
   refine cl wN (Hz d _ a.H (GY (ae.from0 bG) af) _ (Ci [a.Held,b]) (CC (Rd.of_own bH) bI)) ?_
   rintro _ g ⟨bJ,⟨dq,dr,ds,dt,rfl,bK,bL,bM,bN⟩⟩
   exact GB bJ ⟨_,_,_,_,rfl,bK,bL,bM,bN⟩
  ·intro d du
   rintro _ rfl _ rfl _ rfl _ rfl _ rfl _ ⟨dv,dw,rfl,dx⟩ _ ⟨dy,dz,rfl,_⟩
   have d0:=(show (Ci [a.Held,b]).length=a.Held.length+b.length by simp only [Ci,List.flatten_cons,List.flatten_nil,List.length_append,List.length_cons,List.length_nil];omega)
   rintro _ ⟨bO,bP,bQ,bR,rfl,_⟩ _ _ _ _
   refine sw ?_
   refine mw (.tuple #[(vs bO ((Cz a.H (Ci [a.Held,b])).1).length bP),(vs bQ ((Cz a.H (Ci [a.Held,b])).2).length bR)]) ?_
   exact f2
  ·intro d d1
   rintro _ rfl _ rfl _ rfl _ rfl _ rfl _ ⟨d2,d3,rfl,d4⟩ _ ⟨d5,d6,rfl,_⟩
   have d7:=(show (Ci [a.Held,b]).length=a.Held.length+b.length by simp only [Ci,List.flatten_cons,List.flatten_nil,List.length_append,List.length_cons,List.length_nil];omega)
   rintro _ ⟨bS,bT,d8,d9,rfl,_⟩ _ rfl _ _ _
   refine sw ?_
   refine pu (vs bS ((Cz a.H (Ci [a.Held,b])).1).length bT) wN ?_
   exact f2
  ·intro d dA
   rintro _ rfl _ rfl _ rfl _ rfl _ rfl _ ⟨dB,dC,rfl,dD⟩ _ ⟨dE,dG,rfl,_⟩
   have dH:=(show (Ci [a.Held,b]).length=a.Held.length+b.length by simp only [Ci,List.flatten_cons,List.flatten_nil,List.length_append,List.length_cons,List.length_nil];omega)
   rintro _ ⟨dI,dJ,bU,bW,rfl,_⟩ _ rfl _ _ _
   refine sw ?_
   refine pu (vs bU ((Cz a.H (Ci [a.Held,b])).2).length bW) wN ?_
   exact f2
  ·intro d dK
   rintro _ rfl _ rfl _ rfl _ rfl _ rfl _ ⟨dL,dM,rfl,dN⟩ _ ⟨dO,dP,rfl,_⟩
   have dQ:=(show (Ci [a.Held,b]).length=a.Held.length+b.length by simp only [Ci,List.flatten_cons,List.flatten_nil,List.length_append,List.length_cons,List.length_nil];omega)
   rintro _ ⟨bX,bY,dR,dS,rfl,_⟩ _ rfl _ rfl _ _
   refine sw ?_
   refine aw (vs bX ((Cz a.H (Ci [a.Held,b])).1).length bY) ?_
   exact f2
 ·intro d J
  have aD:=Y.extk J
  rintro _ rfl _ rfl _ rfl _ rfl _ rfl _ ⟨dU,dV,rfl,dW⟩ _ ⟨dX,dY,rfl,_⟩
  have dZ:=(show (Ci [a.Held,b]).length=a.Held.length+b.length by simp only [Ci,List.flatten_cons,List.flatten_nil,List.length_append,List.length_cons,List.length_nil];omega)
  rintro _ ⟨aE,aF,ao,ap,rfl,bZ,ca,cb,cc⟩ _ rfl _ rfl _ rfl _ rfl
  refine sw ?_
  refine aw (vs ao ((Cz a.H (Ci [a.Held,b])).2).length ap) ?_
  refine BU<|re<|Cc ?_
  refine CU ([(39,[],[],(fun _ v w=>∃ a0:Addr,v=.slice (some a0) 0 0∧w.ownsRow d.heap.size 3 1 (.slice (some a0) 0 0) 0 [])),(40,[],[],(fun _ v _=>v=(vs aE ((Cz a.H (Ci [a.Held,b])).1).length aF))),(41,[],[0,1],(fun _ v w=>∃ (f:Option Addr) (p:Nat),v=.slice f ((Cz a.H (Ci [a.Held,b])).1).length p∧w.ownsRow d.heap.size 3 1 (.slice f ((Cz a.H (Ci [a.Held,b])).1).length p) ((Cz a.H (Ci [a.Held,b])).1).length (((Cz a.H (Ci [a.Held,b])).1).map iV)∧((Cz a.H (Ci [a.Held,b])).1).length≤1073741824∧Aps [(f,p)])),(42,[],[],(fun _ v _=>v=(vs ao ((Cz a.H (Ci [a.Held,b])).2).length ap))),(43,[41],[0,1,2,3],(fun e v w=>PH w d.heap.size v ((Cz a.H (Ci [a.Held,b])).2) (fun am=>Ap (sp (e 41)) am))),(44,[],[],(fun _ v _=>v=(vp l 2))),(45,[],[5],(fun _ v _=>v=(vi a.N))),(46,[],[],(fun _ v _=>v=(vs x b.length y))),(47,[],[7],(fun _ v _=>v=(vi (b.length:Int)))),(48,[],[5,6,7,8],(fun _ v _=>v=(vi (a.N+(b.length:Int)))))]:GV) (fun _ M=>Keep d M) [] DN rfl (by kernel_rfl) (by kernel_rfl) ?_ (fun _ _ h=>h) (fun _ _ _ _ h _ k=>h.trans k) trivial ?_ ?_ ?_
  ·exact ⟨(fun e v w A h hk=>by obtain ⟨i,he,j⟩:=h;exact ⟨i,he,gc j hk⟩),hE,⟨hV,hE,⟨(fun e v w A h hk=>by obtain ⟨i,q,he,j,r,hap⟩:=h;exact ⟨i,q,he,gc j hk,r,hap⟩),hE,⟨hV,hE,⟨(fun e v w A h hk=>by obtain ⟨i,q,he,j,r,hap,hx⟩:=h;exact ⟨i,q,he,gc j hk,r,hap,hx⟩),(fun O P v w hx h=>by have cd:=hx 41 (by simp);simp only [cd] at h;exact h),⟨hV,hE,⟨hV,hE,⟨hV,hE,⟨hV,hE,⟨hV,hE,trivial⟩⟩⟩⟩⟩⟩⟩⟩⟩⟩
  ·exact trivial
  ·refine ⟨?_,⟨?_,⟨?_,⟨?_,⟨?_,⟨?_,⟨?_,⟨?_,⟨?_,⟨?_,trivial⟩⟩⟩⟩⟩⟩⟩⟩⟩⟩
   ·intro _ g ce _
    rintro _ _ _ _ _ _ _ _ _ _
    refine sw ?_
    refine CR wN rfl rfl Cd (fun w=>by kernel_rfl) ?_
    intro ea aq cg ci
    exact CN cg ⟨_,rfl,tB ci ce.size⟩
   ·intro _ g ec _
    rintro _ _ _ _ _ _ _ _ _ _
    refine sw ?_
    refine mw (vs aE ((Cz a.H (Ci [a.Held,b])).1).length aF) ?_
    exact f1
   ·intro _ g aG _
    rintro _ ⟨ed,rfl,cj⟩ _ rfl _ _ _ _ _ _ _ _
    refine sw ?_
    have ck:=(bZ.kp aG)
    refine QV ((Cz a.H (Ci [a.Held,b])).1) wN Cd cj ck aG.size ?_
    intro ee ef aq cm cn eg
    exact CN cm ⟨_,_,rfl,cn,ca,⟨trivial,trivial⟩⟩
   ·intro _ g eh _
    rintro _ _ _ _ _ _ _ _ _ _
    refine sw ?_
    refine mw (vs ao ((Cz a.H (Ci [a.Held,b])).2).length ap) ?_
    exact f1
   ·intro _ g aH _
    rintro _ ⟨ej,rfl,ek⟩ _ rfl _ ⟨em,en,rfl,co,eo,-⟩ _ rfl _ _ _ _ _ _
    refine sw ?_
    have cp:=(cb.kp aH)
    refine cl wN (GA g _ ((Cz a.H (Ci [a.Held,b])).2) (CC cp cc)) ?_
    rintro _ aq ⟨cq,⟨ep,er,rfl,aI,cr,cs⟩⟩
    exact CN cq ⟨_,_,rfl,(tB aI aH.size),cr,cs,(Ap.lt co aI (Nat.le_refl _))⟩
   ·intro _ g es _
    rintro _ _ _ _ _ _ _ _ _ _
    refine sw ?_
    refine pu (vp l 2) wN ?_
    exact f1
   ·intro _ g cu _
    rintro _ _ _ _ _ _ rfl _ _ _ _
    refine sw ?_
    have cv:=((Z.kp J).kp cu)
    refine ld (vi a.N) wN tE cv ?_
    exact f1
   ·intro _ g et _
    rintro _ _ _ _ _ _ _ _ _ _
    refine sw ?_
    refine mw (vs x b.length y) ?_
    exact f1
   ·intro _ g cw _
    have cx:=aD.extk cw
    rintro _ _ _ _ _ _ _ _ rfl _ _
    refine sw ?_
    refine ln wN tD (aj.from0 cx) ?_
    exact f1
   ·intro _ g eu _
    rintro _ _ _ _ _ _ rfl _ rfl _ rfl _ rfl _
    refine sw ?_
    refine ar (a.N+(b.length:Int)) wN ?_
    exact f1
  ·intro _ g aJ
   rintro _ ⟨ew,rfl,ex⟩ _ rfl _ ⟨aa,ab,rfl,aK,cy,-⟩ _ rfl _ ⟨ac,ad,rfl,aL,cz,ey,c0⟩ _ rfl _ rfl _ rfl _ rfl _ rfl
   refine sw ?_
   refine pu (va [(vs aa ((Cz a.H (Ci [a.Held,b])).1).length ab),(vs ac (((Cz a.H (Ci [a.Held,b])).2)).length ad),(vi (a.N+(b.length:Int)))]) wN ?_
   have c1:=(((az.kp D).kp J).kp aJ)
   refine sv [(vs aa ((Cz a.H (Ci [a.Held,b])).1).length ab),(vs ac (((Cz a.H (Ci [a.Held,b])).2)).length ad),(vi (a.N+(b.length:Int)))] wN EW c1 ?_
   intro aq au c2 ez
   have c3:=(aD.extk aJ).ext au (fun k hk=>by subst hk;exact nT E.size ay)
   refine n3 ?_
   have c4:=(tC aK au (ne1 aK (nL R (z2 D J))))
   have c5:=(tC aL au (ne1 aL (nL R (z2 D J))))
   refine EY (.inl rfl) (va [(vs aa ((Cz a.H (Ci [a.Held,b])).1).length ab),(vs ac (((Cz a.H (Ci [a.Held,b])).2)).length ad),(vi (a.N+(b.length:Int)))]) rfl (Fe [(vs aa ((Cz a.H (Ci [a.Held,b])).1).length ab),(vs ac (((Cz a.H (Ci [a.Held,b])).2)).length ad),(vi (a.N+(b.length:Int)))] rfl c2 GL EW) ?_
   refine ⟨c3.keep0,?_⟩
   simp only [Ea,o,G,cond_true,cond_false]
   exact ⟨_,_,_,_,rfl,(tB c4 (z4 E B D J)),cy,(tB c5 (z4 E B D J)),cz,⟨⟨c0,trivial⟩,⟨trivial,trivial⟩⟩⟩

theorem Sr (b:World) (a:Int) :Fn Tryz.prog 128 #[(vi a)] b (fun v d=>Keep b d∧GE d b.heap.size v (DQ a)):=by
 refine Cl (n:=25) [(vi a)] Tryz.func128 rfl rfl ?_
 refine sr ?_
 refine aw (vs none 0 0) ?_
 refine n4 ?_
 refine mw (vi a) ?_
 refine cl wN (DI b a 0 1048576) ?_
 rintro _ h ⟨o,rfl⟩
 have B:=(Ch.base b).extk o
 refine pu (vb (!(i_within a 0 1048576))) wN ?_
 refine n2 ?_
 rcases bf (i_within a 0 1048576) with i|i
 ·have aj:=CT i
  refine ct (cA not i) ?_
  refine sr ?_
  refine aw (vs none 0 0) ?_
  refine n1 ?_
  refine rt (vs none 0 0) ?_
  refine ⟨B.keep0,?_⟩
  have N:DQ a=[]:=by first|exact Jl (by omega)|exact PN (by omega) (by omega) (by omega) (by omega)
  rw [N]
  exact ⟨_,_,rfl,(by first|exact Dr _ _ _ _|exact OLv.nil _ _ _ _),(by simp),⟨trivial,trivial⟩⟩
 have ak:=CE i
 refine cf (cA not i) ?_
 refine y1 ?_
 refine ltB ([128]:List UInt8) wN tD ?_
 intro p q A r O
 have P:=B.extk r
 refine aw (vs p ([128]:List UInt8).length q) ?_
 refine BU<|re<|Cc<|Ca ?_
 have C:(([128]:List UInt8):List UInt8)=[(128:UInt8)]++List.replicate 0 (0:UInt8):=by first|rfl|(rw [List.replicate_succ',List.append_assoc])
 refine CJ [(0,(vi a)),(2,(vs none 0 0)),(3,(.slice p ([(128:UInt8)]++List.replicate 0 (0:UInt8)).length q))] ⟨rfl,rfl,(cA (fun l:List UInt8=>Value.slice p l.length q) C),trivial⟩ (fun e' d=>∃ (j:Nat) (D:Env) (e:Option Addr) (f:Nat),e'=pt D [(0,(vi a)),(2,(vs none 0 0)),(3,(.slice e ([(128:UInt8)]++List.replicate j (0:UInt8)).length f))]∧Ch (fun k=>b.heap.size≤k) b d∧Ch (fun k=>h.heap.size≤k) A d∧((j:Nat):Int)≤(64 - (a+9) % 64) % 64∧(World.ownsRow d h.heap.size 5 1 (.slice e ([(128:UInt8)]++List.replicate j (0:UInt8)).length f) ([(128:UInt8)]++List.replicate j (0:UInt8)).length (([(128:UInt8)]++List.replicate j (0:UInt8)).map bV)∧([(128:UInt8)]++List.replicate j (0:UInt8)).length≤1073741824)) (fun e' _=>100 - (lenOf (e' 3))) ?_ ?_
 ·exact fun u=>⟨0,u,p,q,rfl,P,(Ch.refl (fun k=>h.heap.size≤k) A),(by omega),(C ▸ ⟨O,(by simp)⟩)⟩
 ·rintro _ Q ⟨j,D,e,f,rfl,E,s,am,⟨g,an⟩⟩
  have hpl:([(128:UInt8)]++List.replicate j (0:UInt8)).length=1+j:=by rw [List.length_append,List.length_replicate];rfl
  refine Cc<|sr ?_
  refine mw (vi a) ?_
  refine mw (vs e ([(128:UInt8)]++List.replicate j (0:UInt8)).length f) ?_
  refine ln wN tD (Rd.of_own g) ?_
  refine ar (a+(([(128:UInt8)]++List.replicate j (0:UInt8)).length:Int)) wN ?_
  refine ar ((a+(([(128:UInt8)]++List.replicate j (0:UInt8)).length:Int))+8) wN ?_
  refine Fq ((a+(([(128:UInt8)]++List.replicate j (0:UInt8)).length:Int))+8) 64 wN rfl rfl (by kernel_rfl) (by first|omega|assumption) ?_
  refine pu (vb (!(decide ((((a+(([(128:UInt8)]++List.replicate j (0:UInt8)).length:Int))+8) % 64)=0)))) wN ?_
  refine n2 ?_
  rcases bf (decide ((((a+(([(128:UInt8)]++List.replicate j (0:UInt8)).length:Int))+8) % 64)=0)) with m|m
  ·have ao:=dF m
   refine ct (cA not m) ?_
   refine Ct<|re<|Ca<|BZ ?_
   refine mw (vs e ([(128:UInt8)]++List.replicate j (0:UInt8)).length f) ?_
   refine ltB ([0]:List UInt8) wN tD ?_
   intro ap aq R t S
   have T:=(gc g t)
   refine apB ([(128:UInt8)]++List.replicate j (0:UInt8)) ([0]:List UInt8) wN tD T (Rd.of_own S) (z3 r s t) ?_
   intro w x F G V au W
   have X:=(E.extk t).ext G (fun k hk=>nT o.size (Cm g k hk).1)
   refine aw (vs w (([(128:UInt8)]++List.replicate j (0:UInt8))++([0]:List UInt8)).length x) ?_
   refine BU<|BS ?_
   have H:((([(128:UInt8)]++List.replicate j (0:UInt8))++([0]:List UInt8)):List UInt8)=[(128:UInt8)]++List.replicate (j+1) (0:UInt8):=by first|rfl|(rw [List.replicate_succ',List.append_assoc])
   refine CI (w0:=Q) [(0,(vi a)),(2,(vs none 0 0)),(3,(.slice w ([(128:UInt8)]++List.replicate (j+1) (0:UInt8)).length x))] ?_ ?_ ?_
   · exact ⟨rfl,rfl,(cA (fun l:List UInt8=>Value.slice w l.length x) H),trivial⟩
   · exact fun u=>⟨(j+1),u,w,x,rfl,X,((((Ch.refl (fun k=>h.heap.size≤k) A).ext s (fun k hk=>hk)).extk t).ext G (fun k hk=>nT (Nat.le_refl h.heap.size) (Cm g k hk).1)),(by omega),(H ▸ ⟨V,W⟩)⟩
   · show 100 - ([(128:UInt8)]++List.replicate (j+1) (0:UInt8)).length < 100 - ([(128:UInt8)]++List.replicate j (0:UInt8)).length;simp only [List.length_append,List.length_cons,List.length_nil,List.length_replicate];omega
  have av:=dT m
  refine cf (cA not m) ?_
  refine CS<|wb<|wb<|Ce<|re<|sr ?_
  refine mw (vs e ([(128:UInt8)]++List.replicate j (0:UInt8)).length f) ?_
  refine ltB ([0,0]:List UInt8) wN tD ?_
  intro ax ay R y Y
  have Z:=(gc g y)
  refine apB ([(128:UInt8)]++List.replicate j (0:UInt8)) ([0,0]:List UInt8) wN tD Z (Rd.of_own Y) (z3 r s y) ?_
  intro I J F K aa az ab
  have ac:=(E.extk y).ext K (fun k hk=>nT o.size (Cm g k hk).1)
  refine aw (vs I (([(128:UInt8)]++List.replicate j (0:UInt8))++([0,0]:List UInt8)).length J) ?_
  refine nx ?_
  refine mw (vs I (([(128:UInt8)]++List.replicate j (0:UInt8))++([0,0]:List UInt8)).length J) ?_
  refine mw (vi a) ?_
  refine ar (8*a) wN ?_
  refine cl wN (KY F _ (([(128:UInt8)]++List.replicate j (0:UInt8))++([0,0]:List UInt8)) (CC (Rd.of_own aa) ab) (8*a) 6 (by first|omega|(simp;done)|(simp;omega)|(simp only [List.length_append,List.length_cons,List.length_nil] at *;omega))) ?_
  rintro _ a0 ⟨ad,⟨L,M,rfl,ae,af,a1⟩⟩
  have ah:=ac.extk ad
  have a2:=Fa (([(128:UInt8)]++List.replicate j (0:UInt8))++([0,0]:List UInt8)) (8*a) 6
  refine aw (vs L (Et (([(128:UInt8)]++List.replicate j (0:UInt8))++([0,0]:List UInt8)) (8*a) 6).length M) ?_
  refine n3 ?_
  refine rt (vs L (Et (([(128:UInt8)]++List.replicate j (0:UInt8))++([0,0]:List UInt8)) (8*a) 6).length M) ?_
  refine ⟨ah.keep0,?_⟩
  have ai:DQ a=(Et (([(128:UInt8)]++List.replicate j (0:UInt8))++([0,0]:List UInt8)) (8*a) 6):=by first|exact Jl (by omega)|exact PN (by omega) (by omega) (by omega) (by omega)
  rw [ai]
  exact ⟨_,_,rfl,(tB ae (z5 o r s y K)),af,⟨trivial,trivial⟩⟩

theorem Ly (b:World) (s:Value) (a:List Int) (J:Mw b s a) (P:a.length=8):Fn Tryz.prog 129 #[s] b (fun v f=>Keep b f∧GE f b.heap.size v (Dy a)):=by
 obtain ⟨g,h,rfl,p,Q⟩:=J
 refine Cl (n:=18) [(vs g a.length h)] Tryz.func129 rfl rfl ?_
 refine sr ?_
 refine aw (vs none 0 0) ?_
 refine nx ?_
 refine CR wN rfl rfl tD (fun w=>by kernel_rfl) ?_
 intro q r t K
 have y:=(Ch.base b).extk t
 refine aw (vs (some q) 0 0) ?_
 refine n4 ?_
 refine mw (vs g a.length h) ?_
 refine ln wN Cd (p.from0 y) ?_
 refine mw (vi 0) ?_
 refine BU<|re<|Ca ?_
 have A:([]:List UInt8)=Dy (a.take 0):=by rfl
 have B:0=(Dy (a.take 0)).length:=by rw [← A];try (first|rfl|simp only [List.length_set]|simp)
 refine CJ [(2,(vs none 0 0)),(3,(.slice (some q) (Dy (a.take 0)).length 0)),(7,(vs g a.length h)),(8,(vi (a.length:Int))),(9,(vi ((0:Nat):Int)))] ⟨rfl,rfl,rfl,rfl,(cA (Value.int .i64) (show (0:Int)=((0:Nat):Int) by omega)),trivial⟩ (fun e' f=>∃ (k:Nat) (C:Env) (d:Option Addr) (e:Nat),e'=pt C [(2,(vs none 0 0)),(3,(.slice d (Dy (a.take k)).length e)),(7,(vs g a.length h)),(8,(vi (a.length:Int))),(9,(vi ((k:Nat):Int)))]∧Ch (fun k=>b.heap.size≤k) b f∧Ch (fun k=>b.heap.size≤k) r f∧k≤a.length∧(World.ownsRow f b.heap.size 5 1 (.slice d (Dy (a.take k)).length e) (Dy (a.take k)).length ((Dy (a.take k)).map bV)∧(Dy (a.take k)).length≤1073741824)) (fun e' _=>a.length - ((intOf (e' 9))).toNat) ?_ ?_
 ·exact fun u=>⟨0,u,(some q),0,rfl,y,(Ch.refl (fun k=>b.heap.size≤k) r),(by omega),⟨(by rw [← B,← A];exact K),(by rw [← B];first|exact (by simp)|(simp only [List.length_append,List.length_take,List.length_replicate];omega))⟩⟩
 ·rintro _ D ⟨k,C,d,e,rfl,j,E,R,⟨F,G⟩⟩
  have hwl:=Hm (a.take k)
  have htl:(a.take k).length=min k a.length:=List.length_take
  refine sr ?_
  refine pu (vb (decide (((k:Nat):Int) < (a.length:Int)))) wN ?_
  refine BU<|re<|Cc ?_
  rcases bf (decide (((k:Nat):Int) < (a.length:Int))) with i|i
  ·have S:=dF i
   refine cf i ?_
   refine CS<|wb<|wb<|Ce<|re<|sr ?_
   refine mw (vs d (Dy (a.take k)).length e) ?_
   refine aw (vs d (Dy (a.take k)).length e) ?_
   refine n3 ?_
   refine rt (vs d (Dy (a.take k)).length e) ?_
   refine ⟨j.keep0,?_⟩
   have L:Dy a=(Dy (a.take k)):=by exact Kp (by omega)
   rw [L]
   exact ⟨_,_,rfl,F,G,⟨trivial,trivial⟩⟩
  have T:=dT i
  refine ct i ?_
  refine Ct<|re<|Cc<|Ca<|sr ?_
  refine ix wN ((k:Nat):Int) Cd (p.from0 j) ?_
  refine ei (x:=a) k wN tE (p.from0 j) ?_
  refine aw (vi (a.getD k 0)) ?_
  refine BU<|re<|BZ ?_
  refine mw (vs d (Dy (a.take k)).length e) ?_
  refine mw (vi (a.getD k 0)) ?_
  refine cl wN (KY D _ (Dy (a.take k)) (CC (Rd.of_own F) G) (a.getD k 0) 4 (by first|omega|(simp;done)|(simp;omega)|(simp only [List.length_append,List.length_cons,List.length_nil] at *;omega))) ?_
  rintro _ V ⟨H,⟨m,o,rfl,M,N,W⟩⟩
  have O:=j.extk H
  have X:=Fa (Dy (a.take k)) (a.getD k 0) 4
  refine aw (vs m (Et (Dy (a.take k)) (a.getD k 0) 4).length o) ?_
  refine BU<|BS<|re<|BZ ?_
  refine ar (((k:Nat):Int)+1) wN ?_
  refine mw (vi (((k:Nat):Int)+1)) ?_
  refine BU ?_
  have I:((Et (Dy (a.take k)) (a.getD k 0) 4):List UInt8)=Dy (a.take (k+1)):=by exact Jf (by omega)
  refine CI (w0:=D) [(2,(vs none 0 0)),(3,(.slice m (Dy (a.take (k+1))).length o)),(7,(vs g a.length h)),(8,(vi (a.length:Int))),(9,(vi (((k+1):Nat):Int)))] ?_ ?_ ?_
  · exact ⟨rfl,(cA (fun l:List UInt8=>Value.slice m l.length o) I),rfl,rfl,(cA (Value.int .i64) (show ((((k:Nat):Int)+1):Int)=(((k+1):Nat):Int) by omega)),trivial⟩
  · exact fun u=>⟨(k+1),u,m,o,rfl,O,(((Ch.refl (fun k=>b.heap.size≤k) r).ext E (fun k hk=>hk)).extk H),(by omega),(I ▸ ⟨(tB M (z2 t E)),N⟩)⟩
  · show a.length - ((((k+1):Nat):Int)).toNat < a.length - (((k:Nat):Int)).toNat;omega

def Fw (a:PHash):(List UInt8):=bif (DV a) then ((Dy ((Cz a.H (Ci [a.Held,(DQ a.N)])).1))) else ([])
theorem Og (r:World) (I:Value) (a:PHash) (aa:PF r I a) :Fn Tryz.prog 90 #[I] r (fun v J=>Keep r J∧GE J r.heap.size v (Fw a)):=by
 obtain ⟨d,f,g,i,rfl,K,M,O,P⟩:=aa
 refine Cl (n:=23) [(va (HS a d f g i))] Tryz.func90 rfl rfl ?_
 refine sr ?_
 refine bx (HS a d f g i) wN ?_
 intro p s bc bd Q B
 have E:=(Ch.base r).extk Q
 refine aw (vs none 0 0) ?_
 refine n4 ?_
 refine lN (HS a d f g i) wN GL EW B ?_
 refine cl wN (Mn s _ a (LX (K.from0 E) M (O.from0 E) P)) ?_
 rintro _ F ⟨t,rfl⟩
 have C:=E.extk t
 refine pu (vb (!(DV a))) wN ?_
 refine n2 ?_
 rcases bf (DV a) with q|q
 ·refine ct (cA not q) ?_
  refine sr ?_
  refine aw (vs none 0 0) ?_
  refine n1 ?_
  refine rt (vs none 0 0) ?_
  refine ⟨C.keep0,?_⟩
  simp only [Fw,q,cond_true,cond_false]
  exact ⟨_,_,rfl,(by first|exact Dr _ _ _ _|exact OLv.nil _ _ _ _),(by simp),⟨trivial,trivial⟩⟩
 have be:=Ik q
 refine cf (cA not q) ?_
 refine Ct<|re<|Cc ?_
 refine FB ([(9,[],[],(fun _ v _=>v=(vp p 0))),(10,[],[0],(fun _ v _=>v=(vs d a.H.length f))),(11,[],[],(fun _ v _=>v=(vp p 1))),(12,[],[2],(fun _ v _=>v=(vs g a.Held.length i))),(13,[],[],(fun _ v _=>v=(vp p 2))),(14,[],[4],(fun _ v _=>v=(vi a.N))),(15,[],[4,5],(fun _ v w=>GE w F.heap.size v (DQ a.N))),(16,[15],[2,3,4,5,6],(fun e v w=>∃ (d:Option Addr) (u:Nat),v=.slice d 2 u∧w.ownsRow F.heap.size 22 1 (.slice d 2 u) 2 [(vs g a.Held.length i),(e 15)])),(17,[15],[2,3,4,5,6,7],(fun e v w=>PH w F.heap.size v (Ci [a.Held,(DQ a.N)]) (fun ab=>Ap (sp (e 15)) ab))),(18,[],[0,1,2,3,4,5,6,7,8],(fun _ v w=>∃ (d:Option Addr) (u:Nat) (R:Option Addr) (f:Nat),v=.tuple #[.slice d ((Cz a.H (Ci [a.Held,(DQ a.N)])).1).length u,.slice R ((Cz a.H (Ci [a.Held,(DQ a.N)])).2).length f]∧Rd w 1 (.slice d ((Cz a.H (Ci [a.Held,(DQ a.N)])).1).length u) ((Cz a.H (Ci [a.Held,(DQ a.N)])).1).length (((Cz a.H (Ci [a.Held,(DQ a.N)])).1).map iV)∧((Cz a.H (Ci [a.Held,(DQ a.N)])).1).length≤1073741824∧Rd w 1 (.slice R ((Cz a.H (Ci [a.Held,(DQ a.N)])).2).length f) ((Cz a.H (Ci [a.Held,(DQ a.N)])).2).length (((Cz a.H (Ci [a.Held,(DQ a.N)])).2).map bV)∧((Cz a.H (Ci [a.Held,(DQ a.N)])).2).length≤1073741824)),(8,[18],[0,1,2,3,4,5,6,7,8,9],(fun e v _=>v=(.tuple #[(DA (e 18) 0),(DA (e 18) 1)]))),(19,[18],[0,1,2,3,4,5,6,7,8,9,10],(fun e v _=>v=(DA (e 18) 0))),(20,[18],[0,1,2,3,4,5,6,7,8,9,10],(fun e v _=>v=(DA (e 18) 1))),(3,[18],[0,1,2,3,4,5,6,7,8,9,10,11],(fun e v _=>v=(DA (e 18) 0)))]:GV) DN rfl (by kernel_rfl) (by kernel_rfl) ?_ ?_ ?_
 ·exact ⟨hV,hE,⟨hV,hE,⟨hV,hE,⟨hV,hE,⟨hV,hE,⟨hV,hE,⟨(fun e v w s h hk=>by obtain ⟨j,k,he,l,x,hap⟩:=h;exact ⟨j,k,he,gc l hk,x,hap⟩),hE,⟨(fun e v w s h hk=>by obtain ⟨j,k,he,l⟩:=h;exact ⟨j,k,he,gc l hk⟩),(fun y A v w hx h=>by have G:=hx 15 (by simp);simp only [G] at h;exact h),⟨(fun e v w s h hk=>by obtain ⟨j,k,he,l,x,hap,hx⟩:=h;exact ⟨j,k,he,gc l hk,x,hap,hx⟩),(fun y A v w hx h=>by have G:=hx 15 (by simp);simp only [G] at h;exact h),⟨(fun e v w s h hk=>by obtain ⟨j,k,ac,ad,he,l,x,ae,af⟩:=h;exact ⟨j,k,ac,ad,he,Rd.kp l hk,x,Rd.kp ae hk,af⟩),hE,⟨hV,(fun y A v w hx h=>by have o:=hx 18 (by simp);simp only [o] at h;exact h),⟨hV,(fun y A v w hx h=>by have o:=hx 18 (by simp);simp only [o] at h;exact h),⟨hV,(fun y A v w hx h=>by have o:=hx 18 (by simp);simp only [o] at h;exact h),⟨hV,(fun y A v w hx h=>by have o:=hx 18 (by simp);simp only [o] at h;exact h),trivial⟩⟩⟩⟩⟩⟩⟩⟩⟩⟩⟩⟩⟩⟩
 ·refine ⟨?_,⟨?_,⟨?_,⟨?_,⟨?_,⟨?_,⟨?_,⟨?_,⟨?_,⟨?_,⟨?_,⟨?_,⟨?_,⟨?_,trivial⟩⟩⟩⟩⟩⟩⟩⟩⟩⟩⟩⟩⟩⟩
  ·intro b bg
   rintro _ _ _ _ _ _ _ _ _ _ _ _ _ _
   refine sw ?_
   refine pu (vp p 0) wN ?_
   exact f2
  ·intro b ah
   rintro _ rfl _ _ _ _ _ _ _ _ _ _ _ _ _
   refine sw ?_
   have ai:=((B.kp t).kp ah)
   refine ld (vs d a.H.length f) wN Dk ai ?_
   exact f2
  ·intro b bh
   rintro _ _ _ _ _ _ _ _ _ _ _ _ _ _
   refine sw ?_
   refine pu (vp p 1) wN ?_
   exact f2
  ·intro b aj
   rintro _ _ _ rfl _ _ _ _ _ _ _ _ _ _ _
   refine sw ?_
   have ak:=((B.kp t).kp aj)
   refine ld (vs g a.Held.length i) wN BT ak ?_
   exact f2
  ·intro b bi
   rintro _ _ _ _ _ _ _ _ _ _ _ _ _ _
   refine sw ?_
   refine pu (vp p 2) wN ?_
   exact f2
  ·intro b am
   rintro _ _ _ _ _ rfl _ _ _ _ _ _ _ _ _
   refine sw ?_
   have an:=((B.kp t).kp am)
   refine ld (vi a.N) wN tE an ?_
   exact f2
  ·intro b ao
   rintro _ _ _ _ _ rfl _ rfl _ _ _ _ _ _ _ _
   refine sw ?_
   refine cl wN (Sr b a.N) ?_
   rintro _ D ⟨ap,⟨bj,bk,rfl,aq,au,av⟩⟩
   have bl:=Fm a.N
   exact GB ap ⟨_,_,rfl,(tB aq ao.size),au,av⟩
  ·intro b ax
   rintro _ _ _ rfl _ rfl _ rfl _ rfl _ ⟨ay,az,rfl,_⟩
   have bm:=Fm a.N
   rintro _ _ _ _ _ _ _
   refine sw ?_
   refine Hn [(vs g a.Held.length i),(vs ay (DQ a.N).length az)] wN rfl rfl FH (m:=2) rfl (by simp only [maxLen];omega) (fun w=>by kernel_rfl) ?_
   intro bn D a0 S
   obtain ⟨bo,bp,rfl⟩:=Em S
   exact GB a0 ⟨_,_,rfl,tB S ax.size⟩
  ·intro b T
   have a1:=C.extk T
   rintro _ _ _ rfl _ rfl _ rfl _ rfl _ ⟨a2,a3,rfl,V,a4,bq⟩
   have br:=Fm a.N
   rintro _ ⟨bu,bv,rfl,a5⟩ _ _ _ _ _ _
   refine sw ?_
   refine cl wN (Gz b _ [a.Held,(DQ a.N)] (IE (RLv.mk (L:=Km) [(a.Held,[(g,i)]),((DQ a.N),[(a2,a3)])] (Rd.of_own a5) rfl ⟨⟨⟨(O.from0 a1),P⟩,trivial⟩,⟨⟨⟨(Rd.of_own V),a4⟩,trivial⟩,trivial⟩⟩ (by first|decide|exact Nat.le_of_ble_eq_true rfl)) (by first|decide|exact Nat.le_of_ble_eq_true rfl)) (by first|omega|(rw [Ez];omega)|(rw [Ez];simp only [List.length_cons,List.length_nil,Dh];omega)|(rw [Gv];simp only [List.length_cons,List.length_nil,Dh];omega)|(simp only [Ci,List.flatten_cons,List.flatten_nil,List.length_append,List.length_cons,List.length_nil,Dh];omega))) ?_
   rintro _ D ⟨a6,⟨bw,bz,rfl,W,a7,a8⟩⟩
   have b0:=(show (Ci [a.Held,(DQ a.N)]).length=a.Held.length+(DQ a.N).length by simp only [Ci,List.flatten_cons,List.flatten_nil,List.length_append,List.length_cons,List.length_nil];omega)
   exact GB a6 ⟨_,_,rfl,(tB W T.size),a7,a8,(Ap.lt V W (Nat.le_refl _))⟩
  ·intro b a9
   have aA:=C.extk a9
   rintro _ rfl _ rfl _ rfl _ rfl _ rfl _ rfl _ ⟨b1,b2,rfl,_⟩
   have b3:=Fm a.N
   rintro _ ⟨b4,b5,rfl,b6⟩ _ ⟨b7,b8,rfl,aB,aC,_⟩
   have b9:=(show (Ci [a.Held,(DQ a.N)]).length=a.Held.length+(DQ a.N).length by simp only [Ci,List.flatten_cons,List.flatten_nil,List.length_append,List.length_cons,List.length_nil];omega)
   rintro _ _ _ _ _
   refine sw ?_
   refine cl wN (Hz b _ a.H (GY (K.from0 aA) M) _ (Ci [a.Held,(DQ a.N)]) (CC (Rd.of_own aB) aC)) ?_
   rintro _ D ⟨aD,⟨bA,bB,bC,bD,rfl,aE,aF,aG,aH⟩⟩
   exact GB aD ⟨_,_,_,_,rfl,aE,aF,aG,aH⟩
  ·intro b bE
   rintro _ rfl _ rfl _ rfl _ rfl _ rfl _ rfl _ ⟨bF,bG,rfl,_⟩
   have bH:=Fm a.N
   rintro _ ⟨bI,bJ,rfl,bK⟩ _ ⟨bL,bM,rfl,_⟩
   have bN:=(show (Ci [a.Held,(DQ a.N)]).length=a.Held.length+(DQ a.N).length by simp only [Ci,List.flatten_cons,List.flatten_nil,List.length_append,List.length_cons,List.length_nil];omega)
   rintro _ ⟨aI,aJ,aK,aL,rfl,_⟩ _ _ _ _
   refine sw ?_
   refine mw (.tuple #[(vs aI ((Cz a.H (Ci [a.Held,(DQ a.N)])).1).length aJ),(vs aK ((Cz a.H (Ci [a.Held,(DQ a.N)])).2).length aL)]) ?_
   exact f2
  ·intro b bO
   rintro _ rfl _ rfl _ rfl _ rfl _ rfl _ rfl _ ⟨bP,bQ,rfl,_⟩
   have bR:=Fm a.N
   rintro _ ⟨bS,bT,rfl,bU⟩ _ ⟨bW,bX,rfl,_⟩
   have bY:=(show (Ci [a.Held,(DQ a.N)]).length=a.Held.length+(DQ a.N).length by simp only [Ci,List.flatten_cons,List.flatten_nil,List.length_append,List.length_cons,List.length_nil];omega)
   rintro _ ⟨aM,aN,bZ,ca,rfl,_⟩ _ rfl _ _ _
   refine sw ?_
   refine pu (vs aM ((Cz a.H (Ci [a.Held,(DQ a.N)])).1).length aN) wN ?_
   exact f2
  ·intro b cb
   rintro _ rfl _ rfl _ rfl _ rfl _ rfl _ rfl _ ⟨cc,cd,rfl,_⟩
   have ce:=Fm a.N
   rintro _ ⟨cg,ci,rfl,cj⟩ _ ⟨ck,cm,rfl,_⟩
   have cn:=(show (Ci [a.Held,(DQ a.N)]).length=a.Held.length+(DQ a.N).length by simp only [Ci,List.flatten_cons,List.flatten_nil,List.length_append,List.length_cons,List.length_nil];omega)
   rintro _ ⟨co,cp,aO,aP,rfl,_⟩ _ rfl _ _ _
   refine sw ?_
   refine pu (vs aO ((Cz a.H (Ci [a.Held,(DQ a.N)])).2).length aP) wN ?_
   exact f2
  ·intro b cq
   rintro _ rfl _ rfl _ rfl _ rfl _ rfl _ rfl _ ⟨cr,cs,rfl,_⟩
   have cu:=Fm a.N
   rintro _ ⟨cv,cw,rfl,cx⟩ _ ⟨cy,cz,rfl,_⟩
   have c0:=(show (Ci [a.Held,(DQ a.N)]).length=a.Held.length+(DQ a.N).length by simp only [Ci,List.flatten_cons,List.flatten_nil,List.length_append,List.length_cons,List.length_nil];omega)
   rintro _ ⟨aQ,aR,c1,c2,rfl,_⟩ _ rfl _ rfl _ _
   refine sw ?_
   refine aw (vs aQ ((Cz a.H (Ci [a.Held,(DQ a.N)])).1).length aR) ?_
   exact f2
 ·intro b X
  rintro _ rfl _ rfl _ rfl _ rfl _ rfl _ rfl _ ⟨c3,c4,rfl,_⟩
  have c5:=Fm a.N
  rintro _ ⟨c6,c7,rfl,c8⟩ _ ⟨c9,cC,rfl,_⟩
  have cD:=(show (Ci [a.Held,(DQ a.N)]).length=a.Held.length+(DQ a.N).length by simp only [Ci,List.flatten_cons,List.flatten_nil,List.length_append,List.length_cons,List.length_nil];omega)
  rintro _ ⟨aS,aT,aU,aV,rfl,aW,aX,_⟩ _ rfl _ rfl _ rfl _ rfl
  refine sw ?_
  refine aw (vs aU ((Cz a.H (Ci [a.Held,(DQ a.N)])).2).length aV) ?_
  refine nx ?_
  refine mw (vs aS ((Cz a.H (Ci [a.Held,(DQ a.N)])).1).length aT) ?_
  refine cl wN (Ly b _ ((Cz a.H (Ci [a.Held,(DQ a.N)])).1) (GY aW aX) (by first|omega|exact Hw RW _|exact IM (by first|assumption|exact (Ik (by assumption)).1))) ?_
  rintro _ D ⟨aY,⟨Y,Z,rfl,aZ,ba,cE⟩⟩
  have bb:=(C.extk X).extk aY
  refine aw (vs Y (Dy ((Cz a.H (Ci [a.Held,(DQ a.N)])).1)).length Z) ?_
  refine n3 ?_
  refine rt (vs Y (Dy ((Cz a.H (Ci [a.Held,(DQ a.N)])).1)).length Z) ?_
  refine ⟨bb.keep0,?_⟩
  simp only [Fw,q,cond_true,cond_false]
  exact ⟨_,_,rfl,(tB aZ (z3 Q t X)),ba,⟨trivial,trivial⟩⟩

theorem SA (b:List UInt8) (h:b.length≤1048576):Fw (Ea Er b)=sha b:=by
  have a:DV Er=true:=rfl
  have hA:Ea Er b={H:=(Cz k0 b).1,Held:=(Cz k0 b).2,N:=(b.length:Int):PHash}:=by
    have d:decide (1048576 - Er.N < (b.length:Int))=false:=decide_eq_false (by show ¬ (1048576 - 0 < (b.length:Int));omega)
    simp only [Ea,a,d,cond_true,cond_false]
    simp [Er,Ci,Qz]
  have hO:DV {H:=(Cz k0 b).1,Held:=(Cz k0 b).2,N:=(b.length:Int):PHash}=true:=by
    have hw:Gp (Cz k0 b).1 8=true:=Ls RW _
    have hl:(Cz k0 b).2.length=b.length - 64*(b.length / 64):=List.length_drop
    simp only [DV,hw,hl,i_within,cond_true,cond_eq_ite]
    (repeat' split) <;> first|rfl|(exfalso;simp_all;done)|(rw [decide_eq_true_eq];omega)|(exfalso;simp at *;omega)
  rw [hA,Ns h]
  have hp:DQ (b.length:Int)=pad b.length:=HH (by omega) (by omega)
  simp only [Fw,hO,cond_true,hp]
  simp [Ci]
theorem QS (b:World) (g:Value) (a:List UInt8) (p:EP b g a) :Fn Tryz.prog 52 #[g] b (fun v h=>Keep b h∧GE h b.heap.size v (sha a)):=by
 obtain ⟨e,f,rfl,i,q⟩:=p
 refine Cl (n:=10) [(vs e a.length f)] Tryz.func52 rfl rfl ?_
 refine sr ?_
 refine aw (vs none 0 0) ?_
 refine n4 ?_
 refine mw (vs e a.length f) ?_
 refine ln wN tD i ?_
 refine pu (vb (decide (1048576 < (a.length:Int)))) wN ?_
 refine n2 ?_
 rcases bt (decide (1048576 < (a.length:Int))) with d|d
 ·have J:=dT d
  refine ct d ?_
  refine sr ?_
  refine aw (vs none 0 0) ?_
  refine n1 ?_
  refine rt (vs none 0 0) ?_
  refine ⟨Ch.refl _ _,?_⟩
  have r:sha a=[]:=by first|exact OT (by omega)|exact (SA a (by omega)).symm
  rw [r]
  exact ⟨_,_,rfl,(by first|exact Dr _ _ _ _|exact OLv.nil _ _ _ _),(by simp),⟨trivial,trivial⟩⟩
 have K:=dF d
 refine cf d ?_
 refine y1 ?_
 refine cl wN (Of b ) ?_
 rintro _ s ⟨j,⟨L,M,N,O,rfl,t,u,w,x,P⟩⟩
 have k:=(Ch.base b).extk j
 refine mw (vs e a.length f) ?_
 refine cl wN (Oh s _ (Er) (LX (Rd.of_own t) u (Rd.of_own w) x) _ a (CC (i.from0 k) q)) ?_
 rintro _ y ⟨l,⟨Q,R,S,T,rfl,A,B,C,D,V⟩⟩
 refine cl wN (Og y _ (Ea (Er) a) (LX (Rd.of_own A) B (Rd.of_own C) D)) ?_
 rintro _ W ⟨E,⟨m,o,rfl,F,G,X⟩⟩
 have H:=(k.extk l).extk E
 refine aw (vs m (Fw (Ea (Er) a)).length o) ?_
 refine n3 ?_
 refine rt (vs m (Fw (Ea (Er) a)).length o) ?_
 refine ⟨H.keep0,?_⟩
 have I:sha a=(Fw (Ea (Er) a)):=by first|exact OT (by omega)|exact (SA a (by omega)).symm
 rw [I]
 exact ⟨_,_,rfl,(tB F (z2 j l)),G,⟨trivial,trivial⟩⟩

theorem MY (b:World) (K:Value) (a:List UInt8) (ab:EP b K a) :Fn Tryz.prog 157 #[K] b (fun v f=>Keep b f∧GE f b.heap.size v (BX a)):=by
 obtain ⟨h,i,rfl,w,L⟩:=ab
 refine Cl (n:=21) [(vs h a.length i)] Tryz.func157 rfl rfl ?_
 refine sr ?_
 refine aw (vs none 0 0) ?_
 refine n4 ?_
 refine mw (vs h a.length i) ?_
 refine ln wN tD w ?_
 refine pu (vb (decide (1048576 < (a.length:Int)))) wN ?_
 refine n2 ?_
 rcases bt (decide (1048576 < (a.length:Int))) with m|m
 ·have a3:=dT m
  refine ct m ?_
  refine sr ?_
  refine aw (vs none 0 0) ?_
  refine n1 ?_
  refine rt (vs none 0 0) ?_
  refine ⟨Ch.refl _ _,?_⟩
  have ac:BX a=[]:=by first|exact FT (by omega)|exact FS (by omega) (by omega) (by omega) (by simp only [List.length_append,List.length_replicate] at *;omega)|exact FR (by omega) (by omega) (by simp only [List.length_append,List.length_replicate] at *;omega)
  rw [ac]
  exact ⟨_,_,rfl,(by first|exact Dr _ _ _ _|exact OLv.nil _ _ _ _),(by simp),⟨trivial,trivial⟩⟩
 have a4:=dF m
 refine cf m ?_
 refine y1 ?_
 refine mw (vs h a.length i) ?_
 refine cl wN (GA b _ a (CC w L)) ?_
 rintro _ g ⟨x,⟨y,A,rfl,ad,ae,a5⟩⟩
 have B:=(Ch.base b).extk x
 refine aw (vs y (a).length A) ?_
 refine n4 ?_
 refine mw (vs h a.length i) ?_
 refine ln wN tD (w.from0 B) ?_
 refine pu (vb (decide (64 < (a.length:Int)))) wN ?_
 refine n2 ?_
 rcases bf (decide (64 < (a.length:Int))) with o|o
 ·have a6:=dF o
  refine cf o ?_
  refine Ct<|re<|Cc<|Ca ?_
  have M:((a):List UInt8)=(a)++List.replicate 0 (0:UInt8):=by simp
  refine CJ [(2,(vs none 0 0)),(3,(.slice y ((a)++List.replicate 0 (0:UInt8)).length A))] ⟨rfl,(cA (fun l:List UInt8=>Value.slice y l.length A) M),trivial⟩ (fun e' f=>∃ (j:Nat) (N:Env) (d:Option Addr) (e:Nat),e'=pt N [(2,(vs none 0 0)),(3,(.slice d ((a)++List.replicate j (0:UInt8)).length e))]∧Ch (fun k=>b.heap.size≤k) b f∧Ch (fun k=>b.heap.size≤k) g f∧(a).length+j≤64∧(World.ownsRow f b.heap.size 5 1 (.slice d ((a)++List.replicate j (0:UInt8)).length e) ((a)++List.replicate j (0:UInt8)).length (((a)++List.replicate j (0:UInt8)).map bV)∧((a)++List.replicate j (0:UInt8)).length≤1073741824)) (fun e' _=>64 - (lenOf (e' 3))) ?_ ?_
  ·exact fun u=>⟨0,u,y,A,rfl,B,(Ch.refl (fun k=>b.heap.size≤k) g),(by omega),(M ▸ ⟨ad,ae⟩)⟩
  ·rintro _ p ⟨j,N,d,e,rfl,O,P,a7,⟨q,af⟩⟩
   have hol:((a)++List.replicate j (0:UInt8)).length=(a).length+j:=by rw [List.length_append,List.length_replicate]
   refine Cc<|sr ?_
   refine mw (vs d ((a)++List.replicate j (0:UInt8)).length e) ?_
   refine ln wN tD (Rd.of_own q) ?_
   refine pu (vb (decide ((((a)++List.replicate j (0:UInt8)).length:Int) < 64))) wN ?_
   refine n2 ?_
   rcases bf (decide ((((a)++List.replicate j (0:UInt8)).length:Int) < 64)) with r|r
   ·have a8:=dF r
    refine cf r ?_
    refine CS<|wb<|wb<|Ce<|re<|sr ?_
    refine mw (vs d ((a)++List.replicate j (0:UInt8)).length e) ?_
    refine aw (vs d ((a)++List.replicate j (0:UInt8)).length e) ?_
    refine n3 ?_
    refine rt (vs d ((a)++List.replicate j (0:UInt8)).length e) ?_
    refine ⟨O.keep0,?_⟩
    have ah:BX a=((a)++List.replicate j (0:UInt8)):=by first|exact FT (by omega)|exact FS (by omega) (by omega) (by omega) (by simp only [List.length_append,List.length_replicate] at *;omega)|exact FR (by omega) (by omega) (by simp only [List.length_append,List.length_replicate] at *;omega)
    rw [ah]
    exact ⟨_,_,rfl,q,af,⟨trivial,trivial⟩⟩
   have a9:=dT r
   refine ct r ?_
   refine Ct<|re<|Ca<|BZ ?_
   refine mw (vs d ((a)++List.replicate j (0:UInt8)).length e) ?_
   refine ltB ([0]:List UInt8) wN tD ?_
   intro aA aB Q C ai
   have aj:=(gc q C)
   refine apB ((a)++List.replicate j (0:UInt8)) ([0]:List UInt8) wN tD aj (Rd.of_own ai) (z3 x P C) ?_
   intro D E ak R am aC an
   have ao:=(O.extk C).ext R (fun k hk=>nT (Nat.le_refl b.heap.size) (Cm q k hk).1)
   refine aw (vs D (((a)++List.replicate j (0:UInt8))++([0]:List UInt8)).length E) ?_
   refine BU<|BS ?_
   have S:((((a)++List.replicate j (0:UInt8))++([0]:List UInt8)):List UInt8)=(a)++List.replicate (j+1) (0:UInt8):=by rw [List.replicate_succ',List.append_assoc]
   refine CI (w0:=p) [(2,(vs none 0 0)),(3,(.slice D ((a)++List.replicate (j+1) (0:UInt8)).length E))] ?_ ?_ ?_
   · exact ⟨rfl,(cA (fun l:List UInt8=>Value.slice D l.length E) S),trivial⟩
   · exact fun u=>⟨(j+1),u,D,E,rfl,ao,((((Ch.refl (fun k=>b.heap.size≤k) g).ext P (fun k hk=>hk)).extk C).ext R (fun k hk=>nT (Nat.le_refl b.heap.size) (Cm q k hk).1)),(by omega),(S ▸ ⟨am,an⟩)⟩
   · show 64 - ((a)++List.replicate (j+1) (0:UInt8)).length < 64 - ((a)++List.replicate j (0:UInt8)).length;simp only [List.length_append,List.length_replicate];omega
 have aD:=dT o
 refine ct o ?_
 refine BZ ?_
 refine mw (vs h a.length i) ?_
 refine cl wN (QS g _ a (CC (w.from0 B) L)) ?_
 rintro _ p ⟨T,⟨F,G,rfl,ap,aq,aE⟩⟩
 have au:=B.extk T
 have aF:=HT a
 refine aw (vs F (sha a).length G) ?_
 refine BU<|re<|Cc<|Ca ?_
 have V:((sha a):List UInt8)=(sha a)++List.replicate 0 (0:UInt8):=by simp
 refine CJ [(2,(vs none 0 0)),(3,(.slice F ((sha a)++List.replicate 0 (0:UInt8)).length G))] ⟨rfl,(cA (fun l:List UInt8=>Value.slice F l.length G) V),trivial⟩ (fun e' f=>∃ (j:Nat) (W:Env) (d:Option Addr) (e:Nat),e'=pt W [(2,(vs none 0 0)),(3,(.slice d ((sha a)++List.replicate j (0:UInt8)).length e))]∧Ch (fun k=>b.heap.size≤k) b f∧Ch (fun k=>g.heap.size≤k) p f∧(sha a).length+j≤64∧(World.ownsRow f g.heap.size 5 1 (.slice d ((sha a)++List.replicate j (0:UInt8)).length e) ((sha a)++List.replicate j (0:UInt8)).length (((sha a)++List.replicate j (0:UInt8)).map bV)∧((sha a)++List.replicate j (0:UInt8)).length≤1073741824)) (fun e' _=>64 - (lenOf (e' 3))) ?_ ?_
 ·exact fun u=>⟨0,u,F,G,rfl,au,(Ch.refl (fun k=>g.heap.size≤k) p),(by omega),(V ▸ ⟨ap,aq⟩)⟩
 ·rintro _ Q ⟨j,W,d,e,rfl,X,Y,aG,⟨s,av⟩⟩
  have hol:((sha a)++List.replicate j (0:UInt8)).length=(sha a).length+j:=by rw [List.length_append,List.length_replicate]
  refine Cc<|sr ?_
  refine mw (vs d ((sha a)++List.replicate j (0:UInt8)).length e) ?_
  refine ln wN tD (Rd.of_own s) ?_
  refine pu (vb (decide ((((sha a)++List.replicate j (0:UInt8)).length:Int) < 64))) wN ?_
  refine n2 ?_
  rcases bf (decide ((((sha a)++List.replicate j (0:UInt8)).length:Int) < 64)) with t|t
  ·have aH:=dF t
   refine cf t ?_
   refine CS<|wb<|wb<|Ce<|re<|sr ?_
   refine mw (vs d ((sha a)++List.replicate j (0:UInt8)).length e) ?_
   refine aw (vs d ((sha a)++List.replicate j (0:UInt8)).length e) ?_
   refine n3 ?_
   refine rt (vs d ((sha a)++List.replicate j (0:UInt8)).length e) ?_
   refine ⟨X.keep0,?_⟩
   have ax:BX a=((sha a)++List.replicate j (0:UInt8)):=by first|exact FT (by omega)|exact FS (by omega) (by omega) (by omega) (by simp only [List.length_append,List.length_replicate] at *;omega)|exact FR (by omega) (by omega) (by simp only [List.length_append,List.length_replicate] at *;omega)
   rw [ax]
   exact ⟨_,_,rfl,(tB s x.size),av,⟨trivial,trivial⟩⟩
  have aI:=dT t
  refine ct t ?_
  refine Ct<|re<|Ca<|BZ ?_
  refine mw (vs d ((sha a)++List.replicate j (0:UInt8)).length e) ?_
  refine ltB ([0]:List UInt8) wN tD ?_
  intro aJ aK ak H ay
  have az:=(gc s H)
  refine apB ((sha a)++List.replicate j (0:UInt8)) ([0]:List UInt8) wN tD az (Rd.of_own ay) (z3 T Y H) ?_
  intro I J aL Z a0 aM a1
  have a2:=(X.extk H).ext Z (fun k hk=>nT x.size (Cm s k hk).1)
  refine aw (vs I (((sha a)++List.replicate j (0:UInt8))++([0]:List UInt8)).length J) ?_
  refine BU<|BS ?_
  have aa:((((sha a)++List.replicate j (0:UInt8))++([0]:List UInt8)):List UInt8)=(sha a)++List.replicate (j+1) (0:UInt8):=by rw [List.replicate_succ',List.append_assoc]
  refine CI (w0:=Q) [(2,(vs none 0 0)),(3,(.slice I ((sha a)++List.replicate (j+1) (0:UInt8)).length J))] ?_ ?_ ?_
  · exact ⟨rfl,(cA (fun l:List UInt8=>Value.slice I l.length J) aa),trivial⟩
  · exact fun u=>⟨(j+1),u,I,J,rfl,a2,((((Ch.refl (fun k=>g.heap.size≤k) p).ext Y (fun k hk=>hk)).extk H).ext Z (fun k hk=>nT (Nat.le_refl g.heap.size) (Cm s k hk).1)),(by omega),(aa ▸ ⟨a0,a1⟩)⟩
  · show 64 - ((sha a)++List.replicate (j+1) (0:UInt8)).length < 64 - ((sha a)++List.replicate j (0:UInt8)).length;simp only [List.length_append,List.length_replicate];omega

theorem Ml (d:World) (B:Value) (a:List UInt8) (K:EP d B a) (b:UInt8) :Fn Tryz.prog 158 #[B,(v8 ((b).toNat:Int))] d (fun v g=>Keep d g∧GE g d.heap.size v (De a b)):=by
 obtain ⟨h,i,rfl,s,V⟩:=K
 refine Cl (n:=23) [(vs h a.length i),(v8 ((b).toNat:Int))] Tryz.func158 rfl rfl ?_
 refine sr ?_
 refine aw (vs none 0 0) ?_
 refine nx ?_
 refine CR wN rfl rfl tD (fun w=>by kernel_rfl) ?_
 intro t A C L
 have D:=(Ch.base d).extk C
 refine aw (vs (some t) 0 0) ?_
 refine n4 ?_
 refine mw (vs h a.length i) ?_
 refine ln wN tD (s.from0 D) ?_
 refine mw (vi 0) ?_
 refine BU<|re<|Ca ?_
 have E:([]:List UInt8)=(a.take 0).map (fun y=>y^^^b):=by rfl
 have F:0=((a.take 0).map (fun y=>y^^^b)).length:=by rw [← E];try (first|rfl|simp only [List.length_set]|simp)
 refine CJ [(1,(v8 ((b).toNat:Int))),(4,(vs none 0 0)),(5,(.slice (some t) ((a.take 0).map (fun y=>y^^^b)).length 0)),(9,(vs h a.length i)),(10,(vi (a.length:Int))),(11,(vi ((0:Nat):Int)))] ⟨rfl,rfl,rfl,rfl,rfl,(cA (Value.int .i64) (show (0:Int)=((0:Nat):Int) by omega)),trivial⟩ (fun e' g=>∃ (k:Nat) (G:Env) (e:Option Addr) (f:Nat),e'=pt G [(1,(v8 ((b).toNat:Int))),(4,(vs none 0 0)),(5,(.slice e ((a.take k).map (fun y=>y^^^b)).length f)),(9,(vs h a.length i)),(10,(vi (a.length:Int))),(11,(vi ((k:Nat):Int)))]∧Ch (fun k=>d.heap.size≤k) d g∧Ch (fun k=>d.heap.size≤k) A g∧k≤a.length∧(World.ownsRow g d.heap.size 5 1 (.slice e ((a.take k).map (fun y=>y^^^b)).length f) ((a.take k).map (fun y=>y^^^b)).length (((a.take k).map (fun y=>y^^^b)).map bV)∧((a.take k).map (fun y=>y^^^b)).length≤1073741824)) (fun e' _=>a.length - ((intOf (e' 11))).toNat) ?_ ?_
 ·exact fun u=>⟨0,u,(some t),0,rfl,D,(Ch.refl (fun k=>d.heap.size≤k) A),(by omega),⟨(by rw [← F,← E];exact L),(by rw [← F];first|exact (by simp)|(simp only [List.length_append,List.length_take,List.length_replicate];omega))⟩⟩
 ·rintro _ M ⟨k,G,e,f,rfl,m,H,W,⟨o,N⟩⟩
  have hml:((a.take k).map (fun y=>y^^^b)).length=min k a.length:=by rw [List.length_map,List.length_take]
  refine sr ?_
  refine pu (vb (decide (((k:Nat):Int) < (a.length:Int)))) wN ?_
  refine BU<|re<|Cc ?_
  rcases bf (decide (((k:Nat):Int) < (a.length:Int))) with j|j
  ·have X:=dF j
   refine cf j ?_
   refine CS<|wb<|wb<|Ce<|re<|sr ?_
   refine mw (vs e ((a.take k).map (fun y=>y^^^b)).length f) ?_
   refine aw (vs e ((a.take k).map (fun y=>y^^^b)).length f) ?_
   refine n3 ?_
   refine rt (vs e ((a.take k).map (fun y=>y^^^b)).length f) ?_
   refine ⟨m.keep0,?_⟩
   have O:De a b=((a.take k).map (fun y=>y^^^b)):=by exact (Qx (by omega)).symm
   rw [O]
   exact ⟨_,_,rfl,o,N,⟨trivial,trivial⟩⟩
  have Y:=dT j
  refine ct j ?_
  refine Ct<|re<|Cc<|Ca<|sr ?_
  refine ix wN ((k:Nat):Int) tD (s.from0 m) ?_
  refine eb (x:=a) k wN EF (s.from0 m) ?_
  refine aw (v8 ((a.getD k 0).toNat:Int)) ?_
  refine BU<|re<|BZ ?_
  refine mw (vs e ((a.take k).map (fun y=>y^^^b)).length f) ?_
  refine mw (v8 ((a.getD k 0).toNat:Int)) ?_
  refine mw (v8 ((b).toNat:Int)) ?_
  refine He (a.getD k 0) (b) wN rfl rfl (by kernel_rfl) ?_
  refine ltB ([((a.getD k 0)^^^(b))]:List UInt8) wN tD ?_
  intro Z aa ab p P
  have Q:=(gc o p)
  refine apB ((a.take k).map (fun y=>y^^^b)) ([((a.getD k 0)^^^(b))]:List UInt8) wN tD Q (Rd.of_own P) (z3 C H p) ?_
  intro q r ac I R ad S
  have T:=(m.extk p).ext I (fun k hk=>nT (Nat.le_refl d.heap.size) (Cm o k hk).1)
  refine aw (vs q (((a.take k).map (fun y=>y^^^b))++([((a.getD k 0)^^^(b))]:List UInt8)).length r) ?_
  refine BU<|BS<|re<|BZ ?_
  refine ar (((k:Nat):Int)+1) wN ?_
  refine mw (vi (((k:Nat):Int)+1)) ?_
  refine BU ?_
  have J:((((a.take k).map (fun y=>y^^^b))++([((a.getD k 0)^^^(b))]:List UInt8)):List UInt8)=(a.take (k+1)).map (fun y=>y^^^b):=by exact LW (z:=0) (by omega)
  refine CI (w0:=M) [(1,(v8 ((b).toNat:Int))),(4,(vs none 0 0)),(5,(.slice q ((a.take (k+1)).map (fun y=>y^^^b)).length r)),(9,(vs h a.length i)),(10,(vi (a.length:Int))),(11,(vi (((k+1):Nat):Int)))] ?_ ?_ ?_
  · exact ⟨rfl,rfl,(cA (fun l:List UInt8=>Value.slice q l.length r) J),rfl,rfl,(cA (Value.int .i64) (show ((((k:Nat):Int)+1):Int)=(((k+1):Nat):Int) by omega)),trivial⟩
  · exact fun u=>⟨(k+1),u,q,r,rfl,T,((((Ch.refl (fun k=>d.heap.size≤k) A).ext H (fun k hk=>hk)).extk p).ext I (fun k hk=>nT (Nat.le_refl d.heap.size) (Cm o k hk).1)),(by omega),(J ▸ ⟨R,S⟩)⟩
  · show a.length - ((((k+1):Nat):Int)).toNat < a.length - (((k:Nat):Int)).toNat;omega

theorem Qe (e:World) (u:Value) (a:List UInt8) (V:EP e u a) (x:Value) (b:List UInt8) (W:EP e x b) :Fn Tryz.prog 148 #[u,x] e (fun v y=>Keep e y∧GE y e.heap.size v (Ff a b)):=by
 obtain ⟨i,j,rfl,A,X⟩:=V
 obtain ⟨f,g,rfl,B,Y⟩:=W
 refine Cl (n:=27) [(vs i a.length j),(vs f b.length g)] Tryz.func148 rfl rfl ?_
 refine sr ?_
 refine aw (vs none 0 0) ?_
 refine n4 ?_
 refine jT1 [(0,(vs i a.length j)),(1,(vs f b.length g)),(4,(vs none 0 0))] (Ff a b=[]) ?_ fun C=>?_
 ·intro Z D aa aA
  have ab:=(Ch.base e).extk aa
  refine sr ?_
  refine aw (vs none 0 0) ?_
  refine n1 ?_
  refine rt (vs none 0 0) ?_
  refine ⟨ab.keep0,?_⟩
  rw [Z]
  exact ⟨_,_,rfl,(by first|exact Dr _ _ _ _|exact OLv.nil _ _ _ _),(by simp),⟨trivial,trivial⟩⟩
 refine mw (vs i a.length j) ?_
 refine ln wN tD A ?_
 refine pu (vb (decide (1048576 < (a.length:Int)))) wN ?_
 refine mw (vb (decide (1048576 < (a.length:Int)))) ?_
 rcases bt (decide (1048576 < (a.length:Int))) with d|d
 ·have aB:=dT d
  iterate 3 refine sk d ?_
  refine pk (vb true) wN d ?_
  refine n2 ?_
  refine ct (Eq.refl true) ?_
  have ac:Ff a b=[]:=by first|exact Jq (by omega)|exact Jp (by omega) (by omega)|exact NI (by omega) (by omega)
  exact wj (C ac _ (Ch.refl _ _))
 have aC:=dF d
 refine mv (vs f b.length g) (wS d) ?_
 refine ln (wS d) tD B ?_
 refine pu (vb (decide (1048512 < (b.length:Int)))) (wS d) ?_
 refine pf (vb (decide (1048512 < (b.length:Int)))) wN d ?_
 refine n2 ?_
 rcases bt (decide (1048512 < (b.length:Int))) with h|h
 ·have aD:=dT h
  refine ct h ?_
  have ad:Ff a b=[]:=by first|exact Jq (by omega)|exact Jp (by omega) (by omega)|exact NI (by omega) (by omega)
  exact wj (C ad _ (Ch.refl _ _))
 have aE:=dF h
 refine cf h ?_
 refine y1 ?_
 refine mw (vs i a.length j) ?_
 refine cl wN (MY e _ a (CC A X)) ?_
 rintro _ D ⟨E,⟨o,p,rfl,F,G,aF⟩⟩
 have aG:=Hh a
 refine aw (vs o (BX a).length p) ?_
 refine nx ?_
 refine mw (vs o (BX a).length p) ?_
 refine cl wN (Ml D _ (BX a) (CC (Rd.of_own F) G) 92) ?_
 rintro _ ae ⟨q,⟨H,I,rfl,af,ah,aH⟩⟩
 have ai:=((Ch.base e).extk E).extk q
 have aI:=Dh (BX a) 92
 refine mw (vs o (BX a).length p) ?_
 have aj:=(gc F q)
 refine cl wN (Ml ae _ (BX a) (CC (Rd.of_own aj) G) 54) ?_
 rintro _ aJ ⟨r,⟨J,K,rfl,ak,am,aK⟩⟩
 have aL:=Dh (BX a) 54
 refine mw (vs f b.length g) ?_
 refine Hn [(vs J (De (BX a) 54).length K),(vs f b.length g)] wN rfl rfl FH (m:=2) rfl (by simp only [maxLen];omega) (fun w=>by kernel_rfl) ?_
 intro aM an k M
 obtain ⟨aN,aO,rfl⟩:=Em M
 have N:=(ai.extk r).extk k
 have ao:=(gc ak k)
 refine cl wN (Gz an _ [(De (BX a) 54),b] (IE (RLv.mk (L:=Km) [((De (BX a) 54),[(J,K)]),(b,[(f,g)])] (Rd.of_own M) rfl ⟨⟨⟨(Rd.of_own ao),am⟩,trivial⟩,⟨⟨⟨(B.from0 N),Y⟩,trivial⟩,trivial⟩⟩ (by first|decide|exact Nat.le_of_ble_eq_true rfl)) (by first|decide|exact Nat.le_of_ble_eq_true rfl)) (by first|omega|(rw [Ez];omega)|(rw [Ez];simp only [List.length_cons,List.length_nil,Dh];omega)|(rw [Gv];simp only [List.length_cons,List.length_nil,Dh];omega)|(simp only [Ci,List.flatten_cons,List.flatten_nil,List.length_append,List.length_cons,List.length_nil,Dh];omega))) ?_
 rintro _ ap ⟨s,⟨aP,aQ,rfl,aq,au,aR⟩⟩
 have aS:=(show (Ci [(De (BX a) 54),b]).length=(De (BX a) 54).length+b.length by simp only [Ci,List.flatten_cons,List.flatten_nil,List.length_append,List.length_cons,List.length_nil];omega)
 refine cl wN (QS ap _ (Ci [(De (BX a) 54),b]) (CC (Rd.of_own aq) au)) ?_
 rintro _ aT ⟨t,⟨O,P,rfl,av,ax,aU⟩⟩
 have ay:=(N.extk s).extk t
 have aV:=HT (Ci [(De (BX a) 54),b])
 refine Hn [(vs H (De (BX a) 92).length I),(vs O (sha (Ci [(De (BX a) 54),b])).length P)] wN rfl rfl FH (m:=2) rfl (by simp only [maxLen];omega) (fun w=>by kernel_rfl) ?_
 intro aW az l Q
 obtain ⟨aX,aY,rfl⟩:=Em Q
 have a0:=(gc av l)
 have a1:=(gc (gc (gc (gc (gc af r) k) s) t) l)
 refine cl wN (Gz az _ [(De (BX a) 92),(sha (Ci [(De (BX a) 54),b]))] (IE (RLv.mk (L:=Km) [((De (BX a) 92),[(H,I)]),((sha (Ci [(De (BX a) 54),b])),[(O,P)])] (Rd.of_own Q) rfl ⟨⟨⟨(Rd.of_own a1),ah⟩,trivial⟩,⟨⟨⟨(Rd.of_own a0),ax⟩,trivial⟩,trivial⟩⟩ (by first|decide|exact Nat.le_of_ble_eq_true rfl)) (by first|decide|exact Nat.le_of_ble_eq_true rfl)) (by first|omega|(rw [Ez];omega)|(rw [Ez];simp only [List.length_cons,List.length_nil,Dh];omega)|(rw [Gv];simp only [List.length_cons,List.length_nil,Dh];omega)|(simp only [Ci,List.flatten_cons,List.flatten_nil,List.length_append,List.length_cons,List.length_nil,Dh];omega))) ?_
 rintro _ a2 ⟨R,⟨aZ,ba,rfl,a3,a4,bb⟩⟩
 have bc:=(show (Ci [(De (BX a) 92),(sha (Ci [(De (BX a) 54),b]))]).length=(De (BX a) 92).length+(sha (Ci [(De (BX a) 54),b])).length by simp only [Ci,List.flatten_cons,List.flatten_nil,List.length_append,List.length_cons,List.length_nil];omega)
 refine cl wN (QS a2 _ (Ci [(De (BX a) 92),(sha (Ci [(De (BX a) 54),b]))]) (CC (Rd.of_own a3) a4)) ?_
 rintro _ bd ⟨a5,⟨S,T,rfl,a6,a7,be⟩⟩
 have a8:=((ay.extk l).extk R).extk a5
 have bg:=HT (Ci [(De (BX a) 92),(sha (Ci [(De (BX a) 54),b]))])
 refine aw (vs S (sha (Ci [(De (BX a) 92),(sha (Ci [(De (BX a) 54),b]))])).length T) ?_
 refine n3 ?_
 refine rt (vs S (sha (Ci [(De (BX a) 92),(sha (Ci [(De (BX a) 54),b]))])).length T) ?_
 refine ⟨a8.keep0,?_⟩
 have a9:Ff a b=(sha (Ci [(De (BX a) 92),(sha (Ci [(De (BX a) 54),b]))])):=by first|exact Jq (by omega)|exact Jp (by omega) (by omega)|exact NI (by omega) (by omega)
 rw [a9]
 exact ⟨_,_,rfl,(tB a6 (z8 E q r k s t l R)),a7,⟨trivial,trivial⟩⟩

theorem Sq (d:World) (i:Value) (a:List UInt8) (u:EP d i a) (j:Value) (b:List UInt8) (w:EP d j b) :Fn Tryz.prog 121 #[i,j] d (fun v k=>Keep d k∧GE k d.heap.size v (Iv a b)):=by
 obtain ⟨l,m,rfl,x,y⟩:=u
 obtain ⟨o,p,rfl,A,B⟩:=w
 refine Cl (n:=15) [(vs l a.length m),(vs o b.length p)] Tryz.func121 rfl rfl ?_
 refine sr ?_
 refine aw (vs none 0 0) ?_
 refine nx ?_
 refine mw (vs l a.length m) ?_
 refine mw (vs o b.length p) ?_
 refine cl wN (Qe d _ a (CC x y) _ b (CC A B)) ?_
 rintro _ C ⟨q,⟨f,g,rfl,h,D,M⟩⟩
 have r:=(Ch.base d).extk q
 have N:=HM a b
 refine aw (vs f (Ff a b).length g) ?_
 refine n4 ?_
 refine mw (vs f (Ff a b).length g) ?_
 refine ln wN tD (Rd.of_own h) ?_
 refine pu (vb (decide (((Ff a b).length:Int)=0))) wN ?_
 refine n2 ?_
 rcases bt (decide (((Ff a b).length:Int)=0)) with e|e
 ·have O:=dT e
  refine ct e ?_
  refine sr ?_
  refine aw (vs none 0 0) ?_
  refine n1 ?_
  refine rt (vs none 0 0) ?_
  refine ⟨r.keep0,?_⟩
  have E:Iv a b=[]:=by first|exact LK (by omega)|rfl
  rw [E]
  exact ⟨_,_,rfl,(by first|exact Dr _ _ _ _|exact OLv.nil _ _ _ _),(by simp),⟨trivial,trivial⟩⟩
 have P:=dF e
 refine cf e ?_
 refine y1 ?_
 refine mw (vs f (Ff a b).length g) ?_
 refine slv ((Ff a b).take 16) 0 16 wN tD (Rd.of_own h) (by first|omega|(simp <;> omega)) (by first|omega|(simp <;> omega)) (by first|rfl|(simp;done)|(rw [List.take_of_length_le (by first|(simp;done)|(simp;omega))])) rfl rfl rfl rfl (.inl ⟨rfl,rfl⟩) (.inr ⟨_,_,_,rfl,rfl,by omega⟩) ?_
 have F:0≤16:=(by first|omega|(simp <;> omega))
 have G:16≤(Ff a b).length:=(by first|omega|(simp <;> omega))
 refine cl wN (GA C _ ((Ff a b).take 16) (CC (Rd.subV (x':=((Ff a b).take 16)) (Rd.of_own h) F G (by first|rfl|(simp;done)|(rw [List.take_of_length_le (by first|(simp;done)|(simp;omega))]))) (nT (by simp only [List.length_take,List.length_drop];omega) D))) ?_
 rintro _ Q ⟨H,⟨s,t,rfl,I,J,R⟩⟩
 have K:=r.extk H
 refine aw (vs s (((Ff a b).take 16)).length t) ?_
 refine n3 ?_
 refine rt (vs s (((Ff a b).take 16)).length t) ?_
 refine ⟨K.keep0,?_⟩
 have L:Iv a b=(((Ff a b).take 16)):=by first|exact LK (by omega)|rfl
 rw [L]
 exact ⟨_,_,rfl,(tB I q.size),J,⟨trivial,trivial⟩⟩

def Fv (a:List UInt8) (b:List UInt8):(Bool):=bif (decide ((a.length:Int)=16)) then (decide ((Fx a b)=0)) else (false)
theorem Oe (e:World) (h:Value) (a:List UInt8) (o:EP e h a) (i:Value) (d:List UInt8) (p:EP e i d) :Fn Tryz.prog 120 #[h,i] e (fun v j=>Keep e j∧O_4 j e.heap.size v (Fv a d)):=by
 obtain ⟨f,g,rfl,k,q⟩:=o
 obtain ⟨l,m,rfl,r,s⟩:=p
 refine Cl (n:=14) [(vs f a.length g),(vs l d.length m)] Tryz.func120 rfl rfl ?_
 refine sr ?_
 refine aw (vb false) ?_
 refine nx ?_
 refine mw (vs f a.length g) ?_
 refine ln wN tD k ?_
 refine pu (vb (decide ((a.length:Int)=16))) wN ?_
 refine mw (vb (decide ((a.length:Int)=16))) ?_
 rcases bf (decide ((a.length:Int)=16)) with b|b
 ·have w:=dF b
  iterate 4 refine sk b ?_
  refine pf (vb false) wN b ?_
  refine aw (vb false) ?_
  refine n3 ?_
  refine rt (vb false) ?_
  refine ⟨Ch.refl _ _,?_⟩
  simp only [Fv,b,cond_true,cond_false]
  exact rfl
 have x:=dT b
 refine mv (vs f a.length g) (wS b) ?_
 refine mv (vs l d.length m) (wS b) ?_
 refine cl (wS b) (Qf e _ a (CC k q) _ d (CC r s)) ?_
 rintro _ y ⟨t,rfl⟩
 have u:=(Ch.base e).extk t
 refine pu (vb (decide ((Fx a d)=0))) (wS b) ?_
 refine pk (vb (decide ((Fx a d)=0))) wN b ?_
 refine aw (vb (decide ((Fx a d)=0))) ?_
 refine n3 ?_
 refine rt (vb (decide ((Fx a d)=0))) ?_
 refine ⟨u.keep0,?_⟩
 simp only [Fv,b,cond_true,cond_false]
 exact rfl

theorem Oj (f:World) (p:Value) (d:List UInt8) (I:EP f p d) (q:Value) (a:List UInt8) (J:EP f q a) (b:Int) :Fn Tryz.prog 159 #[p,q,(vi b)] f (fun v r=>Keep f r∧GE r f.heap.size v (Gb d a b)):=by
 obtain ⟨k,l,rfl,K,M⟩:=I
 obtain ⟨g,h,rfl,s,N⟩:=J
 refine Cl (n:=23) [(vs k d.length l),(vs g a.length h),(vi b)] Tryz.func159 rfl rfl ?_
 refine sr ?_
 refine aw (vs none 0 0) ?_
 refine n4 ?_
 refine jT1 [(0,(vs k d.length l)),(1,(vs g a.length h)),(2,(vi b)),(6,(vs none 0 0))] (Gb d a b=[]) ?_ fun t=>?_
 ·intro O P Q ak
  have R:=(Ch.base f).extk Q
  refine sr ?_
  refine aw (vs none 0 0) ?_
  refine n1 ?_
  refine rt (vs none 0 0) ?_
  refine ⟨R.keep0,?_⟩
  rw [O]
  exact ⟨_,_,rfl,(by first|exact Dr _ _ _ _|exact OLv.nil _ _ _ _),(by simp),⟨trivial,trivial⟩⟩
 refine mw (vi b) ?_
 refine cl wN (DI f b 0 6) ?_
 rintro _ P ⟨j,rfl⟩
 have u:=(Ch.base f).extk j
 refine pu (vb (!(i_within b 0 6))) wN ?_
 refine mw (vb (!(i_within b 0 6))) ?_
 rcases bf (i_within b 0 6) with e|e
 ·have am:=CT e
  iterate 3 refine sk (cA not e) ?_
  refine pk (vb true) wN (cA not e) ?_
  refine n2 ?_
  refine ct (Eq.refl true) ?_
  have S:Gb d a b=[]:=by first|exact Hk (by omega)|exact Hj (by omega) (by omega) (by omega) (by simp [Ci])
  exact wj (t S _ j)
 have an:=CE e
 refine mv (vs g a.length h) (wS (cA not e)) ?_
 refine ln (wS (cA not e)) tD (s.from0 u) ?_
 refine pu (vb (decide (100 < (a.length:Int)))) (wS (cA not e)) ?_
 refine pf (vb (decide (100 < (a.length:Int)))) wN (cA not e) ?_
 refine n2 ?_
 rcases bt (decide (100 < (a.length:Int))) with i|i
 ·have ao:=dT i
  refine ct i ?_
  have T:Gb d a b=[]:=by first|exact Hk (by omega)|exact Hj (by omega) (by omega) (by omega) (by simp [Ci])
  exact wj (t T _ j)
 have ap:=dF i
 refine cf i ?_
 refine y1 ?_
 refine mw (vs k d.length l) ?_
 refine ltB ([115]:List UInt8) wN tD ?_
 intro x y aq A V
 refine mw (vs g a.length h) ?_
 refine Hn [(vs x ([115]:List UInt8).length y),(vs g a.length h)] wN rfl rfl FH (m:=2) rfl (by simp only [maxLen];omega) (fun w=>by kernel_rfl) ?_
 intro au W o B
 obtain ⟨av,ax,rfl⟩:=Em B
 have C:=(u.extk A).extk o
 have X:=(gc V o)
 refine cl wN (Gz W _ [([115]:List UInt8),a] (IE (RLv.mk (L:=Km) [(([115]:List UInt8),[(x,y)]),(a,[(g,h)])] (Rd.of_own B) rfl ⟨⟨⟨(Rd.of_own X),(by simp)⟩,trivial⟩,⟨⟨⟨(s.from0 C),N⟩,trivial⟩,trivial⟩⟩ (by first|decide|exact Nat.le_of_ble_eq_true rfl)) (by first|decide|exact Nat.le_of_ble_eq_true rfl)) (by first|omega|(rw [Ez];omega)|(rw [Ez];simp only [List.length_cons,List.length_nil,Dh];omega)|(rw [Gv];simp only [List.length_cons,List.length_nil,Dh];omega)|(simp only [Ci,List.flatten_cons,List.flatten_nil,List.length_append,List.length_cons,List.length_nil,Dh];omega))) ?_
 rintro _ Y ⟨D,⟨ay,az,rfl,Z,aa,a0⟩⟩
 have a1:=(show (Ci [([115]:List UInt8),a]).length=1+a.length by simp only [Ci,List.flatten_cons,List.flatten_nil,List.length_append,List.length_cons,List.length_nil];omega)
 refine mw (vi b) ?_
 refine cl wN (KY Y _ (Ci [([115]:List UInt8),a]) (CC (Rd.of_own Z) aa) b 4 (by first|omega|(simp;done)|(simp;omega)|(simp only [List.length_append,List.length_cons,List.length_nil] at *;omega))) ?_
 rintro _ ab ⟨E,⟨a2,a3,rfl,ac,ad,a4⟩⟩
 have F:=(C.extk D).extk E
 have a5:=Fa (Ci [([115]:List UInt8),a]) b 4
 refine cl wN (Qe ab _ d (CC (K.from0 F) M) _ (Et (Ci [([115]:List UInt8),a]) b 4) (CC (Rd.of_own ac) ad)) ?_
 rintro _ a6 ⟨ae,⟨G,H,rfl,af,ah,a7⟩⟩
 have ai:=F.extk ae
 have a8:=HM d (Et (Ci [([115]:List UInt8),a]) b 4)
 refine aw (vs G (Ff d (Et (Ci [([115]:List UInt8),a]) b 4)).length H) ?_
 refine n3 ?_
 refine rt (vs G (Ff d (Et (Ci [([115]:List UInt8),a]) b 4)).length H) ?_
 refine ⟨ai.keep0,?_⟩
 have aj:Gb d a b=(Ff d (Et (Ci [([115]:List UInt8),a]) b 4)):=by first|exact Hk (by omega)|exact Hj (by omega) (by omega) (by omega) (by simp [Ci])
 rw [aj]
 exact ⟨_,_,rfl,(tB af (z5 j A o D E)),ah,⟨trivial,trivial⟩⟩

theorem Px (e:World) (L:Value) (b:List UInt8) (X:EP e L b) (M:Value) (a:List UInt8) (Y:EP e M a) (d:Int) :Fn Tryz.prog 149 #[L,M,(vi d)] e (fun v o=>Keep e o∧GE o e.heap.size v (Co b a d)):=by
 obtain ⟨h,i,rfl,N,Z⟩:=X
 obtain ⟨j,m,rfl,O,aa⟩:=Y
 refine Cl (n:=39) [(vs h b.length i),(vs j a.length m),(vi d)] Tryz.func149 rfl rfl ?_
 refine sr ?_
 refine aw (vs none 0 0) ?_
 refine n4 ?_
 refine jT1 [(0,(vs h b.length i)),(1,(vs j a.length m)),(2,(vi d)),(6,(vs none 0 0))] (Co b a d=[]) ?_ fun E=>?_
 ·intro ab p ac a3
  have ad:=(Ch.base e).extk ac
  refine sr ?_
  refine aw (vs none 0 0) ?_
  refine n1 ?_
  refine rt (vs none 0 0) ?_
  refine ⟨ad.keep0,?_⟩
  rw [ab]
  exact ⟨_,_,rfl,(by first|exact Dr _ _ _ _|exact OLv.nil _ _ _ _),(by simp),⟨trivial,trivial⟩⟩
 refine mw (vi d) ?_
 refine cl wN (DI e d 0 200) ?_
 rintro _ p ⟨q,rfl⟩
 have F:=(Ch.base e).extk q
 refine pu (vb (!(i_within d 0 200))) wN ?_
 refine mw (vb (!(i_within d 0 200))) ?_
 rcases bf (i_within d 0 200) with f|f
 ·have a4:=CT f
  iterate 3 refine sk (cA not f) ?_
  refine pk (vb true) wN (cA not f) ?_
  refine mw (vb true) ?_
  iterate 3 refine sk (Eq.refl true) ?_
  refine pk (vb true) wN (Eq.refl true) ?_
  refine n2 ?_
  refine ct (Eq.refl true) ?_
  have ae:Co b a d=[]:=by first|exact FG (by omega)|exact Ge (by omega) (by omega) (by omega) (by omega) (by omega) (by omega)
  exact wj (E ae _ q)
 have a5:=CE f
 refine mv (vs j a.length m) (wS (cA not f)) ?_
 refine ln (wS (cA not f)) tD (O.from0 F) ?_
 refine pu (vb (decide (100 < (a.length:Int)))) (wS (cA not f)) ?_
 refine pf (vb (decide (100 < (a.length:Int)))) wN (cA not f) ?_
 refine mw (vb (decide (100 < (a.length:Int)))) ?_
 rcases bt (decide (100 < (a.length:Int))) with g|g
 ·have a6:=dT g
  iterate 3 refine sk g ?_
  refine pk (vb true) wN g ?_
  refine n2 ?_
  refine ct (Eq.refl true) ?_
  have af:Co b a d=[]:=by first|exact FG (by omega)|exact Ge (by omega) (by omega) (by omega) (by omega) (by omega) (by omega)
  exact wj (E af _ q)
 have a7:=dF g
 refine mv (vs h b.length i) (wS g) ?_
 refine ln (wS g) tD (N.from0 F) ?_
 refine pu (vb (decide (1048576 < (b.length:Int)))) (wS g) ?_
 refine pf (vb (decide (1048576 < (b.length:Int)))) wN g ?_
 refine n2 ?_
 rcases bt (decide (1048576 < (b.length:Int))) with x|x
 ·have a8:=dT x
  refine ct x ?_
  have ah:Co b a d=[]:=by first|exact FG (by omega)|exact Ge (by omega) (by omega) (by omega) (by omega) (by omega) (by omega)
  exact wj (E ah _ q)
 have a9:=dF x
 refine cf x ?_
 refine y1 ?_
 refine CR wN rfl rfl tD (fun w=>by kernel_rfl) ?_
 intro G H I ai
 have aj:=F.extk I
 refine aw (vs (some G) 0 0) ?_
 refine n4 ?_
 refine aw (vi 0) ?_
 refine BU<|re<|Ca ?_
 have P:([]:List UInt8)=ES b a 0:=by rfl
 have Q:0=(ES b a 0).length:=by rw [← P];try (first|rfl|simp only [List.length_set]|simp)
 refine CJ [(0,(vs h b.length i)),(1,(vs j a.length m)),(2,(vi d)),(6,(vs none 0 0)),(7,(.slice (some G) (ES b a 0).length 0)),(8,(vi ((0:Nat):Int)))] ⟨rfl,rfl,rfl,rfl,rfl,(cA (Value.int .i64) (show (0:Int)=((0:Nat):Int) by omega)),trivial⟩ (fun e' o=>∃ (k:Nat) (R:Env) (r:Option Addr) (s:Nat),e'=pt R [(0,(vs h b.length i)),(1,(vs j a.length m)),(2,(vi d)),(6,(vs none 0 0)),(7,(.slice r (ES b a k).length s)),(8,(vi ((k:Nat):Int)))]∧Ch (fun k=>e.heap.size≤k) e o∧Ch (fun k=>p.heap.size≤k) H o∧32*((k:Nat):Int) < d+32∧(World.ownsRow o p.heap.size 5 1 (.slice r (ES b a k).length s) (ES b a k).length ((ES b a k).map bV)∧(ES b a k).length≤1073741824)) (fun e' _=>d.toNat - (lenOf (e' 7))) ?_ ?_
 ·exact fun u=>⟨0,u,(some G),0,rfl,aj,(Ch.refl (fun k=>p.heap.size≤k) H),(by omega),⟨(by rw [← Q,← P];exact ai),(by rw [← Q];first|exact (by simp)|(simp only [List.length_append,List.length_take,List.length_replicate];omega))⟩⟩
 ·rintro _ J ⟨k,R,r,s,rfl,A,K,aA,⟨t,ak⟩⟩
  have hsl:=JK (key:=b) (head:=a) (by omega) (by omega) k
  have hsm:=JK (key:=b) (head:=a) (by omega) (by omega) (k+1)
  refine Cc<|sr ?_
  refine mw (vs r (ES b a k).length s) ?_
  refine ln wN tD (Rd.of_own t) ?_
  refine mw (vi d) ?_
  refine pu (vb (decide (((ES b a k).length:Int) < d))) wN ?_
  refine n2 ?_
  rcases bt (decide (((ES b a k).length:Int) < d)) with y|y
  ·have aB:=dT y
   refine ct y ?_
   refine Ct<|re<|Cc<|Ca<|BZ ?_
   refine mw (vs r (ES b a k).length s) ?_
   refine mw (vs h b.length i) ?_
   refine mw (vs j a.length m) ?_
   refine mw (vi ((k:Nat):Int)) ?_
   refine cl wN (Oj J _ b (CC (N.from0 A) Z) _ a (CC (O.from0 A) aa) ((k:Nat):Int)) ?_
   rintro _ am ⟨B,⟨aC,aD,rfl,an,_⟩⟩
   have aE:=IP b a ((k:Nat):Int)
   have ao:=(gc t B)
   refine apB (ES b a k) (Gb b a ((k:Nat):Int)) wN tD ao (Rd.of_own an) (z3 I K B) ?_
   intro C D aF S ap aG aq
   have au:=(A.extk B).ext S (fun k hk=>nT q.size (Cm t k hk).1)
   refine aw (vs C ((ES b a k)++(Gb b a ((k:Nat):Int))).length D) ?_
   refine BU<|BS<|re<|BZ ?_
   refine mw (vi ((k:Nat):Int)) ?_
   refine ar (((k:Nat):Int)+1) wN ?_
   refine aw (vi (((k:Nat):Int)+1)) ?_
   refine BU ?_
   have T:(((ES b a k)++(Gb b a ((k:Nat):Int))):List UInt8)=ES b a (k+1):=by rfl
   refine CI (w0:=J) [(0,(vs h b.length i)),(1,(vs j a.length m)),(2,(vi d)),(6,(vs none 0 0)),(7,(.slice C (ES b a (k+1)).length D)),(8,(vi (((k+1):Nat):Int)))] ?_ ?_ ?_
   · exact ⟨rfl,rfl,rfl,rfl,(cA (fun l:List UInt8=>Value.slice C l.length D) T),(cA (Value.int .i64) (show ((((k:Nat):Int)+1):Int)=(((k+1):Nat):Int) by omega)),trivial⟩
   · exact fun u=>⟨(k+1),u,C,D,rfl,au,((((Ch.refl (fun k=>p.heap.size≤k) H).ext K (fun k hk=>hk)).extk B).ext S (fun k hk=>nT (Nat.le_refl p.heap.size) (Cm t k hk).1)),(by omega),(T ▸ ⟨ap,aq⟩)⟩
   · show d.toNat - (ES b a (k+1)).length < d.toNat - (ES b a k).length;omega
  have aH:=dF y
  refine cf y ?_
  refine CS<|wb<|wb<|Ce<|re<|sr ?_
  refine mw (vs r (ES b a k).length s) ?_
  refine mw (vi d) ?_
  refine slv ((ES b a k).take ((d).toNat)) 0 ((d).toNat) wN tD (Rd.of_own t) (by first|omega|(simp <;> omega)) (by first|omega|(simp <;> omega)) (by first|rfl|(simp;done)|(rw [List.take_of_length_le (by first|(simp;done)|(simp;omega))])) rfl rfl rfl rfl (.inl ⟨rfl,rfl⟩) (.inr ⟨_,_,_,rfl,rfl,by omega⟩) ?_
  have av:0≤((d).toNat):=(by first|omega|(simp <;> omega))
  have ax:((d).toNat)≤(ES b a k).length:=(by first|omega|(simp <;> omega))
  refine cl wN (GA J _ ((ES b a k).take ((d).toNat)) (CC (Rd.subV (x':=((ES b a k).take ((d).toNat))) (Rd.of_own t) av ax (by first|rfl|(simp;done)|(rw [List.take_of_length_le (by first|(simp;done)|(simp;omega))]))) (nT (by simp only [List.length_take,List.length_drop];omega) ak))) ?_
  rintro _ am ⟨ay,⟨V,W,rfl,az,a0,aI⟩⟩
  have a1:=A.extk ay
  refine aw (vs V (((ES b a k).take ((d).toNat))).length W) ?_
  refine n3 ?_
  refine rt (vs V (((ES b a k).take ((d).toNat))).length W) ?_
  refine ⟨a1.keep0,?_⟩
  have a2:Co b a d=(((ES b a k).take ((d).toNat))):=by first|exact FG (by omega)|exact Ge (by omega) (by omega) (by omega) (by omega) (by omega) (by omega)
  rw [a2]
  exact ⟨_,_,rfl,(tB az (z3 q I K)),a0,⟨trivial,trivial⟩⟩

theorem Ss (e:World) (X:Value) (d:List UInt8) (ap:EP e X d) (Y:Value) (b:List UInt8) (aq:EP e Y b) (Z:Value) (a:List UInt8) (au:EP e Z a) :Fn Tryz.prog 122 #[X,Y,Z] e (fun v p=>Keep e p∧GE p e.heap.size v (HX d b a)):=by
 obtain ⟨B,C,rfl,aa,av⟩:=ap
 obtain ⟨D,E,rfl,ab,ax⟩:=aq
 obtain ⟨i,j,rfl,F,aJ⟩:=au
 refine Cl (n:=46) [(vs B d.length C),(vs D b.length E),(vs i a.length j)] Tryz.func122 rfl rfl ?_
 refine sr ?_
 refine aw (vs none 0 0) ?_
 refine n4 ?_
 refine jT1 [(0,(vs B d.length C)),(1,(vs D b.length E)),(2,(vs i a.length j)),(6,(vs none 0 0))] (HX d b a=[]) ?_ fun M=>?_
 ·intro ay G az aK
  have a0:=(Ch.base e).extk az
  refine sr ?_
  refine aw (vs none 0 0) ?_
  refine n1 ?_
  refine rt (vs none 0 0) ?_
  refine ⟨a0.keep0,?_⟩
  rw [ay]
  exact ⟨_,_,rfl,(by first|exact Dr _ _ _ _|exact OLv.nil _ _ _ _),(by simp),⟨trivial,trivial⟩⟩
 refine mw (vs i a.length j) ?_
 refine ln wN tD F ?_
 refine pu (vb (decide (200 < (a.length:Int)))) wN ?_
 refine mw (vb (decide (200 < (a.length:Int)))) ?_
 rcases bt (decide (200 < (a.length:Int))) with f|f
 ·have aL:=dT f
  iterate 3 refine sk f ?_
  refine pk (vb true) wN f ?_
  refine mw (vb true) ?_
  iterate 3 refine sk (Eq.refl true) ?_
  refine pk (vb true) wN (Eq.refl true) ?_
  refine n2 ?_
  refine ct (Eq.refl true) ?_
  have a1:HX d b a=[]:=by first|exact Hs (by omega)|exact HV (by omega) (by omega) (by omega) (by omega)
  exact wj (M a1 _ (Ch.refl _ _))
 have aM:=dF f
 refine mv (vs D b.length E) (wS f) ?_
 refine ln (wS f) tD ab ?_
 refine pu (vb (decide (100 < (b.length:Int)))) (wS f) ?_
 refine pf (vb (decide (100 < (b.length:Int)))) wN f ?_
 refine mw (vb (decide (100 < (b.length:Int)))) ?_
 rcases bt (decide (100 < (b.length:Int))) with h|h
 ·have aN:=dT h
  iterate 3 refine sk h ?_
  refine pk (vb true) wN h ?_
  refine n2 ?_
  refine ct (Eq.refl true) ?_
  have a2:HX d b a=[]:=by first|exact Hs (by omega)|exact HV (by omega) (by omega) (by omega) (by omega)
  exact wj (M a2 _ (Ch.refl _ _))
 have aO:=dF h
 refine mv (vs B d.length C) (wS h) ?_
 refine ln (wS h) tD aa ?_
 refine pu (vb (decide (1048576 < (d.length:Int)))) (wS h) ?_
 refine pf (vb (decide (1048576 < (d.length:Int)))) wN h ?_
 refine n2 ?_
 rcases bt (decide (1048576 < (d.length:Int))) with t|t
 ·have aP:=dT t
  refine ct t ?_
  have a3:HX d b a=[]:=by first|exact Hs (by omega)|exact HV (by omega) (by omega) (by omega) (by omega)
  exact wj (M a3 _ (Ch.refl _ _))
 have aQ:=dF t
 refine cf t ?_
 refine y1 ?_
 refine CR wN rfl rfl tD (fun w=>by kernel_rfl) ?_
 intro N G ac ad
 have H:=(Ch.base e).extk ac
 refine aw (vs (some N) 0 0) ?_
 refine n4 ?_
 refine mw (vs B d.length C) ?_
 refine mw (vs D b.length E) ?_
 refine mw (vs i a.length j) ?_
 refine ln wN tD (F.from0 H) ?_
 refine cl wN (Px G _ d (CC (aa.from0 H) av) _ b (CC (ab.from0 H) ax) (a.length:Int)) ?_
 rintro _ O ⟨P,⟨Q,R,rfl,S,a4,aR⟩⟩
 have a5:=H.extk P
 have aS:=FM d b (a.length:Int)
 refine ln wN tD (Rd.of_own S) ?_
 refine mw (vi 0) ?_
 refine BU<|re<|Ca ?_
 have ae:((Co d b (a.length:Int)):List UInt8)=(Co d b (a.length:Int)):=by rfl
 have a6:=(gc ad P)
 have af:([]:List UInt8)=FL (a.take 0) ((Co d b (a.length:Int)).take 0):=by rfl
 have ah:0=(FL (a.take 0) ((Co d b (a.length:Int)).take 0)).length:=by rw [← af];try (first|rfl|simp only [List.length_set]|simp)
 refine CJ [(2,(vs i a.length j)),(6,(vs none 0 0)),(7,(.slice (some N) (FL (a.take 0) ((Co d b (a.length:Int)).take 0)).length 0)),(28,(.slice Q ((Co d b (a.length:Int))).length R)),(29,(vi ((Co d b (a.length:Int)).length:Int))),(30,(vi ((0:Nat):Int)))] ⟨rfl,rfl,rfl,(cA (fun l:List UInt8=>Value.slice Q l.length R) ae),rfl,(cA (Value.int .i64) (show (0:Int)=((0:Nat):Int) by omega)),trivial⟩ (fun e' p=>∃ (k:Nat) (ai:Env) (q:Option Addr) (s:Nat) (o:Option Addr) (r:Nat),e'=pt ai [(2,(vs i a.length j)),(6,(vs none 0 0)),(7,(.slice o (FL (a.take k) ((Co d b (a.length:Int)).take k)).length r)),(28,(.slice q ((Co d b (a.length:Int))).length s)),(29,(vi ((Co d b (a.length:Int)).length:Int))),(30,(vi ((k:Nat):Int)))]∧Ch (fun k=>e.heap.size≤k) e p∧Ch (fun k=>e.heap.size≤k) O p∧k≤a.length∧(World.ownsRow p G.heap.size 5 1 (.slice q ((Co d b (a.length:Int))).length s) ((Co d b (a.length:Int))).length (((Co d b (a.length:Int))).map bV)∧((Co d b (a.length:Int))).length≤1073741824)∧(World.ownsRow p e.heap.size 5 1 (.slice o (FL (a.take k) ((Co d b (a.length:Int)).take k)).length r) (FL (a.take k) ((Co d b (a.length:Int)).take k)).length ((FL (a.take k) ((Co d b (a.length:Int)).take k)).map bV)∧(FL (a.take k) ((Co d b (a.length:Int)).take k)).length≤1073741824)∧NeS o q) (fun e' _=>a.length - ((intOf (e' 30))).toNat) ?_ ?_
 ·exact fun u=>⟨0,u,Q,R,(some N),0,rfl,a5,(Ch.refl (fun k=>e.heap.size≤k) O),(by omega),(ae ▸ ⟨S,a4⟩),⟨(by rw [← ah,← af];exact a6),(by rw [← ah];first|exact (by simp)|(simp only [List.length_append,List.length_take,List.length_replicate];omega))⟩,(NeS.lt ad S (Nat.le_refl G.heap.size))⟩
 ·rintro _ a7 ⟨k,ai,q,s,o,r,rfl,I,aj,aT,⟨T,a8⟩,⟨J,a9⟩,ak⟩
  have hzl:=Nd a (Co d b (a.length:Int)) k
  have hsl:=FM d b (a.length:Int)
  refine sr ?_
  refine pu (vb (decide (((k:Nat):Int) < ((Co d b (a.length:Int)).length:Int)))) wN ?_
  refine BU<|re<|Cc ?_
  rcases bf (decide (((k:Nat):Int) < ((Co d b (a.length:Int)).length:Int))) with y|y
  ·have aU:=dF y
   refine cf y ?_
   refine CS<|wb<|wb<|Ce<|re<|sr ?_
   refine mw (vs o (FL (a.take k) ((Co d b (a.length:Int)).take k)).length r) ?_
   refine aw (vs o (FL (a.take k) ((Co d b (a.length:Int)).take k)).length r) ?_
   refine n3 ?_
   refine rt (vs o (FL (a.take k) ((Co d b (a.length:Int)).take k)).length r) ?_
   refine ⟨I.keep0,?_⟩
   have aA:HX d b a=(FL (a.take k) ((Co d b (a.length:Int)).take k)):=by first|exact Hs (by omega)|exact HV (by omega) (by omega) (by omega) (by omega)
   rw [aA]
   exact ⟨_,_,rfl,J,a9,⟨trivial,trivial⟩⟩
  have aV:=dT y
  refine ct y ?_
  refine Ct<|re<|Cc<|Ca<|sr ?_
  refine mw (vi ((k:Nat):Int)) ?_
  refine ix wN ((k:Nat):Int) tD (Rd.of_own T) ?_
  refine eb (x:=(Co d b (a.length:Int))) k wN EF (Rd.of_own T) ?_
  refine aw (vi ((k:Nat):Int)) ?_
  refine aw (v8 (((Co d b (a.length:Int)).getD k 0).toNat:Int)) ?_
  refine BU<|re<|BZ ?_
  refine mw (vs o (FL (a.take k) ((Co d b (a.length:Int)).take k)).length r) ?_
  refine mw (v8 (((Co d b (a.length:Int)).getD k 0).toNat:Int)) ?_
  refine mw (vs i a.length j) ?_
  refine mw (vi ((k:Nat):Int)) ?_
  refine ix wN ((k:Nat):Int) tD (F.from0 I) ?_
  refine eb (x:=a) k wN EF (F.from0 I) ?_
  refine He ((Co d b (a.length:Int)).getD k 0) (a.getD k 0) wN rfl rfl (by kernel_rfl) ?_
  refine ltB ([(((Co d b (a.length:Int)).getD k 0)^^^(a.getD k 0))]:List UInt8) wN tD ?_
  intro aW aX aY A aB
  have aC:=(gc J A)
  refine apB (FL (a.take k) ((Co d b (a.length:Int)).take k)) ([(((Co d b (a.length:Int)).getD k 0)^^^(a.getD k 0))]:List UInt8) wN tD aC (Rd.of_own aB) (z4 ac P aj A) ?_
  intro K L aZ V aD aE aF
  have aG:=(I.extk A).ext V (fun k hk=>nT (Nat.le_refl e.heap.size) (Cm J k hk).1)
  have am:=(gc T A)
  have aH:=NeS.app ak aE am
  refine aw (vs K ((FL (a.take k) ((Co d b (a.length:Int)).take k))++([(((Co d b (a.length:Int)).getD k 0)^^^(a.getD k 0))]:List UInt8)).length L) ?_
  refine BU<|BS<|re<|BZ ?_
  refine ar (((k:Nat):Int)+1) wN ?_
  refine mw (vi (((k:Nat):Int)+1)) ?_
  refine BU ?_
  have aI:=(tC am V (fun g hg hlt hk=>NeS.no (NeS.symm ak) hg hk))
  have an:((Co d b (a.length:Int)):List UInt8)=(Co d b (a.length:Int)):=by rfl
  have W:((Co d b (a.length:Int))).length=((Co d b (a.length:Int))).length:=by rw [← an];try (first|rfl|simp only [List.length_set]|simp)
  have ao:(((FL (a.take k) ((Co d b (a.length:Int)).take k))++([(((Co d b (a.length:Int)).getD k 0)^^^(a.getD k 0))]:List UInt8)):List UInt8)=FL (a.take (k+1)) ((Co d b (a.length:Int)).take (k+1)):=by exact Mx (by omega) (by omega)
  refine CI (w0:=a7) [(2,(vs i a.length j)),(6,(vs none 0 0)),(7,(.slice K (FL (a.take (k+1)) ((Co d b (a.length:Int)).take (k+1))).length L)),(28,(.slice q ((Co d b (a.length:Int))).length s)),(29,(vi ((Co d b (a.length:Int)).length:Int))),(30,(vi (((k+1):Nat):Int)))] ?_ ?_ ?_
  · exact ⟨rfl,rfl,(cA (fun l:List UInt8=>Value.slice K l.length L) ao),(cA (fun m:Nat=>Value.slice q m s) W),rfl,(cA (Value.int .i64) (show ((((k:Nat):Int)+1):Int)=(((k+1):Nat):Int) by omega)),trivial⟩
  · exact fun u=>⟨(k+1),u,q,s,K,L,rfl,aG,((((Ch.refl (fun k=>e.heap.size≤k) O).ext aj (fun k hk=>hk)).extk A).ext V (fun k hk=>nT (Nat.le_refl e.heap.size) (Cm J k hk).1)),(by omega),⟨(by rw [← W,← an];exact aI),(by rw [← W];first|exact a8|(simp only [List.length_append,List.length_take,List.length_replicate];omega))⟩,(ao ▸ ⟨aD,aF⟩),aH⟩
  · show a.length - ((((k+1):Nat):Int)).toNat < a.length - (((k:Nat):Int)).toNat;omega

def DH (b:List UInt8) (d:Int) (a:PFrame):(List UInt8)×(Bool):=bif (decide ((b.length:Int)=32)) then (bif (decide (((Cr d a).length:Int)=0)) then (([],false)) else (bif (Fv a.Tag (Iv b (Cr d a))) then (((HX b (CY d a.Sn a.Epoch a.Seq) a.Body),true)) else (([],false)))) else (([],false))
theorem Pw (x:World) (ac:Value) (f:List UInt8) (ax:EP x ac f) (d:Int) (ad:Value) (a:PFrame) (ay:JC x ad a) :Fn Tryz.prog 85 #[ac,(vi d),ad] x (fun v o=>Keep x o∧OA o x.heap.size v (DH f d a)):=by
 obtain ⟨l,m,rfl,C,ae⟩:=ax
 obtain ⟨L,M,D,E,N,O,P,Q,F,G,H,I,rfl,az,a0,af,ah,a1,a2,a3,a4,ai,aj,ak,am⟩:=ay
 refine Cl (n:=41) [(vs l f.length m),(vi d),(va (EB a L M D E N O P Q F G H I))] Tryz.func85 rfl rfl ?_
 refine sr ?_
 refine bx (EB a L M D E N O P Q F G H I) wN ?_
 intro p R bp bq an y
 have q:=(Ch.base x).extk an
 refine aw (vs none 0 0) ?_
 refine aw (vb false) ?_
 refine nx ?_
 refine mw (vi d) ?_
 refine lN (EB a L M D E N O P Q F G H I) wN Dn CV y ?_
 refine cl wN (Jz R d _ a (FC (az.from0 q) a0 (af.from0 q) ah (a1.from0 q) a2 (a3.from0 q) a4 (ai.from0 q) aj (ak.from0 q) am)) ?_
 rintro _ K ⟨r,⟨s,t,rfl,S,a5,br⟩⟩
 have u:=q.extk r
 refine aw (vs s (Cr d a).length t) ?_
 refine BU<|re<|Cc<|Cc ?_
 rcases bf (decide ((f.length:Int)=32)) with i|i
 ·have bu:=dF i
  refine CU ([(12,[],[],(fun _ v _=>v=(vs l f.length m))),(13,[],[0],(fun _ v _=>v=(vi (f.length:Int)))),(14,[],[0,1],(fun _ v _=>v=(vb (!(decide ((f.length:Int)=32)))))),(15,[],[0,1,2],(fun _ v _=>v=(vb (!(decide ((f.length:Int)=32)))))),(16,[],[0,1,2,3],(fun _ v _=>v=U)),(17,[],[0,1,2,3,4],(fun _ v _=>v=U)),(18,[],[0,1,2,3,4,5],(fun _ v _=>v=U)),(19,[],[0,1,2,3,4,5,6],(fun _ v _=>v=(vb true))),(20,[],[0,1,2,3,4,5,6,7],(fun _ v _=>v=(vb true))),(21,[],[0,1,2,3,4,5,6,7,8],(fun _ v _=>v=U)),(22,[],[0,1,2,3,4,5,6,7,8,9],(fun _ v _=>v=U)),(23,[],[0,1,2,3,4,5,6,7,8],(fun _ v _=>v=U)),(24,[],[0,1,2,3,4,5,6,7,8],(fun _ v _=>v=U)),(25,[],[0,1,2,3,4,5,6,7,8,11,12],(fun _ v _=>v=U))]:GV) (fun _ o=>Keep K o) [] DN rfl (by kernel_rfl) (by kernel_rfl) ?_ (fun _ _ h=>h) (fun _ _ _ _ h _ k=>h.trans k) trivial ?_ ?_ ?_
  ·exact ⟨hV,hE,⟨hV,hE,⟨hV,hE,⟨hV,hE,⟨hV,hE,⟨hV,hE,⟨hV,hE,⟨hV,hE,⟨hV,hE,⟨hV,hE,⟨hV,hE,⟨hV,hE,⟨hV,hE,⟨hV,hE,trivial⟩⟩⟩⟩⟩⟩⟩⟩⟩⟩⟩⟩⟩⟩
  ·exact trivial
  ·refine ⟨?_,⟨?_,⟨?_,⟨?_,⟨?_,⟨?_,⟨?_,⟨?_,⟨?_,⟨?_,⟨?_,⟨?_,⟨?_,⟨?_,trivial⟩⟩⟩⟩⟩⟩⟩⟩⟩⟩⟩⟩⟩⟩
   ·intro _ b bv _
    rintro _ _ _ _ _ _ _ _ _ _ _ _ _ _
    refine sw ?_
    refine mw (vs l f.length m) ?_
    exact f1
   ·intro _ b a6 _
    have a7:=u.extk a6
    rintro _ rfl _ _ _ _ _ _ _ _ _ _ _ _ _
    refine sw ?_
    refine ln wN tD (C.from0 a7) ?_
    exact f1
   ·intro _ b bw _
    rintro _ rfl _ rfl _ _ _ _ _ _ _ _ _ _ _ _
    refine sw ?_
    refine pu (vb (!(decide ((f.length:Int)=32)))) wN ?_
    exact f1
   ·intro _ b bz _
    rintro _ rfl _ rfl _ rfl _ _ _ _ _ _ _ _ _ _ _
    refine sw ?_
    refine mw (vb (!(decide ((f.length:Int)=32)))) ?_
    exact f1
   ·intro _ b b0 _
    rintro _ rfl _ rfl _ rfl _ rfl _ _ _ _ _ _ _ _ _ _
    refine sw ?_
    refine sk (cA not i) ?_
    exact f1
   ·intro _ b b1 _
    rintro _ rfl _ rfl _ rfl _ rfl _ rfl _ _ _ _ _ _ _ _ _
    refine sw ?_
    refine sk (cA not i) ?_
    exact f1
   ·intro _ b b2 _
    rintro _ rfl _ rfl _ rfl _ rfl _ rfl _ rfl _ _ _ _ _ _ _ _
    refine sw ?_
    refine sk (cA not i) ?_
    exact f1
   ·intro _ b b3 _
    rintro _ rfl _ rfl _ rfl _ rfl _ rfl _ rfl _ rfl _ _ _ _ _ _ _
    refine sw ?_
    refine pk (vb true) wN (cA not i) ?_
    exact f1
   ·intro _ b b4 _
    rintro _ rfl _ rfl _ rfl _ rfl _ rfl _ rfl _ rfl _ rfl _ _ _ _ _ _
    refine sw ?_
    refine mw (vb true) ?_
    exact f1
   ·intro _ b b5 _
    rintro _ rfl _ rfl _ rfl _ rfl _ rfl _ rfl _ rfl _ rfl _ rfl _ _ _ _ _
    refine sw ?_
    refine sk T1 ?_
    exact f1
   ·intro _ b b6 _
    rintro _ rfl _ rfl _ rfl _ rfl _ rfl _ rfl _ rfl _ rfl _ rfl _ rfl _ _ _ _
    refine sw ?_
    refine sk T1 ?_
    exact f1
   ·intro _ b b7 _
    rintro _ rfl _ rfl _ rfl _ rfl _ rfl _ rfl _ rfl _ rfl _ rfl _ _ _ _ _
    refine sw ?_
    refine sk T1 ?_
    exact f1
   ·intro _ b b8 _
    rintro _ rfl _ rfl _ rfl _ rfl _ rfl _ rfl _ rfl _ rfl _ rfl _ _ _ _ _
    refine sw ?_
    refine sk T1 ?_
    exact f1
   ·intro _ b b9 _
    rintro _ rfl _ rfl _ rfl _ rfl _ rfl _ rfl _ rfl _ rfl _ rfl _ _ _ rfl _ rfl _
    refine sw ?_
    refine sk T1 ?_
    exact f1
  ·intro _ b a8
   have a9:=u.extk a8
   rintro _ rfl _ rfl _ rfl _ rfl _ rfl _ rfl _ rfl _ rfl _ rfl _ rfl _ rfl _ rfl _ rfl _ rfl
   refine sw ?_
   iterate 2 refine sk (Eq.refl true) ?_
   refine pk (vb true) wN (Eq.refl true) ?_
   refine n2 ?_
   refine ct (Eq.refl true) ?_
   refine sr ?_
   refine aw (vs none 0 0) ?_
   refine aw (vb false) ?_
   refine n1 ?_
   refine GF (.inl rfl) (vs none 0 0) (vb false) rfl rfl rfl ?_
   refine ⟨a9.keep0,?_⟩
   simp only [DH,i,cond_true,cond_false]
   exact ⟨_,_,rfl,(by first|exact Dr _ _ _ _|exact OLv.nil _ _ _ _),(by simp),⟨trivial,trivial⟩⟩
 have bA:=dT i
 rcases bt (decide (((Cr d a).length:Int)=0)) with g|g
 ·have bB:=dT g
  refine CU ([(12,[],[],(fun _ v _=>v=(vs l f.length m))),(13,[],[0],(fun _ v _=>v=(vi (f.length:Int)))),(14,[],[0,1],(fun _ v _=>v=(vb (!(decide ((f.length:Int)=32)))))),(15,[],[0,1,2],(fun _ v _=>v=(vb (!(decide ((f.length:Int)=32)))))),(16,[],[0,1,2,3],(fun _ v _=>v=(vs s (Cr d a).length t))),(17,[],[0,1,2,3,4],(fun _ v _=>v=(vi ((Cr d a).length:Int)))),(18,[],[0,1,2,3,4,5],(fun _ v _=>v=(vb (decide (((Cr d a).length:Int)=0))))),(19,[],[0,1,2,3,4,5,6],(fun _ v _=>v=(vb (decide (((Cr d a).length:Int)=0))))),(20,[],[0,1,2,3,4,5,6,7],(fun _ v _=>v=(vb (decide (((Cr d a).length:Int)=0))))),(21,[],[0,1,2,3,4,5,6,7,8],(fun _ v _=>v=U)),(22,[],[0,1,2,3,4,5,6,7,8,9],(fun _ v _=>v=U)),(23,[],[0,1,2,3,4,5,6,7,8],(fun _ v _=>v=U)),(24,[],[0,1,2,3,4,5,6,7,8],(fun _ v _=>v=U)),(25,[],[0,1,2,3,4,5,6,7,8,11,12],(fun _ v _=>v=U))]:GV) (fun _ o=>Keep K o) [] DN rfl (by kernel_rfl) (by kernel_rfl) ?_ (fun _ _ h=>h) (fun _ _ _ _ h _ k=>h.trans k) trivial ?_ ?_ ?_
  ·exact ⟨hV,hE,⟨hV,hE,⟨hV,hE,⟨hV,hE,⟨hV,hE,⟨hV,hE,⟨hV,hE,⟨hV,hE,⟨hV,hE,⟨hV,hE,⟨hV,hE,⟨hV,hE,⟨hV,hE,⟨hV,hE,trivial⟩⟩⟩⟩⟩⟩⟩⟩⟩⟩⟩⟩⟩⟩
  ·exact trivial
  ·refine ⟨?_,⟨?_,⟨?_,⟨?_,⟨?_,⟨?_,⟨?_,⟨?_,⟨?_,⟨?_,⟨?_,⟨?_,⟨?_,⟨?_,trivial⟩⟩⟩⟩⟩⟩⟩⟩⟩⟩⟩⟩⟩⟩
   ·intro _ b bC _
    rintro _ _ _ _ _ _ _ _ _ _ _ _ _ _
    refine sw ?_
    refine mw (vs l f.length m) ?_
    exact f1
   ·intro _ b aA _
    have aB:=u.extk aA
    rintro _ rfl _ _ _ _ _ _ _ _ _ _ _ _ _
    refine sw ?_
    refine ln wN tD (C.from0 aB) ?_
    exact f1
   ·intro _ b bD _
    rintro _ rfl _ rfl _ _ _ _ _ _ _ _ _ _ _ _
    refine sw ?_
    refine pu (vb (!(decide ((f.length:Int)=32)))) wN ?_
    exact f1
   ·intro _ b bE _
    rintro _ rfl _ rfl _ rfl _ _ _ _ _ _ _ _ _ _ _
    refine sw ?_
    refine mw (vb (!(decide ((f.length:Int)=32)))) ?_
    exact f1
   ·intro _ b bF _
    rintro _ rfl _ rfl _ rfl _ rfl _ _ _ _ _ _ _ _ _ _
    refine sw ?_
    refine mv (vs s (Cr d a).length t) (wS (cA not i)) ?_
    exact f1
   ·intro _ b aC _
    rintro _ rfl _ rfl _ rfl _ rfl _ rfl _ _ _ _ _ _ _ _ _
    refine sw ?_
    have aD:=(gc S aC)
    refine ln (wS (cA not i)) tD (Rd.of_own aD) ?_
    exact f1
   ·intro _ b bG _
    rintro _ rfl _ rfl _ rfl _ rfl _ rfl _ rfl _ _ _ _ _ _ _ _
    refine sw ?_
    refine pu (vb (decide (((Cr d a).length:Int)=0))) (wS (cA not i)) ?_
    exact f1
   ·intro _ b bH _
    rintro _ rfl _ rfl _ rfl _ rfl _ rfl _ rfl _ rfl _ _ _ _ _ _ _
    refine sw ?_
    refine pf (vb (decide (((Cr d a).length:Int)=0))) wN (cA not i) ?_
    exact f1
   ·intro _ b bI _
    rintro _ rfl _ rfl _ rfl _ rfl _ rfl _ rfl _ rfl _ rfl _ _ _ _ _ _
    refine sw ?_
    refine mw (vb (decide (((Cr d a).length:Int)=0))) ?_
    exact f1
   ·intro _ b bJ _
    rintro _ rfl _ rfl _ rfl _ rfl _ rfl _ rfl _ rfl _ rfl _ rfl _ _ _ _ _
    refine sw ?_
    refine sk g ?_
    exact f1
   ·intro _ b bK _
    rintro _ rfl _ rfl _ rfl _ rfl _ rfl _ rfl _ rfl _ rfl _ rfl _ rfl _ _ _ _
    refine sw ?_
    refine sk g ?_
    exact f1
   ·intro _ b bL _
    rintro _ rfl _ rfl _ rfl _ rfl _ rfl _ rfl _ rfl _ rfl _ rfl _ _ _ _ _
    refine sw ?_
    refine sk g ?_
    exact f1
   ·intro _ b bM _
    rintro _ rfl _ rfl _ rfl _ rfl _ rfl _ rfl _ rfl _ rfl _ rfl _ _ _ _ _
    refine sw ?_
    refine sk g ?_
    exact f1
   ·intro _ b bN _
    rintro _ rfl _ rfl _ rfl _ rfl _ rfl _ rfl _ rfl _ rfl _ rfl _ _ _ rfl _ rfl _
    refine sw ?_
    refine sk g ?_
    exact f1
  ·intro _ b aE
   have aF:=u.extk aE
   rintro _ rfl _ rfl _ rfl _ rfl _ rfl _ rfl _ rfl _ rfl _ rfl _ rfl _ rfl _ rfl _ rfl _ rfl
   refine sw ?_
   iterate 2 refine sk g ?_
   refine pk (vb true) wN g ?_
   refine n2 ?_
   refine ct (Eq.refl true) ?_
   refine sr ?_
   refine aw (vs none 0 0) ?_
   refine aw (vb false) ?_
   refine n1 ?_
   refine GF (.inl rfl) (vs none 0 0) (vb false) rfl rfl rfl ?_
   refine ⟨aF.keep0,?_⟩
   simp only [DH,i,g,cond_true,cond_false]
   exact ⟨_,_,rfl,(by first|exact Dr _ _ _ _|exact OLv.nil _ _ _ _),(by simp),⟨trivial,trivial⟩⟩
 have bO:=dF g
 refine CU ([(12,[],[],(fun _ v _=>v=(vs l f.length m))),(13,[],[0],(fun _ v _=>v=(vi (f.length:Int)))),(14,[],[0,1],(fun _ v _=>v=(vb (!(decide ((f.length:Int)=32)))))),(15,[],[0,1,2],(fun _ v _=>v=(vb (!(decide ((f.length:Int)=32)))))),(16,[],[0,1,2,3],(fun _ v _=>v=(vs s (Cr d a).length t))),(17,[],[0,1,2,3,4],(fun _ v _=>v=(vi ((Cr d a).length:Int)))),(18,[],[0,1,2,3,4,5],(fun _ v _=>v=(vb (decide (((Cr d a).length:Int)=0))))),(19,[],[0,1,2,3,4,5,6],(fun _ v _=>v=(vb (decide (((Cr d a).length:Int)=0))))),(20,[],[0,1,2,3,4,5,6,7],(fun _ v _=>v=(vb (decide (((Cr d a).length:Int)=0))))),(21,[],[0,1,2,3,4,5,6,7,8],(fun _ v _=>v=(vp p 10))),(22,[],[0,1,2,3,4,5,6,7,8,9],(fun _ v _=>v=(vs H a.Tag.length I))),(23,[],[0,1,2,3,4,5,6,7,8],(fun _ v _=>v=(vs l f.length m))),(24,[],[0,1,2,3,4,5,6,7,8],(fun _ v _=>v=(vs s (Cr d a).length t))),(25,[],[0,1,2,3,4,5,6,7,8,11,12],(fun _ v w=>GE w K.heap.size v (Iv f (Cr d a))))]:GV) (fun _ o=>Keep K o) [] DN rfl (by kernel_rfl) (by kernel_rfl) ?_ (fun _ _ h=>h) (fun _ _ _ _ h _ k=>h.trans k) trivial ?_ ?_ ?_
 ·exact ⟨hV,hE,⟨hV,hE,⟨hV,hE,⟨hV,hE,⟨hV,hE,⟨hV,hE,⟨hV,hE,⟨hV,hE,⟨hV,hE,⟨hV,hE,⟨hV,hE,⟨hV,hE,⟨hV,hE,⟨(fun e v w R h hk=>by obtain ⟨T,V,he,W,X,hap⟩:=h;exact ⟨T,V,he,gc W hk,X,hap⟩),hE,trivial⟩⟩⟩⟩⟩⟩⟩⟩⟩⟩⟩⟩⟩⟩
 ·exact trivial
 ·refine ⟨?_,⟨?_,⟨?_,⟨?_,⟨?_,⟨?_,⟨?_,⟨?_,⟨?_,⟨?_,⟨?_,⟨?_,⟨?_,⟨?_,trivial⟩⟩⟩⟩⟩⟩⟩⟩⟩⟩⟩⟩⟩⟩
  ·intro _ b bP _
   rintro _ _ _ _ _ _ _ _ _ _ _ _ _ _
   refine sw ?_
   refine mw (vs l f.length m) ?_
   exact f1
  ·intro _ b aG _
   have aH:=u.extk aG
   rintro _ rfl _ _ _ _ _ _ _ _ _ _ _ _ _
   refine sw ?_
   refine ln wN tD (C.from0 aH) ?_
   exact f1
  ·intro _ b bQ _
   rintro _ rfl _ rfl _ _ _ _ _ _ _ _ _ _ _ _
   refine sw ?_
   refine pu (vb (!(decide ((f.length:Int)=32)))) wN ?_
   exact f1
  ·intro _ b bR _
   rintro _ rfl _ rfl _ rfl _ _ _ _ _ _ _ _ _ _ _
   refine sw ?_
   refine mw (vb (!(decide ((f.length:Int)=32)))) ?_
   exact f1
  ·intro _ b bS _
   rintro _ rfl _ rfl _ rfl _ rfl _ _ _ _ _ _ _ _ _ _
   refine sw ?_
   refine mv (vs s (Cr d a).length t) (wS (cA not i)) ?_
   exact f1
  ·intro _ b aI _
   rintro _ rfl _ rfl _ rfl _ rfl _ rfl _ _ _ _ _ _ _ _ _
   refine sw ?_
   have aJ:=(gc S aI)
   refine ln (wS (cA not i)) tD (Rd.of_own aJ) ?_
   exact f1
  ·intro _ b bT _
   rintro _ rfl _ rfl _ rfl _ rfl _ rfl _ rfl _ _ _ _ _ _ _ _
   refine sw ?_
   refine pu (vb (decide (((Cr d a).length:Int)=0))) (wS (cA not i)) ?_
   exact f1
  ·intro _ b bU _
   rintro _ rfl _ rfl _ rfl _ rfl _ rfl _ rfl _ rfl _ _ _ _ _ _ _
   refine sw ?_
   refine pf (vb (decide (((Cr d a).length:Int)=0))) wN (cA not i) ?_
   exact f1
  ·intro _ b bW _
   rintro _ rfl _ rfl _ rfl _ rfl _ rfl _ rfl _ rfl _ rfl _ _ _ _ _ _
   refine sw ?_
   refine mw (vb (decide (((Cr d a).length:Int)=0))) ?_
   exact f1
  ·intro _ b bX _
   rintro _ rfl _ rfl _ rfl _ rfl _ rfl _ rfl _ rfl _ rfl _ rfl _ _ _ _ _
   refine sw ?_
   refine pu (vp p 10) (wS g) ?_
   exact f1
  ·intro _ b aK _
   rintro _ rfl _ rfl _ rfl _ rfl _ rfl _ rfl _ rfl _ rfl _ rfl _ rfl _ _ _ _
   refine sw ?_
   have aL:=((y.kp r).kp aK)
   refine ld (vs H a.Tag.length I) (wS g) BT aL ?_
   exact f1
  ·intro _ b bY _
   rintro _ rfl _ rfl _ rfl _ rfl _ rfl _ rfl _ rfl _ rfl _ rfl _ _ _ _ _
   refine sw ?_
   refine mv (vs l f.length m) (wS g) ?_
   exact f1
  ·intro _ b bZ _
   rintro _ rfl _ rfl _ rfl _ rfl _ rfl _ rfl _ rfl _ rfl _ rfl _ _ _ _ _
   refine sw ?_
   refine mv (vs s (Cr d a).length t) (wS g) ?_
   exact f1
  ·intro _ b Y _
   have aM:=u.extk Y
   rintro _ rfl _ rfl _ rfl _ rfl _ rfl _ rfl _ rfl _ rfl _ rfl _ _ _ rfl _ rfl _
   refine sw ?_
   have aN:=(gc S Y)
   refine cl (wS g) (Sq b _ f (CC (C.from0 aM) ae) _ (Cr d a) (CC (Rd.of_own aN) a5)) ?_
   rintro _ Z ⟨aO,⟨ca,cb,rfl,aP,aQ,aR⟩⟩
   have cc:=HZ f (Cr d a)
   exact CN aO ⟨_,_,rfl,(tB aP Y.size),aQ,aR⟩
 ·intro _ b A
  have ao:=u.extk A
  rintro _ rfl _ rfl _ rfl _ rfl _ rfl _ rfl _ rfl _ rfl _ rfl _ rfl _ rfl _ rfl _ rfl _ ⟨cd,ce,rfl,aS,aT,cg⟩
  have ci:=HZ f (Cr d a)
  refine sw ?_
  refine cl (wS g) (Oe b _ a.Tag (CC (ak.from0 ao) am) _ (Iv f (Cr d a)) (CC (Rd.of_own aS) aT)) ?_
  rintro _ Z ⟨B,rfl⟩
  have aa:=ao.extk B
  refine pu (vb (!(Fv a.Tag (Iv f (Cr d a))))) (wS g) ?_
  refine pf (vb (!(Fv a.Tag (Iv f (Cr d a))))) wN g ?_
  refine n2 ?_
  rcases bf (Fv a.Tag (Iv f (Cr d a))) with J|J
  ·refine ct (cA not J) ?_
   refine sr ?_
   refine aw (vs none 0 0) ?_
   refine aw (vb false) ?_
   refine n1 ?_
   refine GF (.inl rfl) (vs none 0 0) (vb false) rfl rfl rfl ?_
   refine ⟨aa.keep0,?_⟩
   simp only [DH,i,g,J,cond_true,cond_false]
   exact ⟨_,_,rfl,(by first|exact Dr _ _ _ _|exact OLv.nil _ _ _ _),(by simp),⟨trivial,trivial⟩⟩
  refine cf (cA not J) ?_
  refine Ct<|re<|Cc ?_
  refine CU ([(29,[],[],(fun _ v _=>v=(vs l f.length m))),(30,[],[],(fun _ v _=>v=(vi d))),(31,[],[],(fun _ v _=>v=(vp p 3))),(32,[],[2],(fun _ v _=>v=(vs D a.Sn.length E))),(33,[],[],(fun _ v _=>v=(vp p 7))),(34,[],[4],(fun _ v _=>v=(vi a.Epoch))),(35,[],[],(fun _ v _=>v=(vp p 8))),(36,[],[6],(fun _ v _=>v=(vi a.Seq))),(37,[],[1,2,3,4,5,6,7],(fun _ v w=>GE w Z.heap.size v (CY d a.Sn a.Epoch a.Seq))),(38,[],[],(fun _ v _=>v=(vp p 9))),(39,[],[9],(fun _ v _=>v=(vs F a.Body.length G)))]:GV) (fun _ o=>Keep Z o) [] DN rfl (by kernel_rfl) (by kernel_rfl) ?_ (fun _ _ h=>h) (fun _ _ _ _ h _ k=>h.trans k) trivial ?_ ?_ ?_
  ·exact ⟨hV,hE,⟨hV,hE,⟨hV,hE,⟨hV,hE,⟨hV,hE,⟨hV,hE,⟨hV,hE,⟨hV,hE,⟨(fun e v w R h hk=>by obtain ⟨T,V,he,W,X,hap⟩:=h;exact ⟨T,V,he,gc W hk,X,hap⟩),hE,⟨hV,hE,⟨hV,hE,trivial⟩⟩⟩⟩⟩⟩⟩⟩⟩⟩⟩
  ·exact trivial
  ·refine ⟨?_,⟨?_,⟨?_,⟨?_,⟨?_,⟨?_,⟨?_,⟨?_,⟨?_,⟨?_,⟨?_,trivial⟩⟩⟩⟩⟩⟩⟩⟩⟩⟩⟩
   ·intro _ j cj _
    rintro _ _ _ _ _ _ _ _ _ _ _
    refine sw ?_
    refine mw (vs l f.length m) ?_
    exact f1
   ·intro _ j ck _
    rintro _ _ _ _ _ _ _ _ _ _ _
    refine sw ?_
    refine mw (vi d) ?_
    exact f1
   ·intro _ j cm _
    rintro _ _ _ _ _ _ _ _ _ _ _
    refine sw ?_
    refine pu (vp p 3) wN ?_
    exact f1
   ·intro _ j aU _
    rintro _ _ _ rfl _ _ _ _ _ _ _ _
    refine sw ?_
    have aV:=((((y.kp r).kp A).kp B).kp aU)
    refine ld (vs D a.Sn.length E) wN BT aV ?_
    exact f1
   ·intro _ j cn _
    rintro _ _ _ _ _ _ _ _ _ _ _
    refine sw ?_
    refine pu (vp p 7) wN ?_
    exact f1
   ·intro _ j aW _
    rintro _ _ _ _ _ rfl _ _ _ _ _ _
    refine sw ?_
    have aX:=((((y.kp r).kp A).kp B).kp aW)
    refine ld (vi a.Epoch) wN tE aX ?_
    exact f1
   ·intro _ j co _
    rintro _ _ _ _ _ _ _ _ _ _ _
    refine sw ?_
    refine pu (vp p 8) wN ?_
    exact f1
   ·intro _ j aY _
    rintro _ _ _ _ _ _ _ rfl _ _ _ _
    refine sw ?_
    have aZ:=((((y.kp r).kp A).kp B).kp aY)
    refine ld (vi a.Seq) wN tE aZ ?_
    exact f1
   ·intro _ j ap _
    have ba:=aa.extk ap
    rintro _ _ rfl _ rfl _ rfl _ rfl _ rfl _ rfl _ rfl _ _ _
    refine sw ?_
    refine cl wN (Mm j d _ a.Sn (CC (af.from0 ba) ah) a.Epoch a.Seq) ?_
    rintro _ bb ⟨bc,⟨cp,cq,rfl,bd,be,bg⟩⟩
    have cr:=Fl d a.Sn a.Epoch a.Seq
    exact CN bc ⟨_,_,rfl,(tB bd ap.size),be,bg⟩
   ·intro _ j cs _
    rintro _ _ _ _ _ _ _ _ _ _ _
    refine sw ?_
    refine pu (vp p 9) wN ?_
    exact f1
   ·intro _ j bh _
    rintro _ _ _ _ _ _ _ _ _ _ rfl _
    refine sw ?_
    have bi:=((((y.kp r).kp A).kp B).kp bh)
    refine ld (vs F a.Body.length G) wN BT bi ?_
    exact f1
  ·intro _ j aq
   have ab:=aa.extk aq
   rintro _ rfl _ rfl _ rfl _ rfl _ rfl _ rfl _ rfl _ rfl _ ⟨cu,cv,rfl,bj,bk,cw⟩
   have cx:=Fl d a.Sn a.Epoch a.Seq
   rintro _ rfl _ rfl
   refine sw ?_
   refine cl wN (Ss j _ f (CC (C.from0 ab) ae) _ (CY d a.Sn a.Epoch a.Seq) (CC (Rd.of_own bj) bk) _ a.Body (CC (ai.from0 ab) aj)) ?_
   rintro _ bb ⟨bl,⟨au,av,rfl,bm,bn,cy⟩⟩
   have bo:=ab.extk bl
   have cz:=LV f (CY d a.Sn a.Epoch a.Seq) a.Body
   refine aw (vs au (HX f (CY d a.Sn a.Epoch a.Seq) a.Body).length av) ?_
   refine aw (vb true) ?_
   refine n3 ?_
   refine GF (.inl rfl) (vs au (HX f (CY d a.Sn a.Epoch a.Seq) a.Body).length av) (vb true) rfl rfl rfl ?_
   refine ⟨bo.keep0,?_⟩
   simp only [DH,i,g,J,cond_true,cond_false]
   exact ⟨_,_,rfl,(tB bm (z5 an r A B aq)),bn,⟨trivial,trivial⟩⟩

def rl (a:PEp) (d:Int) (b:PFrame):(PEp)×(List UInt8)×(Int):=bif (EN a) then (bif (decide (((Cr d b).length:Int)=0)) then (((a),[],1)) else (bif (decide (b.Epoch=a.N)) then (bif ((Hf a.Win b.Seq).2) then (bif ((DH a.Key d b).2) then (({N:=(a).N,Key:=(a).Key,Seq:=(a).Seq,Win:=((Hf a.Win b.Seq).1):PEp},(DH a.Key d b).1,0)) else (((a),[],2))) else (((a),[],3))) else (((a),[],1)))) else (((a),[],1))
theorem Kk (Q:World) (aG:Value) (a:PEp) (bm:Lf Q aG a) (g:Int) (aH:Value) (b:PFrame) (bn:JC Q aH b) :Fn Tryz.prog 47 #[aG,(vi g),aH] Q (fun v aI=>Keep Q aI∧Ld aI Q.heap.size v (rl a g b)):=by
 obtain ⟨X,Y,Z,aa,rfl,a5,a6,a7,a8⟩:=bm
 obtain ⟨af,ah,ai,aj,ak,am,an,ao,ap,aq,au,av,rfl,aJ,aK,aL,aM,aN,aO,aP,aQ,aR,aS,aT,aU⟩:=bn
 refine Cl (n:=59) [(va (Dd a X Y Z aa)),(vi g),(va (EB b af ah ai aj ak am an ao ap aq au av))] Tryz.func47 rfl rfl ?_
 refine sr ?_
 refine bx (Dd a X Y Z aa) wN ?_
 intro ax cg ci aV t bo
 refine bx (EB b af ah ai aj ak am an ao ap aq au av) wN ?_
 intro a9 cj ck aW l bp
 refine al HC wN Ev ?_
 intro bq J ay y m az
 have aA:=(((Ch.base Q).extk t).extk l).extk m
 refine aw (vs none 0 0) ?_
 refine aw (vi 0) ?_
 refine nx ?_
 have aX:=((bo.kp l).kp m)
 refine lN (Dd a X Y Z aa) wN Cs BW aX ?_
 refine cl wN (Ki J _ a (Fh (a5.from0 aA) a6 (a7.from0 aA) a8)) ?_
 rintro _ O ⟨i,⟨p,q,B,C,rfl,I,a0,R,aB,aC⟩⟩
 refine al HC wN Ev ?_
 intro aY cm A ab j br
 refine sv (Dd (a) p q B C) wN BW br ?_
 intro bu f a1 cn
 have a2:=((aA.extk i).extk j).ext f (fun k hk=>by subst hk;exact nT (z4 t l m i) A)
 refine n4 ?_
 refine jT1 [(1,(vi g)),(3,(vp ax 0)),(5,(vp a9 0)),(6,(vp bq 0)),(7,(vs none 0 0)),(8,(vi 0)),(9,(vp aY 0))] (rl a g b=((a),[],1)) ?_ fun aD=>?_
 ·intro bv aZ a3 co
  refine sr ?_
  have bw:=(a1.kp a3)
  refine lN (Dd (a) p q B C) wN Cs BW bw ?_
  have bz:=((((az.kp i).kp j).ch f (nN (nL y (nT i.size A)))).kp a3)
  refine sv (Dd (a) p q B C) wN BW bz ?_
  intro ba bb b0 cp
  have b1:=(a2.extk a3).ext bb (fun k hk=>by subst hk;exact nT (z2 t l) ay)
  refine aw (vs none 0 0) ?_
  refine aw (vi 1) ?_
  refine n1 ?_
  have bc:=fun (E sz n:Nat) (v:Value) (F:List Value) (o:World.ownsRow O J.heap.size E sz v n F) (x:World.ownsRow O J.heap.size E sz v n F)=>(tC (gc (tC (gc o j) f (ne2 x (A))) a3) bb (ne1 x (y)))
  have b2:=(bc _ _ _ _ _ I I)
  have b3:=(bc _ _ _ _ _ R R)
  refine ED (.inl rfl) (va (Dd (a) p q B C)) (vs none 0 0) (vi 1) rfl (Fe (Dd (a) p q B C) rfl b0 Cs BW) rfl rfl ?_
  refine ⟨b1.keep0,?_⟩
  rw [bv]
  exact ⟨_,_,_,_,_,_,rfl,(tB b2 (z3 t l m)),a0,(tB b3 (z3 t l m)),aB,(by first|exact Dr _ _ _ _|exact OLv.nil _ _ _ _),(by simp),⟨⟨(aC.1.1),⟨(Ap.nr _),trivial⟩⟩,⟨⟨(Ap.nr _),trivial⟩,⟨trivial,trivial⟩⟩⟩⟩
 have bd:=(((aX.kp i).kp j).ch f (nN (nL aV (nT (z3 l m i) A))))
 refine lN (Dd a X Y Z aa) wN Cs BW bd ?_
 refine cl wN (Oi bu _ a (Fh (a5.from0 a2) a6 (a7.from0 a2) a8)) ?_
 rintro _ aZ ⟨d,rfl⟩
 have P:=a2.extk d
 refine pu (vb (!(EN a))) wN ?_
 refine mw (vb (!(EN a))) ?_
 rcases bf (EN a) with u|u
 ·iterate 5 refine sk (cA not u) ?_
  refine pk (vb true) wN (cA not u) ?_
  refine mw (vb true) ?_
  iterate 5 refine sk (Eq.refl true) ?_
  refine pk (vb true) wN (Eq.refl true) ?_
  refine n2 ?_
  refine ct (Eq.refl true) ?_
  have b4:rl a g b=((a),[],1):=by simp only [rl,u,cond_true,cond_false]
  exact wj (aD b4 _ d)
 have cq:=Gw u
 refine mv (vi g) (wS (cA not u)) ?_
 have be:=(((((bp.kp m).kp i).kp j).ch f (nN (nL aW (nT (z2 m i) A)))).kp d)
 refine lN (EB b af ah ai aj ak am an ao ap aq au av) (wS (cA not u)) Dn CV be ?_
 refine cl (wS (cA not u)) (Jz aZ g _ b (FC (aJ.from0 P) aK (aL.from0 P) aM (aN.from0 P) aO (aP.from0 P) aQ (aR.from0 P) aS (aT.from0 P) aU)) ?_
 rintro _ ba ⟨e,⟨cr,cs,rfl,b5,_⟩⟩
 have bg:=P.extk e
 refine ln (wS (cA not u)) tD (Rd.of_own b5) ?_
 refine pu (vb (decide (((Cr g b).length:Int)=0))) (wS (cA not u)) ?_
 refine pf (vb (decide (((Cr g b).length:Int)=0))) wN (cA not u) ?_
 refine mw (vb (decide (((Cr g b).length:Int)=0))) ?_
 rcases bt (decide (((Cr g b).length:Int)=0)) with w|w
 ·have cu:=dT w
  iterate 5 refine sk w ?_
  refine pk (vb true) wN w ?_
  refine n2 ?_
  refine ct (Eq.refl true) ?_
  have b6:rl a g b=((a),[],1):=by simp only [rl,u,w,cond_true,cond_false]
  exact wj (aD b6 _ (d.trans e))
 have cv:=dF w
 refine pu (vp a9 7) (wS w) ?_
 have aE:=(be.kp e)
 refine ld (vi b.Epoch) (wS w) tE aE ?_
 refine pu (vp ax 0) (wS w) ?_
 have aF:=((bd.kp d).kp e)
 refine ld (vi a.N) (wS w) tE aF ?_
 refine pu (vb (!(decide (b.Epoch=a.N)))) (wS w) ?_
 refine pf (vb (!(decide (b.Epoch=a.N)))) wN w ?_
 refine n2 ?_
 rcases bf (decide (b.Epoch=a.N)) with K|K
 ·have cw:=dF K
  refine ct (cA not K) ?_
  have b7:rl a g b=((a),[],1):=by simp only [rl,u,w,K,cond_true,cond_false]
  exact wj (aD b7 _ (d.trans e))
 have cx:=dT K
 refine cf (cA not K) ?_
 refine y1 ?_
 refine pu (vp ax 3) wN ?_
 refine lN (DW a.Win Z aa) wN CM Cj aF ?_
 refine pu (vp a9 8) wN ?_
 refine ld (vi b.Seq) wN tE aE ?_
 refine cl wN (Pv ba _ a.Win (FX (a7.from0 bg) a8) b.Seq) ?_
 rintro _ cy ⟨h,⟨G,H,rfl,S,b8,cz⟩⟩
 refine mw (.tuple #[(va (DW ((Hf a.Win b.Seq).1) G H)),(vb ((Hf a.Win b.Seq).2))]) ?_
 refine pu (va (DW ((Hf a.Win b.Seq).1) G H)) wN ?_
 refine pu (vb ((Hf a.Win b.Seq).2)) wN ?_
 refine al [(vi 0),(vs none 0 0)] wN FA ?_
 intro c0 c1 D c2 r b9
 refine sv (DW ((Hf a.Win b.Seq).1) G H) wN Cj b9 ?_
 intro bA s bB c3
 have L:=((bg.extk h).extk r).ext s (fun k hk=>by subst hk;exact nT (z9 t l m i j f d e h) D)
 refine aw (vb ((Hf a.Win b.Seq).2)) ?_
 refine n4 ?_
 refine mw (vb ((Hf a.Win b.Seq).2)) ?_
 refine pu (vb (!((Hf a.Win b.Seq).2))) wN ?_
 refine n2 ?_
 rcases bf ((Hf a.Win b.Seq).2) with T|T
 ·refine ct (cA not T) ?_
  refine sr ?_
  have bC:=(((((a1.kp d).kp e).kp h).kp r).ch s (nN (nL ab (nT (z4 f d e h) D))))
  refine lN (Dd (a) p q B C) wN Cs BW bC ?_
  have bD:=((((((((az.kp i).kp j).ch f (nN (nL y (nT i.size A)))).kp d).kp e).kp h).kp r).ch s (nN (nL y (nT (z6 i j f d e h) D))))
  refine sv (Dd (a) p q B C) wN BW bD ?_
  intro bE bh bF c4
  have bG:=L.ext bh (fun k hk=>by subst hk;exact nT (z2 t l) ay)
  refine aw (vs none 0 0) ?_
  refine aw (vi 3) ?_
  refine n1 ?_
  have bi:=fun (E sz n:Nat) (v:Value) (F:List Value) (o:World.ownsRow O J.heap.size E sz v n F) (x:World.ownsRow O J.heap.size E sz v n F)=>(tC (tC (gc (gc (gc (gc (tC (gc o j) f (ne2 x (A))) d) e) h) r) s (ne2 x (nT (z5 j f d e h) D))) bh (ne1 x (y)))
  have bH:=(bi _ _ _ _ _ I I)
  have bI:=(bi _ _ _ _ _ R R)
  refine ED (.inl rfl) (va (Dd (a) p q B C)) (vs none 0 0) (vi 3) rfl (Fe (Dd (a) p q B C) rfl bF Cs BW) rfl rfl ?_
  refine ⟨bG.keep0,?_⟩
  simp only [rl,u,w,K,T,cond_true,cond_false]
  exact ⟨_,_,_,_,_,_,rfl,(tB bH (z3 t l m)),a0,(tB bI (z3 t l m)),aB,(by first|exact Dr _ _ _ _|exact OLv.nil _ _ _ _),(by simp),⟨⟨(aC.1.1),⟨(Ap.nr _),trivial⟩⟩,⟨⟨(Ap.nr _),trivial⟩,⟨trivial,trivial⟩⟩⟩⟩
 refine cf (cA not T) ?_
 refine y1 ?_
 refine pu (vp ax 1) wN ?_
 have bJ:=(((aF.kp h).kp r).ch s (nN (nL aV (nT (z8 l m i j f d e h) D))))
 refine ld (vs X a.Key.length Y) wN BT bJ ?_
 refine mw (vi g) ?_
 have bK:=(((aE.kp h).kp r).ch s (nN (nL aW (nT (z7 m i j f d e h) D))))
 refine lN (EB b af ah ai aj ak am an ao ap aq au av) wN Dn CV bK ?_
 refine cl wN (Pw bA _ a.Key (CC (a5.from0 L) a6) g _ b (FC (aJ.from0 L) aK (aL.from0 L) aM (aN.from0 L) aO (aP.from0 L) aQ (aR.from0 L) aS (aT.from0 L) aU)) ?_
 rintro _ bE ⟨M,⟨V,W,rfl,ac,bL,c5⟩⟩
 have bj:=L.extk M
 refine mw (.tuple #[(vs V ((DH a.Key g b).1).length W),(vb ((DH a.Key g b).2))]) ?_
 refine pu (vs V ((DH a.Key g b).1).length W) wN ?_
 refine pu (vb ((DH a.Key g b).2)) wN ?_
 refine aw (vs V ((DH a.Key g b).1).length W) ?_
 refine aw (vb ((DH a.Key g b).2)) ?_
 refine n4 ?_
 refine mw (vb ((DH a.Key g b).2)) ?_
 refine pu (vb (!((DH a.Key g b).2))) wN ?_
 refine n2 ?_
 rcases bf ((DH a.Key g b).2) with ad|ad
 ·refine ct (cA not ad) ?_
  refine sr ?_
  have bM:=((((((a1.kp d).kp e).kp h).kp r).ch s (nN (nL ab (nT (z4 f d e h) D)))).kp M)
  refine lN (Dd (a) p q B C) wN Cs BW bM ?_
  have bN:=(((((((((az.kp i).kp j).ch f (nN (nL y (nT i.size A)))).kp d).kp e).kp h).kp r).ch s (nN (nL y (nT (z6 i j f d e h) D)))).kp M)
  refine sv (Dd (a) p q B C) wN BW bN ?_
  intro bO bk bP c6
  have bQ:=bj.ext bk (fun k hk=>by subst hk;exact nT (z2 t l) ay)
  refine aw (vs none 0 0) ?_
  refine aw (vi 2) ?_
  refine n1 ?_
  have bl:=fun (E sz n:Nat) (v:Value) (F:List Value) (o:World.ownsRow O J.heap.size E sz v n F) (x:World.ownsRow O J.heap.size E sz v n F)=>(tC (gc (tC (gc (gc (gc (gc (tC (gc o j) f (ne2 x (A))) d) e) h) r) s (ne2 x (nT (z5 j f d e h) D))) M) bk (ne1 x (y)))
  have bR:=(bl _ _ _ _ _ I I)
  have bS:=(bl _ _ _ _ _ R R)
  refine ED (.inl rfl) (va (Dd (a) p q B C)) (vs none 0 0) (vi 2) rfl (Fe (Dd (a) p q B C) rfl bP Cs BW) rfl rfl ?_
  refine ⟨bQ.keep0,?_⟩
  simp only [rl,u,w,K,T,ad,cond_true,cond_false]
  exact ⟨_,_,_,_,_,_,rfl,(tB bR (z3 t l m)),a0,(tB bS (z3 t l m)),aB,(by first|exact Dr _ _ _ _|exact OLv.nil _ _ _ _),(by simp),⟨⟨(aC.1.1),⟨(Ap.nr _),trivial⟩⟩,⟨⟨(Ap.nr _),trivial⟩,⟨trivial,trivial⟩⟩⟩⟩
 refine cf (cA not ad) ?_
 refine y1 ?_
 have bT:=(bB.kp M)
 refine lN (DW ((Hf a.Win b.Seq).1) G H) wN CM Cj bT ?_
 refine pu (vp aY 3) wN ?_
 have bU:=((((((a1.kp d).kp e).kp h).kp r).ch s (nN (nL ab (nT (z4 f d e h) D)))).kp M)
 refine st (va (DW ((Hf a.Win b.Seq).1) G H)) (DW ((Hf a.Win b.Seq).1) G H) [(vi ((a).N)),(vs p ((a).Key).length q),(vi ((a).Seq)),(vi (((Hf a.Win b.Seq).1).Top)),(vs G (((Hf a.Win b.Seq).1).Bits).length H)] wN Cj bU ?_
 intro bO ae bW c7
 have bX:=bj.ext ae (fun k hk=>by subst hk;exact nT (z4 t l m i) A)
 refine nx ?_
 refine lN [(vi ((a).N)),(vs p ((a).Key).length q),(vi ((a).Seq)),(vi (((Hf a.Win b.Seq).1).Top)),(vs G (((Hf a.Win b.Seq).1).Bits).length H)] wN Cs BW bW ?_
 refine mw (vs V ((DH a.Key g b).1).length W) ?_
 have bY:=((((((((((az.kp i).kp j).ch f (nN (nL y (nT i.size A)))).kp d).kp e).kp h).kp r).ch s (nN (nL y (nT (z6 i j f d e h) D)))).kp M).ch ae (nN (nL y (nT i.size A))))
 refine sv [(vi ((a).N)),(vs p ((a).Key).length q),(vi ((a).Seq)),(vi (((Hf a.Win b.Seq).1).Top)),(vs G (((Hf a.Win b.Seq).1).Bits).length H)] wN BW bY ?_
 intro c8 a4 bZ c9
 have ca:=bX.ext a4 (fun k hk=>by subst hk;exact nT (z2 t l) ay)
 refine aw (vs V ((DH a.Key g b).1).length W) ?_
 refine aw (vi 0) ?_
 refine n3 ?_
 have cb:=fun (E sz n:Nat) (v:Value) (F:List Value) (o:World.ownsRow O J.heap.size E sz v n F) (x:World.ownsRow O J.heap.size E sz v n F)=>(tC (tC (gc (tC (gc (gc (gc (gc (tC (gc o j) f (ne2 x (A))) d) e) h) r) s (ne2 x (nT (z5 j f d e h) D))) M) ae (ne2 x (A))) a4 (ne1 x (y)))
 have cc:=(cb _ _ _ _ _ I I)
 have cd:=(tC (tC (gc (tC (gc S r) s (ne2 S (D))) M) ae (ne1 S (nL ab (z3 f d e)))) a4 (ne1 S (nL y (z5 i j f d e))))
 have ce:=(tC (tC ac ae (ne1 ac (nL ab (z6 f d e h r s)))) a4 (ne1 ac (nL y (z8 i j f d e h r s))))
 refine ED (.inl rfl) (va [(vi ((a).N)),(vs p ((a).Key).length q),(vi ((a).Seq)),(vi (((Hf a.Win b.Seq).1).Top)),(vs G (((Hf a.Win b.Seq).1).Bits).length H)]) (vs V ((DH a.Key g b).1).length W) (vi 0) rfl (Fe [(vi ((a).N)),(vs p ((a).Key).length q),(vi ((a).Seq)),(vi (((Hf a.Win b.Seq).1).Top)),(vs G (((Hf a.Win b.Seq).1).Bits).length H)] rfl bZ Cs BW) rfl rfl ?_
 refine ⟨ca.keep0,?_⟩
 simp only [rl,u,w,K,T,ad,cond_true,cond_false]
 exact ⟨_,_,_,_,_,_,rfl,(tB cc (z3 t l m)),a0,(tB cd (z8 t l m i j f d e)),b8,(tB ce (z11 t l m i j f d e h r s)),bL,⟨⟨(Ap.lt I S (z4 j f d e)),⟨(Ap.lt I ac (z7 j f d e h r s)),trivial⟩⟩,⟨⟨(Ap.lt S ac (z2 r s)),trivial⟩,⟨trivial,trivial⟩⟩⟩⟩
end Go.Proofs.YtacoceibbheccaaGreat.K
