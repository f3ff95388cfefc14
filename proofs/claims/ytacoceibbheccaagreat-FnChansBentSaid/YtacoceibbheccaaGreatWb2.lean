import Derived.Test.YtacoceibbheccaaGreatWb1
namespace Go.Proofs.YtacoceibbheccaaGreat.K
open Go.RowKit
set_option linter.unusedVariables false
set_option linter.unusedSimpArgs false
set_option maxRecDepth 100000
set_option maxHeartbeats 4000000
theorem xE (G:World) (a0:Value) (j:List Int) (aN:xQ G a0 j) (a1:Value) (p:List UInt8) (aO:pI G a1 p) :Fn Tryz.prog 166 #[a0,a1] G (fun v L=>Keep G L∧AP L G.heap.size v (oK j p)):=by
 obtain ⟨B,C,rfl,F,ap⟩:=aN
 obtain ⟨ah,ai,rfl,a2,aP⟩:=aO
 refine nu (n:=156) [(vs B j.length C),(vs ah p.length ai)] Tryz.func166 rfl rfl ?_
 refine sr<|aw (vs none 0 0) ?_
 refine nx<|nF wN rfl rfl nf (fun w=>by kernel_rfl) ?_
 intro cj ck a3 aQ
 have a4:=(Ch.base G).extk a3
 refine mw (vs B j.length C) ?_
 refine Bz j wN nf aQ (F.from0 a4) a3.size ?_
 intro H I a5 aR X cm
 have aq:=a4.extk aR
 refine aw (vs H j.length I) ?_
 refine n4<|jT1 [(0,(vs B j.length C)),(1,(vs ah p.length ai)),(4,(vs none 0 0)),(5,(vs H j.length I))] (oK j p=j) ?_ fun a6=>?_
 ·intro aS a7 a8 cn
  have aT:=aq.extk a8
  refine sr<|mw (vs H j.length I) ?_
  refine aw (vs H j.length I) ?_
  refine n1 ?_
  have aU:=(mz X a8)
  refine rt (vs H j.length I) ?_
  refine ⟨aT.keep0,?_⟩
  rw [aS]
  exact ⟨_,_,rfl,aU,ap,⟨trivial,trivial⟩⟩
 refine mw (vs B j.length C) ?_
 refine cl wN (yI a5 _ j (rX (F.from0 aq) ap)) ?_
 rintro _ a7 ⟨Y,rfl⟩
 have a9:=aq.extk Y
 refine pu (vb (!(ws8 j))) wN ?_
 refine mw (vb (!(ws8 j))) ?_
 rcases bf (ws8 j) with N|N
 ·iterate 3 refine sk (cA not N) ?_
  refine pk vT wN (cA not N) ?_
  refine n2<|ct T1 ?_
  have aV:oK j p=j:=by first|exact qO (by first|assumption|exact ‹ws8 j=false›)|exact qN (by omega)|exact qM (by first|assumption|exact ‹ws8 j=true›) (by omega) (by omega)
  exact wj (a6 aV _ Y)
 have co:=CL N
 refine mv (vs ah p.length ai) (wS (cA not N)) ?_
 refine ln (wS (cA not N)) mR (a2.from0 a9) ?_
 refine pu (vb (!(decide ((p.length:Int)=64)))) (wS (cA not N)) ?_
 refine pf (vb (!(decide ((p.length:Int)=64)))) wN (cA not N) ?_
 refine n2 ?_
 rcases bf (decide ((p.length:Int)=64)) with aa|aa
 ·have cp:=dF aa
  refine ct (cA not aa) ?_
  have aW:oK j p=j:=by first|exact qO (by first|assumption|exact ‹ws8 j=false›)|exact qN (by omega)|exact qM (by first|assumption|exact ‹ws8 j=true›) (by omega) (by omega)
  exact wj (a6 aW _ Y)
 have cq:=dT aa
 refine cf (cA not aa)<|y1<|cl wN (CU a7 ) ?_
 rintro _ au ⟨aj,⟨R,S,rfl,ak,_⟩⟩
 have aA:=a9.extk aj
 refine aw (vs R (kw).length S) ?_
 refine nx<|mw (vs ah p.length ai) ?_
 refine cl wN (xD au _ p (nH (a2.from0 aA) aP)) ?_
 rintro _ aB ⟨O,⟨T,V,rfl,am,_⟩⟩
 have J:=aA.extk O
 have cr:=uj p
 refine aw (vs T (schedP p).length V) ?_
 refine mW<|mP<|nh<|qB ([(36,[],[],(fun _ v _=>v=(vs B j.length C))),(37,[],[0],(fun _ v _=>v=(ve (vs B j.length C) ((0:Int).toNat*1)))),(38,[],[0,1],(fun _ v _=>v=(vi (j.getD 0 0)))),(39,[],[],(fun _ v _=>v=(vs B j.length C))),(40,[],[3],(fun _ v _=>v=(ve (vs B j.length C) ((1:Int).toNat*1)))),(41,[],[3,4],(fun _ v _=>v=(vi (j.getD 1 0)))),(42,[],[],(fun _ v _=>v=(vs B j.length C))),(43,[],[6],(fun _ v _=>v=(ve (vs B j.length C) ((2:Int).toNat*1)))),(44,[],[6,7],(fun _ v _=>v=(vi (j.getD 2 0)))),(45,[],[],(fun _ v _=>v=(vs B j.length C))),(46,[],[9],(fun _ v _=>v=(ve (vs B j.length C) ((3:Int).toNat*1)))),(47,[],[9,10],(fun _ v _=>v=(vi (j.getD 3 0)))),(48,[],[],(fun _ v _=>v=(vs B j.length C))),(49,[],[12],(fun _ v _=>v=(ve (vs B j.length C) ((4:Int).toNat*1)))),(50,[],[12,13],(fun _ v _=>v=(vi (j.getD 4 0)))),(51,[],[],(fun _ v _=>v=(vs B j.length C))),(52,[],[15],(fun _ v _=>v=(ve (vs B j.length C) ((5:Int).toNat*1)))),(53,[],[15,16],(fun _ v _=>v=(vi (j.getD 5 0)))),(54,[],[],(fun _ v _=>v=(vs B j.length C))),(55,[],[18],(fun _ v _=>v=(ve (vs B j.length C) ((6:Int).toNat*1)))),(56,[],[18,19],(fun _ v _=>v=(vi (j.getD 6 0)))),(57,[],[],(fun _ v _=>v=(vs B j.length C))),(58,[],[21],(fun _ v _=>v=(ve (vs B j.length C) ((7:Int).toNat*1)))),(59,[],[21,22],(fun _ v _=>v=(vi (j.getD 7 0)))),(8,[],[0,1,2],(fun _ v _=>v=(vi (j.getD 0 0)))),(9,[],[0,1,2,3,4,5,24],(fun _ v _=>v=(vi (j.getD 1 0)))),(10,[],[0,1,2,3,4,5,6,7,8,24,25],(fun _ v _=>v=(vi (j.getD 2 0)))),(11,[],[0,1,2,3,4,5,6,7,8,9,10,11,24,25,26],(fun _ v _=>v=(vi (j.getD 3 0)))),(12,[],[0,1,2,3,4,5,6,7,8,9,10,11,12,13,14,24,25,26,27],(fun _ v _=>v=(vi (j.getD 4 0)))),(13,[],[0,1,2,3,4,5,6,7,8,9,10,11,12,13,14,15,16,17,24,25,26,27,28],(fun _ v _=>v=(vi (j.getD 5 0)))),(14,[],[0,1,2,3,4,5,6,7,8,9,10,11,12,13,14,15,16,17,18,19,20,24,25,26,27,28,29],(fun _ v _=>v=(vi (j.getD 6 0))))]:GV) oM rfl (by kernel_rfl) (by kernel_rfl) ?_ ?_ ?_
 ·exact ⟨hV,hE,⟨hV,hE,⟨hV,hE,⟨hV,hE,⟨hV,hE,⟨hV,hE,⟨hV,hE,⟨hV,hE,⟨hV,hE,⟨hV,hE,⟨hV,hE,⟨hV,hE,⟨hV,hE,⟨hV,hE,⟨hV,hE,⟨hV,hE,⟨hV,hE,⟨hV,hE,⟨hV,hE,⟨hV,hE,⟨hV,hE,⟨hV,hE,⟨hV,hE,⟨hV,hE,⟨hV,hE,⟨hV,hE,⟨hV,hE,⟨hV,hE,⟨hV,hE,⟨hV,hE,⟨hV,hE,trivial⟩⟩⟩⟩⟩⟩⟩⟩⟩⟩⟩⟩⟩⟩⟩⟩⟩⟩⟩⟩⟩⟩⟩⟩⟩⟩⟩⟩⟩⟩⟩
 ·refine ⟨?_,⟨?_,⟨?_,⟨?_,⟨?_,⟨?_,⟨?_,⟨?_,⟨?_,⟨?_,⟨?_,⟨?_,⟨?_,⟨?_,⟨?_,⟨?_,⟨?_,⟨?_,⟨?_,⟨?_,⟨?_,⟨?_,⟨?_,⟨?_,⟨?_,⟨?_,⟨?_,⟨?_,⟨?_,⟨?_,⟨?_,trivial⟩⟩⟩⟩⟩⟩⟩⟩⟩⟩⟩⟩⟩⟩⟩⟩⟩⟩⟩⟩⟩⟩⟩⟩⟩⟩⟩⟩⟩⟩⟩
  ·intro A cs
   iterate 31 intro _
   refine sw<|mw (vs B j.length C) ?_
   exact f2
  ·intro A aX
   have aY:=J.extk aX
   rintro _ rfl;iterate 30 intro _
   refine sw<|ix wN 0 nf (F.from0 aY) ?_
   exact f2
  ·intro A aZ
   have ba:=J.extk aZ
   rintro _ rfl _ rfl;iterate 29 intro _
   refine sw<|ei (x:=j) 0 wN mT (F.from0 ba) ?_
   exact f2
  ·intro A cu
   iterate 31 intro _
   refine sw<|mw (vs B j.length C) ?_
   exact f2
  ·intro A bb
   have bc:=J.extk bb
   rintro _ _ _ _ rfl;iterate 27 intro _
   refine sw<|ix wN 1 nf (F.from0 bc) ?_
   exact f2
  ·intro A bd
   have be:=J.extk bd
   rintro _ _ _ _ rfl _ rfl;iterate 26 intro _
   refine sw<|ei (x:=j) 1 wN mT (F.from0 be) ?_
   exact f2
  ·intro A cv
   iterate 31 intro _
   refine sw<|mw (vs B j.length C) ?_
   exact f2
  ·intro A bg
   have bh:=J.extk bg
   rintro _ _ _ _ _ _ _ rfl;iterate 24 intro _
   refine sw<|ix wN 2 nf (F.from0 bh) ?_
   exact f2
  ·intro A bi
   have bj:=J.extk bi
   rintro _ _ _ _ _ _ _ rfl _ rfl;iterate 23 intro _
   refine sw<|ei (x:=j) 2 wN mT (F.from0 bj) ?_
   exact f2
  ·intro A cw
   iterate 31 intro _
   refine sw<|mw (vs B j.length C) ?_
   exact f2
  ·intro A bk
   have bl:=J.extk bk
   rintro _ _ _ _ _ _ _ _ _ _ rfl;iterate 21 intro _
   refine sw<|ix wN 3 nf (F.from0 bl) ?_
   exact f2
  ·intro A bm
   have bn:=J.extk bm
   rintro _ _ _ _ _ _ _ _ _ _ rfl _ rfl;iterate 20 intro _
   refine sw<|ei (x:=j) 3 wN mT (F.from0 bn) ?_
   exact f2
  ·intro A cy
   iterate 31 intro _
   refine sw<|mw (vs B j.length C) ?_
   exact f2
  ·intro A bo
   have bp:=J.extk bo
   (iterate 13 intro _);rintro rfl;iterate 18 intro _
   refine sw<|ix wN 4 nf (F.from0 bp) ?_
   exact f2
  ·intro A bq
   have br:=J.extk bq
   (iterate 13 intro _);rintro rfl _ rfl;iterate 17 intro _
   refine sw<|ei (x:=j) 4 wN mT (F.from0 br) ?_
   exact f2
  ·intro A cz
   iterate 31 intro _
   refine sw<|mw (vs B j.length C) ?_
   exact f2
  ·intro A bu
   have bv:=J.extk bu
   (iterate 16 intro _);rintro rfl;iterate 15 intro _
   refine sw<|ix wN 5 nf (F.from0 bv) ?_
   exact f2
  ·intro A bw
   have bz:=J.extk bw
   (iterate 16 intro _);rintro rfl _ rfl;iterate 14 intro _
   refine sw<|ei (x:=j) 5 wN mT (F.from0 bz) ?_
   exact f2
  ·intro A c0
   iterate 31 intro _
   refine sw<|mw (vs B j.length C) ?_
   exact f2
  ·intro A b0
   have b1:=J.extk b0
   (iterate 19 intro _);rintro rfl _ _ _ _ _ _ _ _ _ _ _ _
   refine sw<|ix wN 6 nf (F.from0 b1) ?_
   exact f2
  ·intro A b2
   have b3:=J.extk b2
   (iterate 19 intro _);rintro rfl _ rfl _ _ _ _ _ _ _ _ _ _ _
   refine sw<|ei (x:=j) 6 wN mT (F.from0 b3) ?_
   exact f2
  ·intro A c1
   iterate 31 intro _
   refine sw<|mw (vs B j.length C) ?_
   exact f2
  ·intro A b4
   have b5:=J.extk b4
   (iterate 22 intro _);rintro rfl _ _ _ _ _ _ _ _ _
   refine sw<|ix wN 7 nf (F.from0 b5) ?_
   exact f2
  ·intro A b6
   have b7:=J.extk b6
   (iterate 22 intro _);rintro rfl _ rfl _ _ _ _ _ _ _ _
   refine sw<|ei (x:=j) 7 wN mT (F.from0 b7) ?_
   exact f2
  ·intro A c2
   rintro _ rfl _ rfl _ rfl;iterate 28 intro _
   refine sw<|aw (vi (j.getD 0 0)) ?_
   exact f2
  ·intro A c3
   rintro _ rfl _ rfl _ rfl _ rfl _ rfl _ rfl;(iterate 19 intro _);rintro rfl _ _ _ _ _ _
   refine sw<|aw (vi (j.getD 1 0)) ?_
   exact f2
  ·intro A c4
   rintro _ rfl _ rfl _ rfl _ rfl _ rfl _ rfl _ rfl _ rfl _ rfl;(iterate 16 intro _);rintro rfl _ rfl _ _ _ _ _
   refine sw<|aw (vi (j.getD 2 0)) ?_
   exact f2
  ·intro A c5
   iterate 12 rintro _ rfl
   rintro _ _ _ _ _ _ _ _ _ _ _ _ _ rfl _ rfl _ rfl _ _ _ _
   refine sw<|aw (vi (j.getD 3 0)) ?_
   exact f2
  ·intro A c6
   iterate 15 rintro _ rfl
   rintro _ _ _ _ _ _ _ _ _ _ rfl _ rfl _ rfl _ rfl _ _ _
   refine sw<|aw (vi (j.getD 4 0)) ?_
   exact f2
  ·intro A c7
   iterate 18 rintro _ rfl
   rintro _ _ _ _ _ _ _ rfl _ rfl _ rfl _ rfl _ rfl _ _
   refine sw<|aw (vi (j.getD 5 0)) ?_
   exact f2
  ·intro A c8
   iterate 21 rintro _ rfl
   rintro _ _ _ _ rfl _ rfl _ rfl _ rfl _ rfl _ rfl _
   refine sw<|aw (vi (j.getD 6 0)) ?_
   exact f2
 ·intro A M
  have b8:=J.extk M
  iterate 31 rintro _ rfl
  refine sw<|aw (vi (j.getD 7 0)) ?_
  refine n4<|aw (vi 0) ?_
  refine mW<|mP<|ng<|oa [(0,(vs B j.length C)),(4,(vs none 0 0)),(5,(vs H j.length I)),(6,(vs R (kw).length S)),(7,(vs T (schedP p).length V)),(8,(vi ((ol (schedP p) (oE j) 0).a))),(9,(vi ((ol (schedP p) (oE j) 0).b))),(10,(vi ((ol (schedP p) (oE j) 0).c))),(11,(vi ((ol (schedP p) (oE j) 0).d))),(12,(vi ((ol (schedP p) (oE j) 0).e))),(13,(vi ((ol (schedP p) (oE j) 0).f))),(14,(vi ((ol (schedP p) (oE j) 0).g))),(15,(vi ((ol (schedP p) (oE j) 0).z))),(16,(vi ((0:Nat):Int)))] ⟨rfl,rfl,rfl,rfl,rfl,(cA (Value.int .i64) (show ((j.getD 0 0):Int)=(ol (schedP p) (oE j) 0).a by rfl)),(cA (Value.int .i64) (show ((j.getD 1 0):Int)=(ol (schedP p) (oE j) 0).b by rfl)),(cA (Value.int .i64) (show ((j.getD 2 0):Int)=(ol (schedP p) (oE j) 0).c by rfl)),(cA (Value.int .i64) (show ((j.getD 3 0):Int)=(ol (schedP p) (oE j) 0).d by rfl)),(cA (Value.int .i64) (show ((j.getD 4 0):Int)=(ol (schedP p) (oE j) 0).e by rfl)),(cA (Value.int .i64) (show ((j.getD 5 0):Int)=(ol (schedP p) (oE j) 0).f by rfl)),(cA (Value.int .i64) (show ((j.getD 6 0):Int)=(ol (schedP p) (oE j) 0).g by rfl)),(cA (Value.int .i64) (show ((j.getD 7 0):Int)=(ol (schedP p) (oE j) 0).z by rfl)),(cA (Value.int .i64) (show (0:Int)=((0:Nat):Int) by omega)),trivial⟩ (fun e' L=>∃ (k:Nat) (o:Int) (s:Int) (t:Int) (D:Int) (i:Int) (q:Int) (r:Int) (y:Int) (aC:Env),e'=pt aC [(0,(vs B j.length C)),(4,(vs none 0 0)),(5,(vs H j.length I)),(6,(vs R (kw).length S)),(7,(vs T (schedP p).length V)),(8,(vi o)),(9,(vi s)),(10,(vi t)),(11,(vi D)),(12,(vi i)),(13,(vi q)),(14,(vi r)),(15,(vi y)),(16,(vi ((k:Nat):Int)))]∧Ch (fun k=>G.heap.size≤k) G L∧Ch (fun k=>A.heap.size≤k) A L∧k≤64∧o=(ol (schedP p) (oE j) k).a∧s=(ol (schedP p) (oE j) k).b∧t=(ol (schedP p) (oE j) k).c∧D=(ol (schedP p) (oE j) k).d∧i=(ol (schedP p) (oE j) k).e∧q=(ol (schedP p) (oE j) k).f∧r=(ol (schedP p) (oE j) k).g∧y=(ol (schedP p) (oE j) k).z) (fun e' _=>(64 - (intOf (e' 16))).toNat) ?_ ?_
  ·exact fun u=>⟨0,(ol (schedP p) (oE j) 0).a,(ol (schedP p) (oE j) 0).b,(ol (schedP p) (oE j) 0).c,(ol (schedP p) (oE j) 0).d,(ol (schedP p) (oE j) 0).e,(ol (schedP p) (oE j) 0).f,(ol (schedP p) (oE j) 0).g,(ol (schedP p) (oE j) 0).z,u,rfl,b8,(Ch.refl (fun k=>A.heap.size≤k) A),(by omega),(by first|rfl|assumption),(by first|rfl|assumption),(by first|rfl|assumption),(by first|rfl|assumption),(by first|rfl|assumption),(by first|rfl|assumption),(by first|rfl|assumption),(by first|rfl|assumption)⟩
  ·rintro _ av ⟨k,o,s,t,D,i,q,r,y,aC,rfl,aD,W,c9,hi_a,hi_b,hi_c,hi_d,hi_e,hi_f,hi_g,hi_z⟩
   obtain ⟨zw,hzw⟩:∃ z,(schedP p).getD k 0=z:=⟨_,rfl⟩
   have hwd:0≤zw∧zw < 4294967296:=hzw ▸ rV (wF p) k
   obtain ⟨zk,hzk⟩:∃ z,kw.getD k 0=z:=⟨_,rfl⟩
   have hkw:0≤zk∧zk < 4294967296:=hzk ▸ rV CS k
   have hkl:kw.length=64:=rfl
   have hok:=tO (w:=schedP p) (uB (qE (by first|assumption|exact ‹ws8 j=true›)).1) k
   unfold S8.ok at hok
   rw [← hi_a,← hi_b,← hi_c,← hi_d,← hi_e,← hi_f,← hi_g,← hi_z] at hok
   refine nh<|sr<|mw (vi ((k:Nat):Int)) ?_
   refine pu (vb (decide (((k:Nat):Int) < 64))) wN ?_
   refine n2 ?_
   rcases bf (decide (((k:Nat):Int) < 64)) with ab|ab
   ·have cC:=dF ab
    refine cf ab<|oh<|mU ?_
    obtain rfl:k=64:=by omega
    refine mU<|nq<|mP<|sr<|mw (vi o) ?_
    refine mw (vi s) ?_
    refine mw (vi t) ?_
    refine mw (vi D) ?_
    refine mw (vi i) ?_
    refine mw (vi q) ?_
    refine mw (vi r) ?_
    refine mw (vi y) ?_
    refine ltI ([o,s,t,D,i,q,r,y]:List Int) wN nf ?_
    intro P Q E aE aF
    have b9:=aD.extk aE
    refine aw (vs P ([o,s,t,D,i,q,r,y]:List Int).length Q) ?_
    refine n4<|aw (vi 0) ?_
    refine mW<|mP<|ng ?_
    have bA:=(mz (gc (mz (mz (mz (mz X Y) aj) O) M) W (fun g hg hlt hk=>by have ac:=(nb X g hg).2;have ad:a5.heap.size≤A.heap.size:=(z4 Y aj O M);have ae:A.heap.size≤g:=hk;omega)) aE)
    have bB:(j:List Int)=(sc j (S8.list (ol (schedP p) (oE j) 64))).take 0++j.drop 0:=by first|rfl|simp
    have bC:(([o,s,t,D,i,q,r,y]:List Int):List Int)=([o,s,t,D,i,q,r,y]:List Int):=by first|rfl|simp
    refine oa [(0,(vs B j.length C)),(4,(vs none 0 0)),(5,(vs H j.length I)),(19,(vs P ([o,s,t,D,i,q,r,y]:List Int).length Q)),(20,(vi ((0:Nat):Int)))] ⟨rfl,rfl,rfl,rfl,(cA (Value.int .i64) (show (0:Int)=((0:Nat):Int) by omega)),trivial⟩ (fun e' L=>∃ (m:Nat) (aG:Env),e'=pt aG [(0,(vs B j.length C)),(4,(vs none 0 0)),(5,(vs H j.length I)),(19,(vs P ([o,s,t,D,i,q,r,y]:List Int).length Q)),(20,(vi ((m:Nat):Int)))]∧Ch (fun k=>G.heap.size≤k) G L∧Ch (fun k=>G.heap.size≤k) E L∧m≤8∧World.ownsRow L G.heap.size 3 1 (.slice H j.length I) j.length (((sc j (S8.list (ol (schedP p) (oE j) 64))).take m++j.drop m).map iV)∧World.ownsRow L av.heap.size 3 1 (.slice P ([o,s,t,D,i,q,r,y]:List Int).length Q) ([o,s,t,D,i,q,r,y]:List Int).length ((([o,s,t,D,i,q,r,y]:List Int)).map iV)) (fun e' _=>(8 - (intOf (e' 20))).toNat) ?_ ?_
    ·exact fun u=>⟨0,u,rfl,b9,(Ch.refl (fun k=>G.heap.size≤k) E),(by omega),(by rw [← bB];exact bA),(by rw [← bC];exact aF)⟩
    ·rintro _ Z ⟨m,aG,rfl,an,bD,cD,ax,ay⟩
     have hlL:([o,s,t,D,i,q,r,y]:List Int).length=8:=rfl
     have hll:(sc j (S8.list (ol (schedP p) (oE j) 64))).length=8:=vd (by omega) rfl
     have cE:(j.length:Int)=8:=(qE (by first|assumption|exact ‹ws8 j=true›)).2
     have cF:=rV (qE (by first|assumption|exact ‹ws8 j=true›)).1 m
     have hle:([o,s,t,D,i,q,r,y]:List Int)=(S8.list (ol (schedP p) (oE j) 64)):=by rw [hi_a,hi_b,hi_c,hi_d,hi_e,hi_f,hi_g,hi_z];rfl
     have cG:0≤([o,s,t,D,i,q,r,y]:List Int).getD m 0∧([o,s,t,D,i,q,r,y]:List Int).getD m 0 < 4294967296:=hle ▸ rV (BS (tO (w:=schedP p) (uB (qE (by first|assumption|exact ‹ws8 j=true›)).1) 64)) m
     refine nh<|sr<|mw (vi ((m:Nat):Int)) ?_
     refine pu (vb (decide (((m:Nat):Int) < 8))) wN ?_
     refine n2 ?_
     rcases bf (decide (((m:Nat):Int) < 8)) with af|af
     ·have cH:=dF af
      refine cf af<|oh<|mU<|mU<|nq<|mP<|sr<|mw (vs H j.length I) ?_
      refine aw (vs H j.length I) ?_
      refine n3<|rt (vs H j.length I) ?_
      refine ⟨an.keep0,?_⟩
      have bE:oK j p=((sc j (S8.list (ol (schedP p) (oE j) 64))).take m++j.drop m):=by first|exact qO (by first|assumption|exact ‹ws8 j=false›)|exact qN (by omega)|exact qM (by first|assumption|exact ‹ws8 j=true›) (by omega) (by omega)
      rw [bE]
      have aH:j.length=(((sc j (S8.list (ol (schedP p) (oE j) 64))).take m++j.drop m)).length:=by simp only [List.length_append,List.length_take,List.length_drop];omega
      rw [aH] at ax ⊢
      exact ⟨_,_,rfl,ax,(by rw [← aH];exact ap),⟨trivial,trivial⟩⟩
     have cI:=dT af
     refine ct af<|nm<|mP<|nh<|ng<|qB ([(142,[],[],(fun _ v _=>v=(vs H j.length I))),(143,[],[],(fun _ v _=>v=(vi ((m:Nat):Int)))),(144,[],[],(fun _ v _=>v=(vs B j.length C))),(145,[],[],(fun _ v _=>v=(vi ((m:Nat):Int)))),(146,[],[2,3],(fun _ v _=>v=(ve (vs B j.length C) ((((m:Nat):Int)).toNat*1)))),(147,[],[2,3,4],(fun _ v _=>v=(vi (j.getD m 0)))),(148,[],[],(fun _ v _=>v=(vs P ([o,s,t,D,i,q,r,y]:List Int).length Q))),(149,[],[],(fun _ v _=>v=(vi ((m:Nat):Int)))),(150,[],[6,7],(fun _ v _=>v=(ve (vs P ([o,s,t,D,i,q,r,y]:List Int).length Q) ((((m:Nat):Int)).toNat*1)))),(151,[],[6,7,8],(fun _ v _=>v=(vi ((([o,s,t,D,i,q,r,y]:List Int)).getD m 0)))),(152,[],[2,3,4,5,6,7,8,9],(fun _ v _=>v=(vi ((j.getD m 0)+((([o,s,t,D,i,q,r,y]:List Int)).getD m 0))))),(153,[],[2,3,4,5,6,7,8,9,10],(fun _ v _=>v=(vi (((j.getD m 0)+((([o,s,t,D,i,q,r,y]:List Int)).getD m 0)) % 4294967296))))]:GV) oM rfl (by kernel_rfl) (by kernel_rfl) ?_ ?_ ?_
     ·exact ⟨hV,hE,⟨hV,hE,⟨hV,hE,⟨hV,hE,⟨hV,hE,⟨hV,hE,⟨hV,hE,⟨hV,hE,⟨hV,hE,⟨hV,hE,⟨hV,hE,⟨hV,hE,trivial⟩⟩⟩⟩⟩⟩⟩⟩⟩⟩⟩⟩
     ·refine ⟨?_,⟨?_,⟨?_,⟨?_,⟨?_,⟨?_,⟨?_,⟨?_,⟨?_,⟨?_,⟨?_,⟨?_,trivial⟩⟩⟩⟩⟩⟩⟩⟩⟩⟩⟩⟩
      ·intro K cJ
       rintro _ _ _ _ _ _ _ _ _ _ _ _
       refine sw<|mw (vs H j.length I) ?_
       exact f2
      ·intro K cK
       rintro _ _ _ _ _ _ _ _ _ _ _ _
       refine sw<|mw (vi ((m:Nat):Int)) ?_
       exact f2
      ·intro K cL
       rintro _ _ _ _ _ _ _ _ _ _ _ _
       refine sw<|mw (vs B j.length C) ?_
       exact f2
      ·intro K cM
       rintro _ _ _ _ _ _ _ _ _ _ _ _
       refine sw<|mw (vi ((m:Nat):Int)) ?_
       exact f2
      ·intro K bF
       have bG:=an.extk bF
       rintro _ _ _ rfl _ rfl _ _ _ _ _ _ _ _
       refine sw<|ix wN ((m:Nat):Int) nf (F.from0 bG) ?_
       exact f2
      ·intro K bH
       have bI:=an.extk bH
       rintro _ _ _ rfl _ rfl _ rfl _ _ _ _ _ _ _
       refine sw<|ei (x:=j) m wN mT (F.from0 bI) ?_
       exact f2
      ·intro K cN
       rintro _ _ _ _ _ _ _ _ _ _ _ _
       refine sw<|mw (vs P ([o,s,t,D,i,q,r,y]:List Int).length Q) ?_
       exact f2
      ·intro K cO
       rintro _ _ _ _ _ _ _ _ _ _ _ _
       refine sw<|mw (vi ((m:Nat):Int)) ?_
       exact f2
      ·intro K bJ
       rintro _ _ _ _ _ _ _ rfl _ rfl _ _ _ _
       refine sw ?_
       have bK:=(mz ay bJ)
       refine ix wN ((m:Nat):Int) nf (Rd.of_own bK) ?_
       exact f2
      ·intro K bL
       rintro _ _ _ _ _ _ _ rfl _ rfl _ rfl _ _ _
       refine sw ?_
       have bM:=(mz ay bL)
       refine ei (x:=(([o,s,t,D,i,q,r,y]:List Int))) m wN mT (Rd.of_own bM) ?_
       exact f2
      ·intro K cP
       rintro _ _
       iterate 8 rintro _ rfl
       intro _ _
       refine sw<|ar ((j.getD m 0)+((([o,s,t,D,i,q,r,y]:List Int)).getD m 0)) wN ?_
       exact f2
      ·intro K cQ
       rintro _ _
       iterate 9 rintro _ rfl
       intro _
       refine sw<|qc ((j.getD m 0)+((([o,s,t,D,i,q,r,y]:List Int)).getD m 0)) 4294967295 4294967296 32 wN rfl rfl (by decide) (by decide) (by decide) (by kernel_rfl) ?_
       exact f2
     ·intro K ao
      iterate 12 rintro _ rfl
      refine sw ?_
      have aI:=(mz ax ao)
      refine ix wN ((m:Nat):Int) nf (Rd.of_own aI) ?_
      refine pR ((sc j (S8.list (ol (schedP p) (oE j) 64))).take m++j.drop m) (m) ((((j.getD m 0)+((([o,s,t,D,i,q,r,y]:List Int)).getD m 0)) % 4294967296)) wN rfl rfl rfl (by simp) rfl nV aI (by first|omega|(simp only [List.length_append,List.length_take,List.length_drop];omega)) ?_
      intro bN az bO
      have bP:=(an.extk ao).ext az (fun k hk=>nT (Nat.le_refl G.heap.size) (nb X k hk).1)
      refine mW<|mQ<|mP<|mV ?_
      refine mw (vi ((m:Nat):Int)) ?_
      refine ar (((m:Nat):Int)+1) wN ?_
      refine aw (vi (((m:Nat):Int)+1)) ?_
      refine mW ?_
      have bQ:((((sc j (S8.list (ol (schedP p) (oE j) 64))).take m++j.drop m).set m (((j.getD m 0)+((([o,s,t,D,i,q,r,y]:List Int)).getD m 0)) % 4294967296)):List Int)=(sc j (S8.list (ol (schedP p) (oE j) 64))).take (m+1)++j.drop (m+1):=by first|rfl|(rw [hle];exact sG (l:=(S8.list (ol (schedP p) (oE j) 64))) (by omega) (by show j.length=8;omega))
      have bR:=(gc (mz ay ao) az (fun g hg hlt hk=>by have ac:=(nb aF g hg).1;have ad:=(nb X g hk).2;have ae:=(z5 Y aj O M W);omega))
      have bS:((([o,s,t,D,i,q,r,y]:List Int)):List Int)=([o,s,t,D,i,q,r,y]:List Int):=by first|rfl|(rw [hle];exact sG (l:=(S8.list (ol (schedP p) (oE j) 64))) (by omega) (by show j.length=8;omega))
      refine nX (w0:=Z) [(0,(vs B j.length C)),(4,(vs none 0 0)),(5,(vs H j.length I)),(19,(vs P ([o,s,t,D,i,q,r,y]:List Int).length Q)),(20,(vi (((m+1):Nat):Int)))] ?_ ?_ ?_
      · exact ⟨rfl,rfl,rfl,rfl,(cA (Value.int .i64) (show ((((m:Nat):Int)+1):Int)=(((m+1):Nat):Int) by omega)),trivial⟩
      · exact fun u=>⟨(m+1),u,rfl,bP,((((Ch.refl (fun k=>G.heap.size≤k) E).ext bD (fun k hk=>hk)).extk ao).ext az (fun k hk=>nT (Nat.le_refl G.heap.size) (nb X k hk).1)),(by omega),(by rw [← bQ];exact bO),(by rw [← bS];exact bR)⟩
      · show (8 - (((m+1):Nat):Int)).toNat < (8 - ((m:Nat):Int)).toNat;omega
   have cR:=dT ab
   refine ct ab<|nm<|mP<|nh<|ng<|nh<|ob ([(64,[],[],(fun _ v _=>v=(vi y))),(65,[],[],(fun _ v _=>v=(vi i))),(66,[],[1],(fun _ v w=>v=.int .i64 (rot i 6))),(67,[],[],(fun _ v _=>v=(vi i))),(68,[],[1,2,3],(fun _ v w=>v=.int .i64 (rot i 11))),(69,[],[1,2,3,4],(fun _ v _=>v=(vi (nw (rot i 6) (rot i 11))))),(70,[],[],(fun _ v _=>v=(vi i))),(71,[],[1,2,3,4,6],(fun _ v w=>v=.int .i64 (rot i 25))),(72,[],[1,2,3,4,5,6,7],(fun _ v _=>v=(vi (nw (nw (rot i 6) (rot i 11)) (rot i 25))))),(73,[],[0,1,2,3,4,5,6,7,8],(fun _ v _=>v=(vi (y+(nw (nw (rot i 6) (rot i 11)) (rot i 25)))))),(74,[],[],(fun _ v _=>v=(vi i))),(75,[],[],(fun _ v _=>v=(vi q))),(76,[],[10,11],(fun _ v _=>v=(vi (ot i q)))),(77,[],[],(fun _ v _=>v=(vi i))),(78,[],[13],(fun _ v _=>v=(vi (nw i 4294967295)))),(79,[],[],(fun _ v _=>v=(vi r))),(80,[],[13,14,15],(fun _ v _=>v=(vi (ot (nw i 4294967295) r)))),(81,[],[10,11,12,13,14,15,16],(fun _ v _=>v=(vi (nw (ot i q) (ot (nw i 4294967295) r))))),(82,[],[0,1,2,3,4,5,6,7,8,9,10,11,12,13,14,15,16,17],(fun _ v _=>v=(vi ((y+(nw (nw (rot i 6) (rot i 11)) (rot i 25)))+(nw (ot i q) (ot (nw i 4294967295) r)))))),(83,[],[],(fun _ v _=>v=(vs R (kw).length S))),(84,[],[],(fun _ v _=>v=(vi ((k:Nat):Int)))),(85,[],[19,20],(fun _ v _=>v=(ve (vs R (kw).length S) ((((k:Nat):Int)).toNat*1)))),(86,[],[19,20,21],(fun _ v _=>v=(vi zk))),(87,[],[0,1,2,3,4,5,6,7,8,9,10,11,12,13,14,15,16,17,18,19,20,21,22],(fun _ v _=>v=(vi (((y+(nw (nw (rot i 6) (rot i 11)) (rot i 25)))+(nw (ot i q) (ot (nw i 4294967295) r)))+zk)))),(88,[],[],(fun _ v _=>v=(vs T (schedP p).length V))),(89,[],[],(fun _ v _=>v=(vi ((k:Nat):Int)))),(90,[],[24,25],(fun _ v _=>v=(ve (vs T (schedP p).length V) ((((k:Nat):Int)).toNat*1)))),(91,[],[24,25,26],(fun _ v _=>v=(vi zw)))]:GV) (fun _ L=>Keep av L) [] oM rfl (by kernel_rfl) (by kernel_rfl) ?_ (fun _ _ h=>h) (fun _ _ _ _ h _ k=>h.trans k) trivial ?_ ?_ ?_
   ·exact ⟨hV,hE,⟨hV,hE,⟨hV,hE,⟨hV,hE,⟨hV,hE,⟨hV,hE,⟨hV,hE,⟨hV,hE,⟨hV,hE,⟨hV,hE,⟨hV,hE,⟨hV,hE,⟨hV,hE,⟨hV,hE,⟨hV,hE,⟨hV,hE,⟨hV,hE,⟨hV,hE,⟨hV,hE,⟨hV,hE,⟨hV,hE,⟨hV,hE,⟨hV,hE,⟨hV,hE,⟨hV,hE,⟨hV,hE,⟨hV,hE,⟨hV,hE,trivial⟩⟩⟩⟩⟩⟩⟩⟩⟩⟩⟩⟩⟩⟩⟩⟩⟩⟩⟩⟩⟩⟩⟩⟩⟩⟩⟩⟩
   ·exact trivial
   ·refine ⟨?_,⟨?_,⟨?_,⟨?_,⟨?_,⟨?_,⟨?_,⟨?_,⟨?_,⟨?_,⟨?_,⟨?_,⟨?_,⟨?_,⟨?_,⟨?_,⟨?_,⟨?_,⟨?_,⟨?_,⟨?_,⟨?_,⟨?_,⟨?_,⟨?_,⟨?_,⟨?_,⟨?_,trivial⟩⟩⟩⟩⟩⟩⟩⟩⟩⟩⟩⟩⟩⟩⟩⟩⟩⟩⟩⟩⟩⟩⟩⟩⟩⟩⟩⟩
    ·intro _ E cS _
     iterate 28 intro _
     refine sw<|mw (vi y) ?_
     exact f1
    ·intro _ E cT _
     iterate 28 intro _
     refine sw<|mw (vi i) ?_
     exact f1
    ·intro _ E cU _
     rintro _ _ rfl;iterate 26 intro _
     refine sw<|cl wN (tZ E i 6 (by omega) (by omega)) ?_
     rintro _ Z ⟨bT,rfl⟩
     have cV:=oH i 6
     exact nK bT rfl
    ·intro _ E cW _
     iterate 28 intro _
     refine sw<|mw (vi i) ?_
     exact f1
    ·intro _ E cX _
     rintro _ _ rfl _ rfl
     have cY:=oH i 6
     rintro _ rfl;iterate 24 intro _
     refine sw<|cl wN (tZ E i 11 (by omega) (by omega)) ?_
     rintro _ Z ⟨bU,rfl⟩
     have cZ:=oH i 11
     exact nK bU rfl
    ·intro _ E da _
     rintro _ _ rfl _ rfl
     have db:=oH i 6
     rintro _ rfl _ rfl
     have dc:=oH i 11
     iterate 23 intro _
     refine sw<|pD (rot i 6) (rot i 11) wN rfl rfl (by kernel_rfl) (by omega) (by omega) (by omega) (by omega) ?_
     have dd:=ox (a:=(rot i 6)) (b:=(rot i 11)) (by omega) (by omega)
     exact f1
    ·intro _ E de _
     iterate 28 intro _
     refine sw<|mw (vi i) ?_
     exact f1
    ·intro _ E df _
     rintro _ _ rfl _ rfl
     have dg:=oH i 6
     rintro _ rfl _ rfl
     have dh:=oH i 11
     rintro _ _ rfl;iterate 21 intro _
     refine sw<|cl wN (tZ E i 25 (by omega) (by omega)) ?_
     rintro _ Z ⟨bW,rfl⟩
     have di:=oH i 25
     exact nK bW rfl
    ·intro _ E dj _
     rintro _ _ rfl _ rfl
     have dk:=oH i 6
     rintro _ rfl _ rfl
     have dl:=oH i 11
     rintro _ rfl
     have dm:=ox (a:=(rot i 6)) (b:=(rot i 11)) (by omega) (by omega)
     rintro _ rfl _ rfl
     have dn:=oH i 25
     iterate 20 intro _
     refine sw<|pD (nw (rot i 6) (rot i 11)) (rot i 25) wN rfl rfl (by kernel_rfl) (by omega) (by omega) (by omega) (by omega) ?_
     have dp:=ox (a:=(nw (rot i 6) (rot i 11))) (b:=(rot i 25)) (by omega) (by omega)
     exact f1
    ·intro _ E dq _
     rintro _ rfl _ rfl _ rfl
     have dr:=oH i 6
     rintro _ rfl _ rfl
     have ds:=oH i 11
     rintro _ rfl
     have dt:=ox (a:=(rot i 6)) (b:=(rot i 11)) (by omega) (by omega)
     rintro _ rfl _ rfl
     have du:=oH i 25
     rintro _ rfl
     have dv:=ox (a:=(nw (rot i 6) (rot i 11))) (b:=(rot i 25)) (by omega) (by omega)
     iterate 19 intro _
     refine sw<|ar (y+(nw (nw (rot i 6) (rot i 11)) (rot i 25))) wN ?_
     exact f1
    ·intro _ E dw _
     iterate 28 intro _
     refine sw<|mw (vi i) ?_
     exact f1
    ·intro _ E dx _
     iterate 28 intro _
     refine sw<|mw (vi q) ?_
     exact f1
    ·intro _ E dy _
     rintro _ _ _ _ _ _ _ _ _ _ _ rfl _ rfl;iterate 16 intro _
     refine sw<|rh i q wN rfl rfl (by kernel_rfl) (by omega) (by omega) (by omega) (by omega) ?_
     have dz:=qi (a:=i) (b:=q) (by omega)
     exact f1
    ·intro _ E d0 _
     iterate 28 intro _
     refine sw<|mw (vi i) ?_
     exact f1
    ·intro _ E d1 _
     (iterate 14 intro _);rintro rfl;iterate 14 intro _
     refine sw<|pD i 4294967295 wN rfl rfl (by kernel_rfl) (by omega) (by omega) (by omega) (by omega) ?_
     have d2:=ox (a:=i) (b:=4294967295) (by omega) (by omega)
     exact f1
    ·intro _ E d3 _
     iterate 28 intro _
     refine sw<|mw (vi r) ?_
     exact f1
    ·intro _ E d4 _
     (iterate 14 intro _);rintro rfl _ rfl
     have d5:=ox (a:=i) (b:=4294967295) (by omega) (by omega)
     rintro _ rfl _ _ _ _ _ _ _ _ _ _ _ _
     refine sw<|rh (nw i 4294967295) r wN rfl rfl (by kernel_rfl) (by omega) (by omega) (by omega) (by omega) ?_
     have d6:=qi (a:=(nw i 4294967295)) (b:=r) (by omega)
     exact f1
    ·intro _ E d7 _
     rintro _ _ _ _ _ _ _ _ _ _ _ rfl _ rfl _ rfl
     have d8:=qi (a:=i) (b:=q) (by omega)
     rintro _ rfl _ rfl
     have d9:=ox (a:=i) (b:=4294967295) (by omega) (by omega)
     rintro _ rfl _ rfl
     have dA:=qi (a:=(nw i 4294967295)) (b:=r) (by omega)
     rintro _ _ _ _ _ _ _ _ _ _ _
     refine sw<|pD (ot i q) (ot (nw i 4294967295) r) wN rfl rfl (by kernel_rfl) (by omega) (by omega) (by omega) (by omega) ?_
     have dB:=ox (a:=(ot i q)) (b:=(ot (nw i 4294967295) r)) (by omega) (by omega)
     exact f1
    ·intro _ E dC _
     rintro _ rfl _ rfl _ rfl
     have dD:=oH i 6
     rintro _ rfl _ rfl
     have dE:=oH i 11
     rintro _ rfl
     have dG:=ox (a:=(rot i 6)) (b:=(rot i 11)) (by omega) (by omega)
     rintro _ rfl _ rfl
     have dH:=oH i 25
     rintro _ rfl
     have dI:=ox (a:=(nw (rot i 6) (rot i 11))) (b:=(rot i 25)) (by omega) (by omega)
     rintro _ rfl _ rfl _ rfl _ rfl
     have dJ:=qi (a:=i) (b:=q) (by omega)
     rintro _ rfl _ rfl
     have dK:=ox (a:=i) (b:=4294967295) (by omega) (by omega)
     rintro _ rfl _ rfl
     have dL:=qi (a:=(nw i 4294967295)) (b:=r) (by omega)
     rintro _ rfl
     have dM:=ox (a:=(ot i q)) (b:=(ot (nw i 4294967295) r)) (by omega) (by omega)
     rintro _ _ _ _ _ _ _ _ _ _
     refine sw<|ar ((y+(nw (nw (rot i 6) (rot i 11)) (rot i 25)))+(nw (ot i q) (ot (nw i 4294967295) r))) wN ?_
     exact f1
    ·intro _ E dN _
     iterate 28 intro _
     refine sw<|mw (vs R (kw).length S) ?_
     exact f1
    ·intro _ E dO _
     iterate 28 intro _
     refine sw<|mw (vi ((k:Nat):Int)) ?_
     exact f1
    ·intro _ E bX _
     (iterate 20 intro _);rintro rfl _ rfl _ _ _ _ _ _ _
     refine sw ?_
     have bY:=(mz (gc (mz (mz ak O) M) W (fun g hg hlt hk=>by have ac:=(nb ak g hg).2;have ad:au.heap.size≤A.heap.size:=(z2 O M);have ae:A.heap.size≤g:=hk;omega)) bX)
     refine ix wN ((k:Nat):Int) nf (Rd.of_own bY) ?_
     exact f1
    ·intro _ E bZ _
     (iterate 20 intro _);rintro rfl _ rfl _ rfl _ _ _ _ _ _
     refine sw ?_
     have ca:=(mz (gc (mz (mz ak O) M) W (fun g hg hlt hk=>by have ac:=(nb ak g hg).2;have ad:au.heap.size≤A.heap.size:=(z2 O M);have ae:A.heap.size≤g:=hk;omega)) bZ)
     refine pE (iV zk) wN rfl rfl rfl rfl mT (Rd.of_own ca) (by rw [← hzk];exact xx (by simp) (by first|omega|(simp <;> omega))) ?_
     exact f1
    ·intro _ E dP _
     rintro _ rfl _ rfl _ rfl
     have dQ:=oH i 6
     rintro _ rfl _ rfl
     have dR:=oH i 11
     rintro _ rfl
     have dS:=ox (a:=(rot i 6)) (b:=(rot i 11)) (by omega) (by omega)
     rintro _ rfl _ rfl
     have dU:=oH i 25
     rintro _ rfl
     have dV:=ox (a:=(nw (rot i 6) (rot i 11))) (b:=(rot i 25)) (by omega) (by omega)
     rintro _ rfl _ rfl _ rfl _ rfl
     have dW:=qi (a:=i) (b:=q) (by omega)
     rintro _ rfl _ rfl
     have dX:=ox (a:=i) (b:=4294967295) (by omega) (by omega)
     rintro _ rfl _ rfl
     have dY:=qi (a:=(nw i 4294967295)) (b:=r) (by omega)
     rintro _ rfl
     have dZ:=ox (a:=(ot i q)) (b:=(ot (nw i 4294967295) r)) (by omega) (by omega)
     rintro _ rfl _ rfl _ rfl _ rfl _ rfl _ _ _ _ _
     refine sw<|ar (((y+(nw (nw (rot i 6) (rot i 11)) (rot i 25)))+(nw (ot i q) (ot (nw i 4294967295) r)))+zk) wN ?_
     exact f1
    ·intro _ E ea _
     iterate 28 intro _
     refine sw<|mw (vs T (schedP p).length V) ?_
     exact f1
    ·intro _ E ec _
     iterate 28 intro _
     refine sw<|mw (vi ((k:Nat):Int)) ?_
     exact f1
    ·intro _ E cb _
     (iterate 25 intro _);rintro rfl _ rfl _ _
     refine sw ?_
     have cc:=(mz (gc (mz am M) W (fun g hg hlt hk=>by have ac:=(nb am g hg).2;have ad:aB.heap.size≤A.heap.size:=M.size;have ae:A.heap.size≤g:=hk;omega)) cb)
     refine ix wN ((k:Nat):Int) nf (Rd.of_own cc) ?_
     exact f1
    ·intro _ E cd _
     (iterate 25 intro _);rintro rfl _ rfl _ rfl _
     refine sw ?_
     have ce:=(mz (gc (mz am M) W (fun g hg hlt hk=>by have ac:=(nb am g hg).2;have ad:aB.heap.size≤A.heap.size:=M.size;have ae:A.heap.size≤g:=hk;omega)) cd)
     refine pE (iV zw) wN rfl rfl rfl rfl mT (Rd.of_own ce) (by rw [← hzw];exact xx (by simp) (by first|omega|(simp <;> omega))) ?_
     exact f1
   ·intro _ E aJ
    rintro _ rfl _ rfl _ rfl
    have ed:=oH i 6
    rintro _ rfl _ rfl
    have ee:=oH i 11
    rintro _ rfl
    have ef:=ox (a:=(rot i 6)) (b:=(rot i 11)) (by omega) (by omega)
    rintro _ rfl _ rfl
    have eg:=oH i 25
    rintro _ rfl
    have eh:=ox (a:=(nw (rot i 6) (rot i 11))) (b:=(rot i 25)) (by omega) (by omega)
    rintro _ rfl _ rfl _ rfl _ rfl
    have ej:=qi (a:=i) (b:=q) (by omega)
    rintro _ rfl _ rfl
    have ek:=ox (a:=i) (b:=4294967295) (by omega) (by omega)
    rintro _ rfl _ rfl
    have em:=qi (a:=(nw i 4294967295)) (b:=r) (by omega)
    rintro _ rfl
    have en:=ox (a:=(ot i q)) (b:=(ot (nw i 4294967295) r)) (by omega) (by omega)
    iterate 10 rintro _ rfl
    refine sw<|ar ((((y+(nw (nw (rot i 6) (rot i 11)) (rot i 25)))+(nw (ot i q) (ot (nw i 4294967295) r)))+zk)+zw) wN ?_
    refine qc ((((y+(nw (nw (rot i 6) (rot i 11)) (rot i 25)))+(nw (ot i q) (ot (nw i 4294967295) r)))+zk)+zw) 4294967295 4294967296 32 wN rfl rfl (by decide) (by decide) (by decide) (by kernel_rfl) ?_
    refine aw (vi (((((y+(nw (nw (rot i 6) (rot i 11)) (rot i 25)))+(nw (ot i q) (ot (nw i 4294967295) r)))+zk)+zw) % 4294967296)) ?_
    refine nx<|mw (vi o) ?_
    refine cl wN (tZ E o 2 (by omega) (by omega)) ?_
    rintro _ Z ⟨aK,rfl⟩
    have cg:=(aD.extk aJ).extk aK
    have eo:=oH o 2
    refine mw (vi o) ?_
    refine cl wN (tZ Z o 13 (by omega) (by omega)) ?_
    rintro _ K ⟨aL,rfl⟩
    have ep:=oH o 13
    refine pD (rot o 2) (rot o 13) wN rfl rfl (by kernel_rfl) (by omega) (by omega) (by omega) (by omega) ?_
    have er:=ox (a:=(rot o 2)) (b:=(rot o 13)) (by omega) (by omega)
    refine mw (vi o) ?_
    refine cl wN (tZ K o 22 (by omega) (by omega)) ?_
    rintro _ bN ⟨aM,rfl⟩
    have ci:=(cg.extk aL).extk aM
    have es:=oH o 22
    refine pD (nw (rot o 2) (rot o 13)) (rot o 22) wN rfl rfl (by kernel_rfl) (by omega) (by omega) (by omega) (by omega) ?_
    have et:=ox (a:=(nw (rot o 2) (rot o 13))) (b:=(rot o 22)) (by omega) (by omega)
    refine mw (vi o) ?_
    refine mw (vi s) ?_
    refine rh o s wN rfl rfl (by kernel_rfl) (by omega) (by omega) (by omega) (by omega) ?_
    have eu:=qi (a:=o) (b:=s) (by omega)
    refine mw (vi o) ?_
    refine mw (vi t) ?_
    refine rh o t wN rfl rfl (by kernel_rfl) (by omega) (by omega) (by omega) (by omega) ?_
    have ew:=qi (a:=o) (b:=t) (by omega)
    refine pD (ot o s) (ot o t) wN rfl rfl (by kernel_rfl) (by omega) (by omega) (by omega) (by omega) ?_
    have ex:=ox (a:=(ot o s)) (b:=(ot o t)) (by omega) (by omega)
    refine mw (vi s) ?_
    refine mw (vi t) ?_
    refine rh s t wN rfl rfl (by kernel_rfl) (by omega) (by omega) (by omega) (by omega) ?_
    have ey:=qi (a:=s) (b:=t) (by omega)
    refine pD (nw (ot o s) (ot o t)) (ot s t) wN rfl rfl (by kernel_rfl) (by omega) (by omega) (by omega) (by omega) ?_
    have ez:=ox (a:=(nw (ot o s) (ot o t))) (b:=(ot s t)) (by omega) (by omega)
    refine ar ((nw (nw (rot o 2) (rot o 13)) (rot o 22))+(nw (nw (ot o s) (ot o t)) (ot s t))) wN ?_
    refine qc ((nw (nw (rot o 2) (rot o 13)) (rot o 22))+(nw (nw (ot o s) (ot o t)) (ot s t))) 4294967295 4294967296 32 wN rfl rfl (by decide) (by decide) (by decide) (by kernel_rfl) ?_
    refine aw (vi (((nw (nw (rot o 2) (rot o 13)) (rot o 22))+(nw (nw (ot o s) (ot o t)) (ot s t))) % 4294967296)) ?_
    refine nx<|mw (vi r) ?_
    refine aw (vi r) ?_
    refine nx<|mw (vi q) ?_
    refine aw (vi q) ?_
    refine nx<|mw (vi i) ?_
    refine aw (vi i) ?_
    refine nx<|mw (vi D) ?_
    refine mw (vi (((((y+(nw (nw (rot i 6) (rot i 11)) (rot i 25)))+(nw (ot i q) (ot (nw i 4294967295) r)))+zk)+zw) % 4294967296)) ?_
    refine ar (D+(((((y+(nw (nw (rot i 6) (rot i 11)) (rot i 25)))+(nw (ot i q) (ot (nw i 4294967295) r)))+zk)+zw) % 4294967296)) wN ?_
    refine qc (D+(((((y+(nw (nw (rot i 6) (rot i 11)) (rot i 25)))+(nw (ot i q) (ot (nw i 4294967295) r)))+zk)+zw) % 4294967296)) 4294967295 4294967296 32 wN rfl rfl (by decide) (by decide) (by decide) (by kernel_rfl) ?_
    refine aw (vi ((D+(((((y+(nw (nw (rot i 6) (rot i 11)) (rot i 25)))+(nw (ot i q) (ot (nw i 4294967295) r)))+zk)+zw) % 4294967296)) % 4294967296)) ?_
    refine nx<|mw (vi t) ?_
    refine aw (vi t) ?_
    refine nx<|mw (vi s) ?_
    refine aw (vi s) ?_
    refine nx<|mw (vi o) ?_
    refine aw (vi o) ?_
    refine mW<|mP<|mV ?_
    refine mw (vi (((((y+(nw (nw (rot i 6) (rot i 11)) (rot i 25)))+(nw (ot i q) (ot (nw i 4294967295) r)))+zk)+zw) % 4294967296)) ?_
    refine mw (vi (((nw (nw (rot o 2) (rot o 13)) (rot o 22))+(nw (nw (ot o s) (ot o t)) (ot s t))) % 4294967296)) ?_
    refine ar ((((((y+(nw (nw (rot i 6) (rot i 11)) (rot i 25)))+(nw (ot i q) (ot (nw i 4294967295) r)))+zk)+zw) % 4294967296)+(((nw (nw (rot o 2) (rot o 13)) (rot o 22))+(nw (nw (ot o s) (ot o t)) (ot s t))) % 4294967296)) wN ?_
    refine qc ((((((y+(nw (nw (rot i 6) (rot i 11)) (rot i 25)))+(nw (ot i q) (ot (nw i 4294967295) r)))+zk)+zw) % 4294967296)+(((nw (nw (rot o 2) (rot o 13)) (rot o 22))+(nw (nw (ot o s) (ot o t)) (ot s t))) % 4294967296)) 4294967295 4294967296 32 wN rfl rfl (by decide) (by decide) (by decide) (by kernel_rfl) ?_
    refine aw (vi (((((((y+(nw (nw (rot i 6) (rot i 11)) (rot i 25)))+(nw (ot i q) (ot (nw i 4294967295) r)))+zk)+zw) % 4294967296)+(((nw (nw (rot o 2) (rot o 13)) (rot o 22))+(nw (nw (ot o s) (ot o t)) (ot s t))) % 4294967296)) % 4294967296)) ?_
    refine mW<|mQ<|mP<|mV ?_
    refine mw (vi ((k:Nat):Int)) ?_
    refine ar (((k:Nat):Int)+1) wN ?_
    refine aw (vi (((k:Nat):Int)+1)) ?_
    refine mW<|nX (w0:=av) [(0,(vs B j.length C)),(4,(vs none 0 0)),(5,(vs H j.length I)),(6,(vs R (kw).length S)),(7,(vs T (schedP p).length V)),(8,(vi ((ol (schedP p) (oE j) (k+1)).a))),(9,(vi ((ol (schedP p) (oE j) (k+1)).b))),(10,(vi ((ol (schedP p) (oE j) (k+1)).c))),(11,(vi ((ol (schedP p) (oE j) (k+1)).d))),(12,(vi ((ol (schedP p) (oE j) (k+1)).e))),(13,(vi ((ol (schedP p) (oE j) (k+1)).f))),(14,(vi ((ol (schedP p) (oE j) (k+1)).g))),(15,(vi ((ol (schedP p) (oE j) (k+1)).z))),(16,(vi (((k+1):Nat):Int)))] ?_ ?_ ?_
    · exact ⟨rfl,rfl,rfl,rfl,rfl,(cA (Value.int .i64) (show ((((((((y+(nw (nw (rot i 6) (rot i 11)) (rot i 25)))+(nw (ot i q) (ot (nw i 4294967295) r)))+zk)+zw) % 4294967296)+(((nw (nw (rot o 2) (rot o 13)) (rot o 22))+(nw (nw (ot o s) (ot o t)) (ot s t))) % 4294967296)) % 4294967296):Int)=(ol (schedP p) (oE j) (k+1)).a by subst hzw hzk hi_a hi_b hi_c hi_d hi_e hi_f hi_g hi_z;exact Cs (by omega) rfl rfl)),(cA (Value.int .i64) (show (o:Int)=(ol (schedP p) (oE j) (k+1)).b by rw [hi_a];rfl)),(cA (Value.int .i64) (show (s:Int)=(ol (schedP p) (oE j) (k+1)).c by rw [hi_b];rfl)),(cA (Value.int .i64) (show (t:Int)=(ol (schedP p) (oE j) (k+1)).d by rw [hi_c];rfl)),(cA (Value.int .i64) (show (((D+(((((y+(nw (nw (rot i 6) (rot i 11)) (rot i 25)))+(nw (ot i q) (ot (nw i 4294967295) r)))+zk)+zw) % 4294967296)) % 4294967296):Int)=(ol (schedP p) (oE j) (k+1)).e by subst hzw hzk hi_a hi_b hi_c hi_d hi_e hi_f hi_g hi_z;exact Cr (by omega) rfl)),(cA (Value.int .i64) (show (i:Int)=(ol (schedP p) (oE j) (k+1)).f by rw [hi_e];rfl)),(cA (Value.int .i64) (show (q:Int)=(ol (schedP p) (oE j) (k+1)).g by rw [hi_f];rfl)),(cA (Value.int .i64) (show (r:Int)=(ol (schedP p) (oE j) (k+1)).z by rw [hi_g];rfl)),(cA (Value.int .i64) (show ((((k:Nat):Int)+1):Int)=(((k+1):Nat):Int) by omega)),trivial⟩
    · exact fun u=>⟨(k+1),(ol (schedP p) (oE j) (k+1)).a,(ol (schedP p) (oE j) (k+1)).b,(ol (schedP p) (oE j) (k+1)).c,(ol (schedP p) (oE j) (k+1)).d,(ol (schedP p) (oE j) (k+1)).e,(ol (schedP p) (oE j) (k+1)).f,(ol (schedP p) (oE j) (k+1)).g,(ol (schedP p) (oE j) (k+1)).z,u,rfl,ci,((((((Ch.refl (fun k=>A.heap.size≤k) A).ext W (fun k hk=>hk)).extk aJ).extk aK).extk aL).extk aM),(by omega),(by first|rfl|assumption),(by first|rfl|assumption),(by first|rfl|assumption),(by first|rfl|assumption),(by first|rfl|assumption),(by first|rfl|assumption),(by first|rfl|assumption),(by first|rfl|assumption)⟩
    · show (64 - (((k+1):Nat):Int)).toNat < (64 - ((k:Nat):Int)).toNat;omega

theorem Bn (b:World) (r:Value) (a:List Int) (I:xQ b r a) (P:a.length=8):Fn Tryz.prog 167 #[r] b (fun v f=>Keep b f∧rr f b.heap.size v (oI a)):=by
 obtain ⟨g,h,rfl,s,Q⟩:=I
 refine nu (n:=17) [(vs g a.length h)] Tryz.func167 rfl rfl ?_
 refine sr<|aw (vs none 0 0) ?_
 refine nx<|nF wN rfl rfl mR (fun w=>by kernel_rfl) ?_
 intro p q t J
 have K:=(Ch.base b).extk t
 refine aw (vs (some p) 0 0) ?_
 refine n4<|aw (vi 0) ?_
 refine mW<|mP<|ng ?_
 have y:([]:List UInt8)=oI (a.take 0):=by rfl
 have A:0=(oI (a.take 0)).length:=by rw [← y];try (first|rfl|simp only [List.length_set]|simp)
 refine oa [(0,(vs g a.length h)),(2,(vs none 0 0)),(3,(.slice (some p) (oI (a.take 0)).length 0)),(4,(vi ((0:Nat):Int)))] ⟨rfl,rfl,rfl,(cA (Value.int .i64) (show (0:Int)=((0:Nat):Int) by omega)),trivial⟩ (fun e' f=>∃ (k:Nat) (B:Env) (d:Option Addr) (e:Nat),e'=pt B [(0,(vs g a.length h)),(2,(vs none 0 0)),(3,(.slice d (oI (a.take k)).length e)),(4,(vi ((k:Nat):Int)))]∧Ch (fun k=>b.heap.size≤k) b f∧Ch (fun k=>b.heap.size≤k) q f∧k≤a.length∧(World.ownsRow f b.heap.size 5 1 (.slice d (oI (a.take k)).length e) (oI (a.take k)).length ((oI (a.take k)).map bV)∧(oI (a.take k)).length≤1073741824)) (fun e' _=>a.length - ((intOf (e' 4))).toNat) ?_ ?_
 ·exact fun u=>⟨0,u,(some p),0,rfl,K,(Ch.refl (fun k=>b.heap.size≤k) q),(by omega),⟨(by rw [← A,← y];exact J),(by rw [← A];first|exact (by simp)|(simp only [List.length_append,List.length_take,List.length_replicate];omega))⟩⟩
 ·rintro _ C ⟨k,B,d,e,rfl,j,D,R,⟨E,F⟩⟩
  have hwl:=sg (a.take k)
  have htl:(a.take k).length=min k a.length:=List.length_take
  refine nh<|sr<|mw (vi ((k:Nat):Int)) ?_
  refine pu (vb (decide (((k:Nat):Int) < 8))) wN ?_
  refine n2 ?_
  rcases bf (decide (((k:Nat):Int) < 8)) with i|i
  ·have S:=dF i
   refine cf i<|oh<|mU<|mU<|nq<|mP<|sr<|mw (vs d (oI (a.take k)).length e) ?_
   refine aw (vs d (oI (a.take k)).length e) ?_
   refine n3<|rt (vs d (oI (a.take k)).length e) ?_
   refine ⟨j.keep0,?_⟩
   have L:oI a=(oI (a.take k)):=by exact vl (by omega)
   rw [L]
   exact ⟨_,_,rfl,E,F,⟨trivial,trivial⟩⟩
  have T:=dT i
  refine ct i<|nm<|mP<|nh<|ng<|mV ?_
  refine mw (vs d (oI (a.take k)).length e) ?_
  refine mw (vs g a.length h) ?_
  refine mw (vi ((k:Nat):Int)) ?_
  refine ix wN ((k:Nat):Int) nf (s.from0 j) ?_
  refine ei (x:=a) k wN mT (s.from0 j) ?_
  refine cl wN (ut C _ (oI (a.take k)) (nH (Rd.of_own E) F) (a.getD k 0) 4 (by first|omega|(simp;done)|(simp;omega)|(simp only [List.length_append,List.length_cons,List.length_nil] at *;omega))) ?_
  rintro _ V ⟨G,⟨m,o,rfl,M,N,W⟩⟩
  have O:=j.extk G
  have X:=qe (oI (a.take k)) (a.getD k 0) 4
  refine aw (vs m (pB (oI (a.take k)) (a.getD k 0) 4).length o) ?_
  refine mW<|mQ<|mP<|mV ?_
  refine mw (vi ((k:Nat):Int)) ?_
  refine ar (((k:Nat):Int)+1) wN ?_
  refine aw (vi (((k:Nat):Int)+1)) ?_
  refine mW ?_
  have H:((pB (oI (a.take k)) (a.getD k 0) 4):List UInt8)=oI (a.take (k+1)):=by exact ue (by omega)
  refine nX (w0:=C) [(0,(vs g a.length h)),(2,(vs none 0 0)),(3,(.slice m (oI (a.take (k+1))).length o)),(4,(vi (((k+1):Nat):Int)))] ?_ ?_ ?_
  · exact ⟨rfl,rfl,(cA (fun l:List UInt8=>Value.slice m l.length o) H),(cA (Value.int .i64) (show ((((k:Nat):Int)+1):Int)=(((k+1):Nat):Int) by omega)),trivial⟩
  · exact fun u=>⟨(k+1),u,m,o,rfl,O,(((Ch.refl (fun k=>b.heap.size≤k) q).ext D (fun k hk=>hk)).extk G),(by omega),(H ▸ ⟨(mO M (z2 t D)),N⟩)⟩
  · show a.length - ((((k+1):Nat):Int)).toNat < a.length - (((k:Nat):Int)).toNat;omega

theorem Bs (b:World) (I:Value) (a:List UInt8) (Z:pI b I a) :Fn Tryz.prog 155 #[I] b (fun v e=>Keep b e∧rr e b.heap.size v (sha a)):=by
 obtain ⟨p,q,rfl,D,a5⟩:=Z
 refine nu (n:=33) [(vs p a.length q)] Tryz.func155 rfl rfl ?_
 refine sr<|aw (vs none 0 0) ?_
 refine n4<|mw (vs p a.length q) ?_
 refine ln wN mR D ?_
 refine pu (vb (decide (1048576 < (a.length:Int)))) wN ?_
 refine n2 ?_
 rcases bt (decide (1048576 < (a.length:Int))) with i|i
 ·have a6:=dT i
  refine ct i<|sr<|nF wN rfl rfl mR (fun w=>by kernel_rfl) ?_
  intro J aa ab ac
  have ad:=(Ch.base b).extk ab
  refine aw (vs (some J) 0 0) ?_
  refine n1<|rt (vs (some J) 0 0) ?_
  refine ⟨ad.keep0,?_⟩
  have ae:sha a=[]:=by first|exact zI (by omega)|exact BO (by omega) (by omega) (by omega)
  rw [ae]
  exact ⟨_,_,rfl,ac,(by simp),⟨trivial,trivial⟩⟩
 have a7:=dF i
 refine cf i<|y1<|nF wN rfl rfl mR (fun w=>by kernel_rfl) ?_
 intro a8 aa r af
 have K:=(Ch.base b).extk r
 refine mw (vs p a.length q) ?_
 refine ap0 a wN mR af (D.from0 K) r.size ?_
 intro a9 aA ah E L aB
 have M:=K.extk E
 refine mw (vs p a.length q) ?_
 refine ln wN mR (D.from0 M) ?_
 refine cl wN (CV ah (a.length:Int)) ?_
 rintro _ aC ⟨s,⟨aD,aE,rfl,ai,_⟩⟩
 have aF:=qk (a.length:Int)
 have aj:=(mz L s)
 refine apB a (pb (a.length:Int)) wN mR aj (Rd.of_own ai) (z3 r E s) ?_
 intro f h d N O aG ak
 have am:=(M.extk s).ext N (fun k hk=>nT (Nat.le_refl b.heap.size) (nb L k hk).1)
 refine aw (vs f (a++(pb (a.length:Int))).length h) ?_
 refine nx<|cl wN (Br d ) ?_
 rintro _ F ⟨t,⟨x,y,rfl,an,ao,aH⟩⟩
 have ap:=am.extk t
 refine aw (vs x (k0).length y) ?_
 refine n4<|aw (vi 0) ?_
 refine mW<|mP<|ng ?_
 have P:((k0):List Int)=oX k0 (a++(pb (a.length:Int))) 0:=by rfl
 refine oa [(2,(vs none 0 0)),(3,(vs f (a++(pb (a.length:Int))).length h)),(4,(.slice x (oX k0 (a++(pb (a.length:Int))) 0).length y)),(5,(vi (64*((0:Nat):Int))))] ⟨rfl,rfl,(cA (fun l:List Int=>Value.slice x l.length y) P),(cA (Value.int .i64) (show (0:Int)=(64*((0:Nat):Int)) by omega)),trivial⟩ (fun e' e=>∃ (k:Nat) (Q:Env) (j:Option Addr) (m:Nat),e'=pt Q [(2,(vs none 0 0)),(3,(vs f (a++(pb (a.length:Int))).length h)),(4,(.slice j (oX k0 (a++(pb (a.length:Int))) k).length m)),(5,(vi (64*((k:Nat):Int))))]∧Ch (fun k=>b.heap.size≤k) b e∧Ch (fun k=>d.heap.size≤k) F e∧64*k≤(a++(pb (a.length:Int))).length∧(World.ownsRow e d.heap.size 3 1 (.slice j (oX k0 (a++(pb (a.length:Int))) k).length m) (oX k0 (a++(pb (a.length:Int))) k).length ((oX k0 (a++(pb (a.length:Int))) k).map iV)∧(oX k0 (a++(pb (a.length:Int))) k).length≤1073741824)) (fun e' _=>(a++pb (a.length:Int)).length - ((intOf (e' 5))).toNat) ?_ ?_
 ·exact fun u=>⟨0,u,x,y,rfl,ap,(Ch.refl (fun k=>d.heap.size≤k) F),(by omega),(P ▸ ⟨an,ao⟩)⟩
 ·rintro _ G ⟨k,Q,j,m,rfl,R,A,aI,⟨S,T⟩⟩
  have hal:=BP a (by omega)
  refine nh<|sr<|mw (vi (64*((k:Nat):Int))) ?_
  refine mw (vs f (a++(pb (a.length:Int))).length h) ?_
  have H:=(gc (mz O t) A (fun g hg hlt hk=>by have aJ:=(nb O g hg).2;have aK:d.heap.size≤d.heap.size:=(Nat.le_refl d.heap.size);have aL:d.heap.size≤g:=hk;omega))
  refine ln wN mR (Rd.of_own H) ?_
  refine pu (vb (decide ((64*((k:Nat):Int)) < ((a++(pb (a.length:Int))).length:Int)))) wN ?_
  refine n2 ?_
  rcases bf (decide ((64*((k:Nat):Int)) < ((a++(pb (a.length:Int))).length:Int))) with o|o
  ·have aM:=dF o
   refine cf o<|oh<|mU<|mU<|nq<|mP<|sr<|mw (vs j (oX k0 (a++(pb (a.length:Int))) k).length m) ?_
   refine cl wN (Bn G _ (oX k0 (a++(pb (a.length:Int))) k) (rX (Rd.of_own S) T) (by first|omega|exact sy CJ _|exact tN (by first|assumption|exact (tq (by assumption)).1))) ?_
   rintro _ aq ⟨au,⟨V,W,rfl,av,ax,aN⟩⟩
   have ay:=R.extk au
   refine aw (vs V (oI (oX k0 (a++(pb (a.length:Int))) k)).length W) ?_
   refine n3<|rt (vs V (oI (oX k0 (a++(pb (a.length:Int))) k)).length W) ?_
   refine ⟨ay.keep0,?_⟩
   have az:sha a=(oI (oX k0 (a++(pb (a.length:Int))) k)):=by first|exact zI (by omega)|exact BO (by omega) (by omega) (by omega)
   rw [az]
   exact ⟨_,_,rfl,(mO av (z6 r E s N t A)),ax,⟨trivial,trivial⟩⟩
  have aO:=dT o
  refine ct o<|nm<|mP<|nh<|ng<|mV ?_
  refine mw (vs j (oX k0 (a++(pb (a.length:Int))) k).length m) ?_
  refine mw (vs f (a++(pb (a.length:Int))).length h) ?_
  refine mw (vi (64*((k:Nat):Int))) ?_
  refine mw (vi (64*((k:Nat):Int))) ?_
  refine ar ((64*((k:Nat):Int))+64) wN ?_
  refine slv (((a++(pb (a.length:Int))).drop (((64*((k:Nat):Int))).toNat)).take (((((64*((k:Nat):Int))+64)).toNat) - (((64*((k:Nat):Int))).toNat))) (((64*((k:Nat):Int))).toNat) ((((64*((k:Nat):Int))+64)).toNat) wN mR (Rd.of_own H) (by first|omega|(simp <;> omega)) (by first|omega|(simp <;> omega)) (by first|rfl|(simp;done)|(rw [List.take_of_length_le (by first|(simp;done)|(simp;omega))])) rfl rfl rfl rfl (.inr ⟨_,_,_,rfl,rfl,by omega⟩) (.inr ⟨_,_,_,rfl,rfl,by omega⟩) ?_
  have a0:(((64*((k:Nat):Int))).toNat)≤((((64*((k:Nat):Int))+64)).toNat):=(by first|omega|(simp <;> omega))
  have a1:((((64*((k:Nat):Int))+64)).toNat)≤(a++(pb (a.length:Int))).length:=(by first|omega|(simp <;> omega))
  refine cl wN (xE G _ (oX k0 (a++(pb (a.length:Int))) k) (rX (Rd.of_own S) T) _ (((a++(pb (a.length:Int))).drop (((64*((k:Nat):Int))).toNat)).take (((((64*((k:Nat):Int))+64)).toNat) - (((64*((k:Nat):Int))).toNat))) (nH (Rd.subV (x':=(((a++(pb (a.length:Int))).drop (((64*((k:Nat):Int))).toNat)).take (((((64*((k:Nat):Int))+64)).toNat) - (((64*((k:Nat):Int))).toNat)))) (Rd.of_own H) a0 a1 (by first|rfl|(simp;done)|(rw [List.take_of_length_le (by first|(simp;done)|(simp;omega))]))) (nT (by simp only [List.length_take,List.length_drop];omega) ak))) ?_
  rintro _ aq ⟨X,⟨B,C,rfl,a2,a3,aP⟩⟩
  have a4:=R.extk X
  refine aw (vs B (oK (oX k0 (a++(pb (a.length:Int))) k) (((a++(pb (a.length:Int))).drop (((64*((k:Nat):Int))).toNat)).take (((((64*((k:Nat):Int))+64)).toNat) - (((64*((k:Nat):Int))).toNat)))).length C) ?_
  refine mW<|mQ<|mP<|mV ?_
  refine mw (vi (64*((k:Nat):Int))) ?_
  refine ar ((64*((k:Nat):Int))+64) wN ?_
  refine aw (vi ((64*((k:Nat):Int))+64)) ?_
  refine mW ?_
  have Y:((oK (oX k0 (a++(pb (a.length:Int))) k) (((a++(pb (a.length:Int))).drop (((64*((k:Nat):Int))).toNat)).take (((((64*((k:Nat):Int))+64)).toNat) - (((64*((k:Nat):Int))).toNat)))):List Int)=oX k0 (a++(pb (a.length:Int))) (k+1):=by exact xz
  refine nX (w0:=G) [(2,(vs none 0 0)),(3,(vs f (a++(pb (a.length:Int))).length h)),(4,(.slice B (oX k0 (a++(pb (a.length:Int))) (k+1)).length C)),(5,(vi (64*(((k+1):Nat):Int))))] ?_ ?_ ?_
  · exact ⟨rfl,rfl,(cA (fun l:List Int=>Value.slice B l.length C) Y),(cA (Value.int .i64) (show (((64*((k:Nat):Int))+64):Int)=(64*(((k+1):Nat):Int)) by omega)),trivial⟩
  · exact fun u=>⟨(k+1),u,B,C,rfl,a4,(((Ch.refl (fun k=>d.heap.size≤k) F).ext A (fun k hk=>hk)).extk X),(by omega),(Y ▸ ⟨(mO a2 (z2 t A)),a3⟩)⟩
  · show (a++pb (a.length:Int)).length - ((64*(((k+1):Nat):Int))).toNat < (a++pb (a.length:Int)).length - ((64*((k:Nat):Int))).toNat;omega

theorem xG (b:World) (M:Value) (a:List UInt8) (af:pI b M a) :Fn Tryz.prog 154 #[M] b (fun v f=>Keep b f∧rr f b.heap.size v (nc a)):=by
 obtain ⟨h,i,rfl,y,N⟩:=af
 refine nu (n:=23) [(vs h a.length i)] Tryz.func154 rfl rfl ?_
 refine sr<|aw (vs none 0 0) ?_
 refine n4<|mw (vs h a.length i) ?_
 refine ln wN mR y ?_
 refine pu (vb (decide (1048576 < (a.length:Int)))) wN ?_
 refine n2 ?_
 rcases bt (decide (1048576 < (a.length:Int))) with m|m
 ·have aB:=dT m
  refine ct m<|sr<|nF wN rfl rfl mR (fun w=>by kernel_rfl) ?_
  intro O ah ai aj
  have ak:=(Ch.base b).extk ai
  refine aw (vs (some O) 0 0) ?_
  refine n1<|rt (vs (some O) 0 0) ?_
  refine ⟨ak.keep0,?_⟩
  have am:nc a=[]:=by first|exact qS (by omega)|exact qR (by omega) (by omega) (by omega) (by simp only [List.length_append,List.length_replicate] at *;omega)|exact qQ (by omega) (by omega) (by simp only [List.length_append,List.length_replicate] at *;omega)
  rw [am]
  exact ⟨_,_,rfl,aj,(by simp),⟨trivial,trivial⟩⟩
 have aC:=dF m
 refine cf m<|y1<|nF wN rfl rfl mR (fun w=>by kernel_rfl) ?_
 intro aD ah o an
 have P:=(Ch.base b).extk o
 refine mw (vs h a.length i) ?_
 refine ap0 a wN mR an (y.from0 P) o.size ?_
 intro A B g C ao aE
 have D:=P.extk C
 refine aw (vs A a.length B) ?_
 refine n4<|mw (vs h a.length i) ?_
 refine ln wN mR (y.from0 D) ?_
 refine pu (vb (decide (64 < (a.length:Int)))) wN ?_
 refine n2 ?_
 rcases bf (decide (64 < (a.length:Int))) with p|p
 ·have aF:=dF p
  refine cf p<|nm<|mP<|nh<|ng ?_
  have Q:(a:List UInt8)=a++List.replicate 0 (0:UInt8):=by simp
  refine oa [(2,(vs none 0 0)),(3,(.slice A (a++List.replicate 0 (0:UInt8)).length B))] ⟨rfl,(cA (fun l:List UInt8=>Value.slice A l.length B) Q),trivial⟩ (fun e' f=>∃ (j:Nat) (R:Env) (d:Option Addr) (e:Nat),e'=pt R [(2,(vs none 0 0)),(3,(.slice d (a++List.replicate j (0:UInt8)).length e))]∧Ch (fun k=>b.heap.size≤k) b f∧Ch (fun k=>b.heap.size≤k) g f∧a.length+j≤64∧(World.ownsRow f b.heap.size 5 1 (.slice d (a++List.replicate j (0:UInt8)).length e) (a++List.replicate j (0:UInt8)).length ((a++List.replicate j (0:UInt8)).map bV)∧(a++List.replicate j (0:UInt8)).length≤1073741824)) (fun e' _=>64 - (lenOf (e' 3))) ?_ ?_
  ·exact fun u=>⟨0,u,A,B,rfl,D,(Ch.refl (fun k=>b.heap.size≤k) g),(by omega),(Q ▸ ⟨ao,N⟩)⟩
  ·rintro _ q ⟨j,R,d,e,rfl,S,T,aG,⟨r,ap⟩⟩
   have hol:(a++List.replicate j (0:UInt8)).length=a.length+j:=by rw [List.length_append,List.length_replicate]
   refine nh<|sr<|mw (vs d (a++List.replicate j (0:UInt8)).length e) ?_
   refine ln wN mR (Rd.of_own r) ?_
   refine pu (vb (decide (((a++List.replicate j (0:UInt8)).length:Int) < 64))) wN ?_
   refine n2 ?_
   rcases bf (decide (((a++List.replicate j (0:UInt8)).length:Int) < 64)) with s|s
   ·have aH:=dF s
    refine cf s<|oh<|mU<|mU<|nq<|mP<|sr<|mw (vs d (a++List.replicate j (0:UInt8)).length e) ?_
    refine aw (vs d (a++List.replicate j (0:UInt8)).length e) ?_
    refine n3<|rt (vs d (a++List.replicate j (0:UInt8)).length e) ?_
    refine ⟨S.keep0,?_⟩
    have aq:nc a=(a++List.replicate j (0:UInt8)):=by first|exact qS (by omega)|exact qR (by omega) (by omega) (by omega) (by simp only [List.length_append,List.length_replicate] at *;omega)|exact qQ (by omega) (by omega) (by simp only [List.length_append,List.length_replicate] at *;omega)
    rw [aq]
    exact ⟨_,_,rfl,r,ap,⟨trivial,trivial⟩⟩
   have aI:=dT s
   refine ct s<|nm<|mP<|ng<|mV ?_
   refine mw (vs d (a++List.replicate j (0:UInt8)).length e) ?_
   refine ltB ([0]:List UInt8) wN mR ?_
   intro aJ aK V E au
   have av:=(mz r E)
   refine apB (a++List.replicate j (0:UInt8)) ([0]:List UInt8) wN mR av (Rd.of_own au) (z4 o C T E) ?_
   intro F G ax W ay aL az
   have a0:=(S.extk E).ext W (fun k hk=>nT (Nat.le_refl b.heap.size) (nb r k hk).1)
   refine aw (vs F ((a++List.replicate j (0:UInt8))++([0]:List UInt8)).length G) ?_
   refine mW<|mQ ?_
   have X:(((a++List.replicate j (0:UInt8))++([0]:List UInt8)):List UInt8)=a++List.replicate (j+1) (0:UInt8):=by rw [List.replicate_succ',List.append_assoc]
   refine nX (w0:=q) [(2,(vs none 0 0)),(3,(.slice F (a++List.replicate (j+1) (0:UInt8)).length G))] ?_ ?_ ?_
   · exact ⟨rfl,(cA (fun l:List UInt8=>Value.slice F l.length G) X),trivial⟩
   · exact fun u=>⟨(j+1),u,F,G,rfl,a0,((((Ch.refl (fun k=>b.heap.size≤k) g).ext T (fun k hk=>hk)).extk E).ext W (fun k hk=>nT (Nat.le_refl b.heap.size) (nb r k hk).1)),(by omega),(X ▸ ⟨ay,az⟩)⟩
   · show 64 - (a++List.replicate (j+1) (0:UInt8)).length < 64 - (a++List.replicate j (0:UInt8)).length;simp only [List.length_append,List.length_replicate];omega
 have aM:=dT p
 refine ct p<|mV ?_
 refine mw (vs h a.length i) ?_
 refine cl wN (Bs g _ a (nH (y.from0 D) N)) ?_
 rintro _ q ⟨Y,⟨H,I,rfl,a1,a2,aN⟩⟩
 have a3:=D.extk Y
 have aO:=tb a
 refine aw (vs H (sha a).length I) ?_
 refine mW<|mP<|nh<|ng ?_
 have Z:((sha a):List UInt8)=(sha a)++List.replicate 0 (0:UInt8):=by simp
 refine oa [(2,(vs none 0 0)),(3,(.slice H ((sha a)++List.replicate 0 (0:UInt8)).length I))] ⟨rfl,(cA (fun l:List UInt8=>Value.slice H l.length I) Z),trivial⟩ (fun e' f=>∃ (j:Nat) (aa:Env) (d:Option Addr) (e:Nat),e'=pt aa [(2,(vs none 0 0)),(3,(.slice d ((sha a)++List.replicate j (0:UInt8)).length e))]∧Ch (fun k=>b.heap.size≤k) b f∧Ch (fun k=>g.heap.size≤k) q f∧(sha a).length+j≤64∧(World.ownsRow f g.heap.size 5 1 (.slice d ((sha a)++List.replicate j (0:UInt8)).length e) ((sha a)++List.replicate j (0:UInt8)).length (((sha a)++List.replicate j (0:UInt8)).map bV)∧((sha a)++List.replicate j (0:UInt8)).length≤1073741824)) (fun e' _=>64 - (lenOf (e' 3))) ?_ ?_
 ·exact fun u=>⟨0,u,H,I,rfl,a3,(Ch.refl (fun k=>g.heap.size≤k) q),(by omega),(Z ▸ ⟨a1,a2⟩)⟩
 ·rintro _ V ⟨j,aa,d,e,rfl,ab,ac,aP,⟨t,a4⟩⟩
  have hol:((sha a)++List.replicate j (0:UInt8)).length=(sha a).length+j:=by rw [List.length_append,List.length_replicate]
  refine nh<|sr<|mw (vs d ((sha a)++List.replicate j (0:UInt8)).length e) ?_
  refine ln wN mR (Rd.of_own t) ?_
  refine pu (vb (decide ((((sha a)++List.replicate j (0:UInt8)).length:Int) < 64))) wN ?_
  refine n2 ?_
  rcases bf (decide ((((sha a)++List.replicate j (0:UInt8)).length:Int) < 64)) with x|x
  ·have aQ:=dF x
   refine cf x<|oh<|mU<|mU<|nq<|mP<|sr<|mw (vs d ((sha a)++List.replicate j (0:UInt8)).length e) ?_
   refine aw (vs d ((sha a)++List.replicate j (0:UInt8)).length e) ?_
   refine n3<|rt (vs d ((sha a)++List.replicate j (0:UInt8)).length e) ?_
   refine ⟨ab.keep0,?_⟩
   have a5:nc a=((sha a)++List.replicate j (0:UInt8)):=by first|exact qS (by omega)|exact qR (by omega) (by omega) (by omega) (by simp only [List.length_append,List.length_replicate] at *;omega)|exact qQ (by omega) (by omega) (by simp only [List.length_append,List.length_replicate] at *;omega)
   rw [a5]
   exact ⟨_,_,rfl,(mO t (z2 o C)),a4,⟨trivial,trivial⟩⟩
  have aR:=dT x
  refine ct x<|nm<|mP<|ng<|mV ?_
  refine mw (vs d ((sha a)++List.replicate j (0:UInt8)).length e) ?_
  refine ltB ([0]:List UInt8) wN mR ?_
  intro aS aT ax J a6
  have a7:=(mz t J)
  refine apB ((sha a)++List.replicate j (0:UInt8)) ([0]:List UInt8) wN mR a7 (Rd.of_own a6) (z3 Y ac J) ?_
  intro K L aU ad a8 aV a9
  have aA:=(ab.extk J).ext ad (fun k hk=>nT (z2 o C) (nb t k hk).1)
  refine aw (vs K (((sha a)++List.replicate j (0:UInt8))++([0]:List UInt8)).length L) ?_
  refine mW<|mQ ?_
  have ae:((((sha a)++List.replicate j (0:UInt8))++([0]:List UInt8)):List UInt8)=(sha a)++List.replicate (j+1) (0:UInt8):=by rw [List.replicate_succ',List.append_assoc]
  refine nX (w0:=V) [(2,(vs none 0 0)),(3,(.slice K ((sha a)++List.replicate (j+1) (0:UInt8)).length L))] ?_ ?_ ?_
  · exact ⟨rfl,(cA (fun l:List UInt8=>Value.slice K l.length L) ae),trivial⟩
  · exact fun u=>⟨(j+1),u,K,L,rfl,aA,((((Ch.refl (fun k=>g.heap.size≤k) q).ext ac (fun k hk=>hk)).extk J).ext ad (fun k hk=>nT (Nat.le_refl g.heap.size) (nb t k hk).1)),(by omega),(ae ▸ ⟨a8,a9⟩)⟩
  · show 64 - ((sha a)++List.replicate (j+1) (0:UInt8)).length < 64 - ((sha a)++List.replicate j (0:UInt8)).length;simp only [List.length_append,List.length_replicate];omega

theorem yO (d:World) (ac:Value) (a:List UInt8) (a8:pI d ac a) (ad:Value) (b:List UInt8) (a9:pI d ad b) :Fn Tryz.prog 145 #[ac,ad] d (fun v m=>Keep d m∧rr m d.heap.size v (pQ a b)):=by
 obtain ⟨L,M,rfl,ae,aA⟩:=a8
 obtain ⟨o,p,rfl,af,bw⟩:=a9
 refine nu (n:=49) [(vs L a.length M),(vs o b.length p)] Tryz.func145 rfl rfl ?_
 refine sr<|aw (vs none 0 0) ?_
 refine n4<|jT1 [(0,(vs L a.length M)),(1,(vs o b.length p)),(4,(vs none 0 0))] (pQ a b=[]) ?_ fun ah=>?_
 ·intro aB e ai bz
  refine sr<|nF wN rfl rfl mR (fun w=>by kernel_rfl) ?_
  intro aj T aC aD
  have aE:=((Ch.base d).extk ai).extk aC
  refine aw (vs (some aj) 0 0) ?_
  refine n1<|rt (vs (some aj) 0 0) ?_
  refine ⟨aE.keep0,?_⟩
  rw [aB]
  exact ⟨_,_,rfl,(mO aD ai.size),(by simp),⟨trivial,trivial⟩⟩
 refine mw (vs L a.length M) ?_
 refine ln wN mR ae ?_
 refine pu (vb (decide (1048576 < (a.length:Int)))) wN ?_
 refine mw (vb (decide (1048576 < (a.length:Int)))) ?_
 rcases bt (decide (1048576 < (a.length:Int))) with f|f
 ·have b0:=dT f
  iterate 3 refine sk f ?_
  refine pk vT wN f ?_
  refine n2<|ct T1 ?_
  have aF:pQ a b=[]:=by first|exact uo (by omega)|exact un (by omega) (by omega)|exact yy (by omega) (by omega)
  exact wj (ah aF _ (Ch.refl _ _))
 have b1:=dF f
 refine mv (vs o b.length p) (wS f) ?_
 refine ln (wS f) mR af ?_
 refine pu (vb (decide (1048512 < (b.length:Int)))) (wS f) ?_
 refine pf (vb (decide (1048512 < (b.length:Int)))) wN f ?_
 refine n2 ?_
 rcases bt (decide (1048512 < (b.length:Int))) with E|E
 ·have b2:=dT E
  refine ct E ?_
  have aG:pQ a b=[]:=by first|exact uo (by omega)|exact un (by omega) (by omega)|exact yy (by omega) (by omega)
  exact wj (ah aG _ (Ch.refl _ _))
 have b3:=dF E
 refine cf E<|y1<|mw (vs L a.length M) ?_
 refine cl wN (xG d _ a (nH ae aA)) ?_
 rintro _ e ⟨s,⟨t,y,rfl,V,_⟩⟩
 have b4:=rZ a
 refine aw (vs t (nc a).length y) ?_
 refine nx<|nF wN rfl rfl mR (fun w=>by kernel_rfl) ?_
 intro W T h ak
 refine aw (vs (some W) 0 0) ?_
 refine nx<|nF wN rfl rfl mR (fun w=>by kernel_rfl) ?_
 intro X Y j am
 have aH:=(((Ch.base d).extk s).extk h).extk j
 refine aw (vs (some X) 0 0) ?_
 refine n4<|aw (vi 0) ?_
 refine mW<|mP<|ng ?_
 have aI:=(mz ak j)
 have an:([]:List UInt8)=om ((nc a).take 0) 54:=by rfl
 have ao:0=(om ((nc a).take 0) 54).length:=by rw [← an];try (first|rfl|simp only [List.length_set]|simp)
 have ap:([]:List UInt8)=om ((nc a).take 0) 92:=by rfl
 have aq:0=(om ((nc a).take 0) 92).length:=by rw [← ap];try (first|rfl|simp only [List.length_set]|simp)
 refine oa [(1,(vs o b.length p)),(4,(vs none 0 0)),(5,(vs t (nc a).length y)),(6,(.slice (some W) (om ((nc a).take 0) 54).length 0)),(7,(.slice (some X) (om ((nc a).take 0) 92).length 0)),(8,(vi ((0:Nat):Int)))] ⟨rfl,rfl,rfl,rfl,rfl,(cA (Value.int .i64) (show (0:Int)=((0:Nat):Int) by omega)),trivial⟩ (fun e' m=>∃ (i:Nat) (au:Env) (A:Option Addr) (F:Nat) (B:Option Addr) (G:Nat),e'=pt au [(1,(vs o b.length p)),(4,(vs none 0 0)),(5,(vs t (nc a).length y)),(6,(.slice A (om ((nc a).take i) 54).length F)),(7,(.slice B (om ((nc a).take i) 92).length G)),(8,(vi ((i:Nat):Int)))]∧Ch (fun k=>d.heap.size≤k) d m∧Ch (fun k=>e.heap.size≤k) Y m∧i≤64∧(World.ownsRow m e.heap.size 5 1 (.slice A (om ((nc a).take i) 54).length F) (om ((nc a).take i) 54).length ((om ((nc a).take i) 54).map bV)∧(om ((nc a).take i) 54).length≤1073741824)∧(World.ownsRow m T.heap.size 5 1 (.slice B (om ((nc a).take i) 92).length G) (om ((nc a).take i) 92).length ((om ((nc a).take i) 92).map bV)∧(om ((nc a).take i) 92).length≤1073741824)∧NeS A B) (fun e' _=>(64 - (intOf (e' 8))).toNat) ?_ ?_
 ·exact fun u=>⟨0,u,(some W),0,(some X),0,rfl,aH,(Ch.refl (fun k=>e.heap.size≤k) Y),(by omega),⟨(by rw [← ao,← an];exact aI),(by rw [← ao];first|exact (by simp)|(simp only [List.length_append,List.length_take,List.length_replicate];omega))⟩,⟨(by rw [← aq,← ap];exact am),(by rw [← aq];first|exact (by simp)|(simp only [List.length_append,List.length_take,List.length_replicate];omega))⟩,(NeS.lt ak am (Nat.le_refl T.heap.size))⟩
 ·rintro _ aJ ⟨i,au,A,F,B,G,rfl,Z,q,b5,⟨C,b6⟩,⟨D,b7⟩,N⟩
  have b8:=ou ((nc a).take i) 54
  have b9:=ou ((nc a).take i) 92
  have htl:((nc a).take i).length=min i (nc a).length:=List.length_take
  refine nh<|sr<|mw (vi ((i:Nat):Int)) ?_
  refine pu (vb (decide (((i:Nat):Int) < 64))) wN ?_
  refine n2 ?_
  rcases bf (decide (((i:Nat):Int) < 64)) with H|H
  ·have bA:=dF H
   refine cf H<|oh<|mU ?_
   obtain rfl:i=64:=by omega
   refine mU<|nq<|mP<|sr<|mw (vs B (om ((nc a).take 64) 92).length G) ?_
   refine mw (vs A (om ((nc a).take 64) 54).length F) ?_
   refine mw (vs o b.length p) ?_
   refine apB (om ((nc a).take 64) 54) b wN mR C (af.from0 Z) (z3 h j q) ?_
   intro bB bC av O ax aK aL
   have aM:=Z.ext O (fun k hk=>nT s.size (nb C k hk).1)
   have aN:=NeS.app N aK D
   refine cl wN (Bs av _ ((om ((nc a).take 64) 54)++b) (nH (Rd.of_own ax) aL)) ?_
   rintro _ aO ⟨I,⟨bD,bE,rfl,aP,_⟩⟩
   have bF:=tb ((om ((nc a).take 64) 54)++b)
   have aQ:=(mz (gc D O (fun g hg hlt hk=>NeS.no (NeS.symm N) hg hk)) I)
   refine apB (om ((nc a).take 64) 92) (sha ((om ((nc a).take 64) 54)++b)) wN mR aQ (Rd.of_own aP) (z4 j q O I) ?_
   intro bG bH ay az aR aS aT
   have aU:=(aM.extk I).ext az (fun k hk=>nT (z2 s h) (nb D k hk).1)
   have aV:=(mz ax I)
   have bI:=NeS.app (NeS.symm aN) aS aV
   refine cl wN (Bs ay _ ((om ((nc a).take 64) 92)++(sha ((om ((nc a).take 64) 54)++b))) (nH (Rd.of_own aR) aT)) ?_
   rintro _ aW ⟨aX,⟨a0,a1,rfl,aY,aZ,bJ⟩⟩
   have ba:=aU.extk aX
   have bK:=tb ((om ((nc a).take 64) 92)++(sha ((om ((nc a).take 64) 54)++b)))
   refine aw (vs a0 (sha ((om ((nc a).take 64) 92)++(sha ((om ((nc a).take 64) 54)++b)))).length a1) ?_
   refine n3<|rt (vs a0 (sha ((om ((nc a).take 64) 92)++(sha ((om ((nc a).take 64) 54)++b)))).length a1) ?_
   refine ⟨ba.keep0,?_⟩
   have bb:pQ a b=(sha ((om ((nc a).take 64) 92)++(sha ((om ((nc a).take 64) 54)++b)))):=by first|exact uo (by omega)|exact un (by omega) (by omega)|exact yy (by omega) (by omega)
   rw [bb]
   exact ⟨_,_,rfl,(mO aY (z7 s h j q O I az)),aZ,⟨trivial,trivial⟩⟩
  have bL:=dT H
  refine ct H<|nm<|mP<|nh<|ng<|sr<|mw (vs A (om ((nc a).take i) 54).length F) ?_
  refine mw (vs t (nc a).length y) ?_
  refine mw (vi ((i:Nat):Int)) ?_
  have aa:=(gc (mz (mz V h) j) q (fun g hg hlt hk=>by have bc:=(nb V g hg).2;have bd:e.heap.size≤e.heap.size:=(Nat.le_refl e.heap.size);have be:e.heap.size≤g:=hk;omega))
  refine ix wN ((i:Nat):Int) mR (Rd.of_own aa) ?_
  refine eb (x:=(nc a)) i wN pP (Rd.of_own aa) ?_
  refine rC ((nc a).getD i 0) 54 wN rfl rfl (by kernel_rfl) ?_
  refine ltB ([(((nc a).getD i 0)^^^54)]:List UInt8) wN mR ?_
  intro bM bN av r bg
  have bh:=(mz C r)
  refine apB (om ((nc a).take i) 54) ([(((nc a).getD i 0)^^^54)]:List UInt8) wN mR bh (Rd.of_own bg) (z4 h j q r) ?_
  intro P Q aO J bi bj bk
  have bl:=(Z.extk r).ext J (fun k hk=>nT s.size (nb C k hk).1)
  have a2:=(mz D r)
  have a3:=NeS.app N bj a2
  refine aw (vs P ((om ((nc a).take i) 54)++([(((nc a).getD i 0)^^^54)]:List UInt8)).length Q) ?_
  refine mW<|mP<|mV ?_
  refine mw (vs B (om ((nc a).take i) 92).length G) ?_
  refine mw (vs t (nc a).length y) ?_
  refine mw (vi ((i:Nat):Int)) ?_
  have a4:=(gc (mz aa r) J (fun g hg hlt hk=>by have bc:=(nb V g hg).2;have bd:=(nb C g hk).1;have be:=(Nat.le_refl e.heap.size);omega))
  refine ix wN ((i:Nat):Int) mR (Rd.of_own a4) ?_
  refine eb (x:=(nc a)) i wN pP (Rd.of_own a4) ?_
  refine rC ((nc a).getD i 0) 92 wN rfl rfl (by kernel_rfl) ?_
  refine ltB ([(((nc a).getD i 0)^^^92)]:List UInt8) wN mR ?_
  intro bO bP ay K bm
  have bn:=(mz (gc a2 J (fun g hg hlt hk=>NeS.no (NeS.symm N) hg hk)) K)
  refine apB (om ((nc a).take i) 92) ([(((nc a).getD i 0)^^^92)]:List UInt8) wN mR bn (Rd.of_own bm) (z5 j q r J K) ?_
  intro R S aW ab bo bp bq
  have br:=(bl.extk K).ext ab (fun k hk=>nT (z2 s h) (nb D k hk).1)
  have a5:=(mz bi K)
  have bu:=NeS.app (NeS.symm a3) bp a5
  refine aw (vs R ((om ((nc a).take i) 92)++([(((nc a).getD i 0)^^^92)]:List UInt8)).length S) ?_
  refine mW<|mQ<|mP<|mV ?_
  refine mw (vi ((i:Nat):Int)) ?_
  refine ar (((i:Nat):Int)+1) wN ?_
  refine aw (vi (((i:Nat):Int)+1)) ?_
  refine mW ?_
  have bv:=(gc a5 ab (fun g hg hlt hk=>NeS.no a3 hg hk))
  have a6:(((om ((nc a).take i) 54)++([(((nc a).getD i 0)^^^54)]:List UInt8)):List UInt8)=om ((nc a).take (i+1)) 54:=by exact vy (by omega)
  have a7:(((om ((nc a).take i) 92)++([(((nc a).getD i 0)^^^92)]:List UInt8)):List UInt8)=om ((nc a).take (i+1)) 92:=by exact vy (by omega)
  refine nX (w0:=aJ) [(1,(vs o b.length p)),(4,(vs none 0 0)),(5,(vs t (nc a).length y)),(6,(.slice P (om ((nc a).take (i+1)) 54).length Q)),(7,(.slice R (om ((nc a).take (i+1)) 92).length S)),(8,(vi (((i+1):Nat):Int)))] ?_ ?_ ?_
  · exact ⟨rfl,rfl,rfl,(cA (fun l:List UInt8=>Value.slice P l.length Q) a6),(cA (fun l:List UInt8=>Value.slice R l.length S) a7),(cA (Value.int .i64) (show ((((i:Nat):Int)+1):Int)=(((i+1):Nat):Int) by omega)),trivial⟩
  · exact fun u=>⟨(i+1),u,P,Q,R,S,rfl,br,((((((Ch.refl (fun k=>e.heap.size≤k) Y).ext q (fun k hk=>hk)).extk r).ext J (fun k hk=>nT (Nat.le_refl e.heap.size) (nb C k hk).1)).extk K).ext ab (fun k hk=>nT h.size (nb D k hk).1)),(by omega),(a6 ▸ ⟨bv,bk⟩),(a7 ▸ ⟨bo,bq⟩),(NeS.symm bu)⟩
  · show (64 - (((i+1):Nat):Int)).toNat < (64 - ((i:Nat):Int)).toNat;omega

def xp (w:World) (lo:Nat) (v:Value) (x:(List UInt8)×(Bool)):Prop:=∃ (a:Option Addr) (b:Nat),v=.tuple #[.slice a x.1.length b,.bool x.2]∧w.ownsRow lo 5 1 (.slice a x.1.length b) x.1.length (x.1.map bV)∧x.1.length≤1073741824∧Aps [(a,b)]
theorem Ac (e:World) (ac:Value) (b:List UInt8) (a5:pI e ac b) (ad:Value) (a:List UInt8) (a6:pI e ad a) (d:Int) :Fn Tryz.prog 153 #[ac,ad,(vi d)] e (fun v s=>Keep e s∧xp s e.heap.size v (pK b a d)):=by
 obtain ⟨t,x,rfl,ae,a7⟩:=a5
 obtain ⟨y,A,rfl,af,bj⟩:=a6
 refine nu (n:=52) [(vs t b.length x),(vs y a.length A),(vi d)] Tryz.func153 rfl rfl ?_
 refine sr<|aw (vs none 0 0) ?_
 refine aw vF ?_
 refine n4<|jT1 [(0,(vs t b.length x)),(1,(vs y a.length A)),(2,(vi d)),(6,(vs none 0 0)),(7,vF)] (pK b a d=([],false)) ?_ fun S=>?_
 ·intro a8 D ah bk
  refine sr<|nF wN rfl rfl mR (fun w=>by kernel_rfl) ?_
  intro ai aj a9 aA
  have aB:=((Ch.base e).extk ah).extk a9
  refine aw (vs (some ai) 0 0) ?_
  refine aw vF ?_
  refine n1<|rE (.inl rfl) (vs (some ai) 0 0) vF rfl rfl rfl ?_
  refine ⟨aB.keep0,?_⟩
  rw [a8]
  exact ⟨_,_,rfl,(mO aA ah.size),(by simp),⟨trivial,trivial⟩⟩
 refine mw (vi d) ?_
 refine cl wN (pv e d 0 8160) ?_
 rintro _ D ⟨m,rfl⟩
 have T:=(Ch.base e).extk m
 refine pu (vb (!(nB d 0 8160))) wN ?_
 refine mw (vb (!(nB d 0 8160))) ?_
 rcases bf (nB d 0 8160) with h|h
 ·have bl:=og h
  iterate 3 refine sk (cA not h) ?_
  refine pk vT wN (cA not h) ?_
  refine mw vT ?_
  iterate 3 refine sk T1 ?_
  refine pk vT wN T1 ?_
  refine n2<|ct T1 ?_
  have aC:pK b a d=([],false):=by first|exact sB (by omega)|exact sA (by omega) (by omega) (by omega) (by omega) (by omega) (by omega)
  exact wj (S aC _ m)
 have bm:=nS h
 refine mv (vs y a.length A) (wS (cA not h)) ?_
 refine ln (wS (cA not h)) mR (af.from0 T) ?_
 refine pu (vb (decide (100 < (a.length:Int)))) (wS (cA not h)) ?_
 refine pf (vb (decide (100 < (a.length:Int)))) wN (cA not h) ?_
 refine mw (vb (decide (100 < (a.length:Int)))) ?_
 rcases bt (decide (100 < (a.length:Int))) with i|i
 ·have bn:=dT i
  iterate 3 refine sk i ?_
  refine pk vT wN i ?_
  refine n2<|ct T1 ?_
  have aD:pK b a d=([],false):=by first|exact sB (by omega)|exact sA (by omega) (by omega) (by omega) (by omega) (by omega) (by omega)
  exact wj (S aD _ m)
 have bo:=dF i
 refine mv (vs t b.length x) (wS i) ?_
 refine ln (wS i) mR (ae.from0 T) ?_
 refine pu (vb (decide (1048576 < (b.length:Int)))) (wS i) ?_
 refine pf (vb (decide (1048576 < (b.length:Int)))) wN i ?_
 refine n2 ?_
 rcases bt (decide (1048576 < (b.length:Int))) with H|H
 ·have bp:=dT H
  refine ct H ?_
  have aE:pK b a d=([],false):=by first|exact sB (by omega)|exact sA (by omega) (by omega) (by omega) (by omega) (by omega) (by omega)
  exact wj (S aE _ m)
 have bq:=dF H
 refine cf H<|y1<|nF wN rfl rfl mR (fun w=>by kernel_rfl) ?_
 intro V aj B aF
 refine aw (vs (some V) 0 0) ?_
 refine nx<|nF wN rfl rfl mR (fun w=>by kernel_rfl) ?_
 intro W X j aG
 have aH:=(T.extk B).extk j
 refine aw (vs (some W) 0 0) ?_
 refine n4<|aw (vi 1) ?_
 refine mW<|mP<|ng ?_
 have aI:=(mz aF j)
 have ak:([]:List UInt8)=(pZ b a 0).1:=by rfl
 have am:0=((pZ b a 0).1).length:=by rw [← ak];try (first|rfl|simp only [List.length_set]|simp)
 have an:([]:List UInt8)=(pZ b a 0).2:=by rfl
 have ao:0=((pZ b a 0).2).length:=by rw [← an];try (first|rfl|simp only [List.length_set]|simp)
 refine oa [(0,(vs t b.length x)),(1,(vs y a.length A)),(2,(vi d)),(6,(vs none 0 0)),(7,vF),(8,(.slice (some V) ((pZ b a 0).1).length 0)),(9,(.slice (some W) ((pZ b a 0).2).length 0)),(10,(vi (((0:Nat):Int)+1)))] ⟨rfl,rfl,rfl,rfl,rfl,rfl,rfl,(cA (Value.int .i64) (show (1:Int)=(((0:Nat):Int)+1) by omega)),trivial⟩ (fun e' s=>∃ (k:Nat) (ap:Env) (E:Option Addr) (F:Nat) (L:Option Addr) (M:Nat),e'=pt ap [(0,(vs t b.length x)),(1,(vs y a.length A)),(2,(vi d)),(6,(vs none 0 0)),(7,vF),(8,(.slice E ((pZ b a k).1).length F)),(9,(.slice L ((pZ b a k).2).length M)),(10,(vi (((k:Nat):Int)+1)))]∧Ch (fun k=>e.heap.size≤k) e s∧Ch (fun k=>D.heap.size≤k) X s∧32*((k:Nat):Int) < d+32∧(World.ownsRow s D.heap.size 5 1 (.slice E ((pZ b a k).1).length F) ((pZ b a k).1).length (((pZ b a k).1).map bV)∧((pZ b a k).1).length≤1073741824)∧(World.ownsRow s aj.heap.size 5 1 (.slice L ((pZ b a k).2).length M) ((pZ b a k).2).length (((pZ b a k).2).map bV)∧((pZ b a k).2).length≤1073741824)) (fun e' _=>d.toNat - (lenOf (e' 8))) ?_ ?_
 ·exact fun u=>⟨0,u,(some V),0,(some W),0,rfl,aH,(Ch.refl (fun k=>D.heap.size≤k) X),(by omega),⟨(by rw [← am,← ak];exact aI),(by rw [← am];first|exact (by simp)|(simp only [List.length_append,List.length_take,List.length_replicate];omega))⟩,⟨(by rw [← ao,← an];exact aG),(by rw [← ao];first|exact (by simp)|(simp only [List.length_append,List.length_take,List.length_replicate];omega))⟩⟩
 ·rintro _ Y ⟨k,ap,E,F,L,M,rfl,aq,o,br,⟨p,aJ⟩,⟨aK,bu⟩⟩
  have hxl:=tt (prk:=b) (info:=a) (by omega) (by omega) k
  have hxm:=tt (prk:=b) (info:=a) (by omega) (by omega) (k+1)
  refine nh<|sr<|mw (vs E ((pZ b a k).1).length F) ?_
  refine ln wN mR (Rd.of_own p) ?_
  refine mw (vi d) ?_
  refine pu (vb (decide ((((pZ b a k).1).length:Int) < d))) wN ?_
  refine n2 ?_
  rcases bf (decide ((((pZ b a k).1).length:Int) < d)) with I|I
  ·have bv:=dF I
   refine cf I<|oh<|mU<|mU<|nq<|mP<|sr<|nF wN rfl rfl mR (fun w=>by kernel_rfl) ?_
   intro bw aL Z aM
   refine mw (vs E ((pZ b a k).1).length F) ?_
   refine mw (vi d) ?_
   have au:=(mz p Z)
   refine slv (((pZ b a k).1).take ((d).toNat)) 0 ((d).toNat) wN mR (Rd.of_own au) (by first|omega|(simp <;> omega)) (by first|omega|(simp <;> omega)) (by first|rfl|(simp;done)|(rw [List.take_of_length_le (by first|(simp;done)|(simp;omega))])) rfl rfl rfl rfl (.inl ⟨rfl,rfl⟩) (.inr ⟨_,_,_,rfl,rfl,by omega⟩) ?_
   have aN:0≤((d).toNat):=(by first|omega|(simp <;> omega))
   have aO:((d).toNat)≤((pZ b a k).1).length:=(by first|omega|(simp <;> omega))
   refine ap0 (((pZ b a k).1).take ((d).toNat)) wN mR aM (Rd.subV (x':=(((pZ b a k).1).take ((d).toNat))) (Rd.of_own au) aN aO (by first|rfl|(simp;done)|(rw [List.take_of_length_le (by first|(simp;done)|(simp;omega))]))) Z.size ?_
   intro av ax aP aQ aR bz
   have aS:=(aq.extk Z).extk aQ
   refine aw (vs av (((pZ b a k).1).take ((d).toNat)).length ax) ?_
   refine aw vT ?_
   refine n3<|rE (.inl rfl) (vs av (((pZ b a k).1).take ((d).toNat)).length ax) vT rfl rfl rfl ?_
   refine ⟨aS.keep0,?_⟩
   have aT:pK b a d=((((pZ b a k).1).take ((d).toNat)),true):=by first|exact sB (by omega)|exact sA (by omega) (by omega) (by omega) (by omega) (by omega) (by omega)
   rw [aT]
   exact ⟨_,_,rfl,(mO aR (z4 m B j o)),(nT (by simp only [List.length_take,List.length_drop];omega) aJ),⟨trivial,trivial⟩⟩
  have b0:=dT I
  refine ct I<|nm<|mP<|nh<|ng<|sr<|mw (vs t b.length x) ?_
  refine nF wN rfl rfl mR (fun w=>by kernel_rfl) ?_
  intro b1 aL f aU
  refine mw (vs L ((pZ b a k).2).length M) ?_
  have aV:=(mz aK f)
  refine ap0 ((pZ b a k).2) wN mR aU (Rd.of_own aV) f.size ?_
  intro b2 b3 aP q N b4
  have ay:=(aq.extk f).extk q
  refine mw (vs y a.length A) ?_
  refine apB ((pZ b a k).2) a wN mR N (af.from0 ay) (z2 f q) ?_
  intro b5 b6 b7 C O b8 b9
  have aW:=ay.ext C (fun k hk=>nT (z4 m B j o) (nb N k hk).1)
  refine mw (vi (((k:Nat):Int)+1)) ?_
  refine qj (((k:Nat):Int)+1) wN rfl rfl (by kernel_rfl) ?_
  refine ltB ([(by8 (((k:Nat):Int)+1))]:List UInt8) wN mR ?_
  intro bA bB bC r aX
  have aY:=(mz O r)
  refine apB (((pZ b a k).2)++a) ([(by8 (((k:Nat):Int)+1))]:List UInt8) wN mR aY (Rd.of_own aX) (z4 f q C r) ?_
  intro bD bE aZ G ba bF bb
  have az:=(aW.extk r).ext G (fun k hk=>nT (z4 m B j o) (nb O k hk).1)
  refine cl wN (yO aZ _ b (nH (ae.from0 az) a7) _ ((((pZ b a k).2)++a)++([(by8 (((k:Nat):Int)+1))]:List UInt8)) (nH (Rd.of_own ba) bb)) ?_
  rintro _ bG ⟨P,⟨J,K,rfl,aa,bc,bH⟩⟩
  have bI:=rJ b ((((pZ b a k).2)++a)++([(by8 (((k:Nat):Int)+1))]:List UInt8))
  refine aw (vs J (pQ b ((((pZ b a k).2)++a)++([(by8 (((k:Nat):Int)+1))]:List UInt8))).length K) ?_
  refine mW<|mP<|mV ?_
  refine mw (vs E ((pZ b a k).1).length F) ?_
  refine mw (vs J (pQ b ((((pZ b a k).2)++a)++([(by8 (((k:Nat):Int)+1))]:List UInt8))).length K) ?_
  have bd:=(mz (gc (mz (gc (mz (mz p f) q) C (fun g hg hlt hk=>by have a0:=(nb p g hg).2;have a1:=(nb N g hk).1;have a2:=(Nat.le_refl Y.heap.size);omega)) r) G (fun g hg hlt hk=>by have a0:=(nb p g hg).2;have a1:=(nb O g hk).1;have a2:=(Nat.le_refl Y.heap.size);omega)) P)
  refine apB ((pZ b a k).1) (pQ b ((((pZ b a k).2)++a)++([(by8 (((k:Nat):Int)+1))]:List UInt8))) wN mR bd (Rd.of_own aa) (z9 B j o f q C r G P) ?_
  intro Q R bJ ab be bK bg
  have bh:=(az.extk P).ext ab (fun k hk=>nT m.size (nb p k hk).1)
  refine aw (vs Q (((pZ b a k).1)++(pQ b ((((pZ b a k).2)++a)++([(by8 (((k:Nat):Int)+1))]:List UInt8)))).length R) ?_
  refine mW<|mQ<|mP<|mV ?_
  refine mw (vi (((k:Nat):Int)+1)) ?_
  refine ar ((((k:Nat):Int)+1)+1) wN ?_
  refine aw (vi ((((k:Nat):Int)+1)+1)) ?_
  refine mW ?_
  have a3:((((pZ b a k).1)++(pQ b ((((pZ b a k).2)++a)++([(by8 (((k:Nat):Int)+1))]:List UInt8)))):List UInt8)=(pZ b a (k+1)).1:=by exact Cj _ _ _ (by simp [ns])
  have bi:=(gc aa ab (fun g hg hlt hk=>by have a0:=(nb aa g hg).1;have a1:=(nb p g hk).2;have a2:=(z5 f q C r G);omega))
  have a4:((pQ b ((((pZ b a k).2)++a)++([(by8 (((k:Nat):Int)+1))]:List UInt8))):List UInt8)=(pZ b a (k+1)).2:=by exact Ci _ _ _ (by simp [ns])
  refine nX (w0:=Y) [(0,(vs t b.length x)),(1,(vs y a.length A)),(2,(vi d)),(6,(vs none 0 0)),(7,vF),(8,(.slice Q ((pZ b a (k+1)).1).length R)),(9,(.slice J ((pZ b a (k+1)).2).length K)),(10,(vi ((((k+1):Nat):Int)+1)))] ?_ ?_ ?_
  · exact ⟨rfl,rfl,rfl,rfl,rfl,(cA (fun l:List UInt8=>Value.slice Q l.length R) a3),(cA (fun l:List UInt8=>Value.slice J l.length K) a4),(cA (Value.int .i64) (show (((((k:Nat):Int)+1)+1):Int)=((((k+1):Nat):Int)+1) by omega)),trivial⟩
  · exact fun u=>⟨(k+1),u,Q,R,J,K,rfl,bh,(((((((((Ch.refl (fun k=>D.heap.size≤k) X).ext o (fun k hk=>hk)).extk f).extk q).ext C (fun k hk=>nT (z3 B j o) (nb N k hk).1)).extk r).ext G (fun k hk=>nT (z3 B j o) (nb O k hk).1)).extk P).ext ab (fun k hk=>nT (Nat.le_refl D.heap.size) (nb p k hk).1)),(by omega),(a3 ▸ ⟨be,bg⟩),(a4 ▸ ⟨(mO bi (z7 j o f q C r G)),bc⟩)⟩
  · show d.toNat - ((pZ b a (k+1)).1).length < d.toNat - ((pZ b a k).1).length;omega

def R_9 (w:World) (v:Value) (x:(ByteArray)):Prop:=v=.string x
theorem uS (d:World) (g:Value) (b:List UInt8) (o:pI d g b) (h:Value) (a:ByteArray) (p:R_9 d h a) (B:(rT a).length≤100):Fn Tryz.prog 136 #[g,h] d (fun v i=>Keep d i∧rr i d.heap.size v (derive b a)):=by
 obtain ⟨j,k,rfl,q,r⟩:=o
 obtain rfl:=p
 refine nu (n:=15) [(vs j b.length k),(.string a)] Tryz.func136 rfl rfl ?_
 refine sr<|aw (vs none 0 0) ?_
 refine nx<|mw (vs j b.length k) ?_
 refine mw (.string a) ?_
 refine BH a wN rfl rfl rfl rfl Tryz.underlying9 Tryz.underlying22 Tryz.underlying5 (by first|omega|(simp only [yf];decide)) ?_
 intro C D s l t
 have m:=(Ch.base d).extk l
 refine cl wN (Ac s _ b (nH (q.from0 m) r) _ (rT a) (nH t (by first|omega|(simp only [yf];decide))) 32) ?_
 rintro _ E ⟨u,⟨e,f,rfl,w,x,F⟩⟩
 have y:=m.extk u
 have G:=vO b (rT a) 32
 refine mw (.tuple #[(vs e ((pK b (rT a) 32).1).length f),(vb ((pK b (rT a) 32).2))]) ?_
 refine pu (vs e ((pK b (rT a) 32).1).length f) wN ?_
 refine pu (vb ((pK b (rT a) 32).2)) wN ?_
 refine aw (vs e ((pK b (rT a) 32).1).length f) ?_
 refine aw (vb ((pK b (rT a) 32).2)) ?_
 refine nx<|mw (vs e ((pK b (rT a) 32).1).length f) ?_
 refine aw (vs e ((pK b (rT a) 32).1).length f) ?_
 refine n3<|rt (vs e ((pK b (rT a) 32).1).length f) ?_
 refine ⟨y.keep0,?_⟩
 have A:derive b a=(pK b (rT a) 32).1:=by rfl
 rw [A]
 exact ⟨_,_,rfl,(mO w l.size),x,⟨trivial,trivial⟩⟩

theorem sj:∀ w,(sizeOf 4).run Tryz.prog w=.ok 1 w:=fun w=>by kernel_rfl
theorem nG:∀ w,(sizeOf 22).run Tryz.prog w=.ok 1 w:=fun w=>by kernel_rfl
theorem CQ {w:World} {x:ByteArray}:R_9 w (.string x) x:=rfl
theorem yK (C:World) (g:Nat) (ca:Option Addr) (cc:Nat) (cb:List UInt8) (fs:ph C g 110 ca cc cb) (ac:Int) :Fn Tryz.prog 96 #[(vp g 0),(vi ac)] C (fun v m=>∃ x:(PChan),Ch (fun k=>k=g) C m∧ph m g 110 ca cc cb∧CF m C.heap.size v x∧(x.Sn.length≤12)):=by
 obtain ⟨ci,chh,hcb,hcr,hcl,hci,hcn⟩:=fs
 have hgl:=Blk.lt hcb
 refine nu (n:=74) [(vp g 0),(vi ac)] Tryz.func96 rfl rfl ?_
 refine sr<|al tT wN pJ ?_
 intro a5 e1 az b8 i e2
 have e3:=ChG.extk (Ch.refl (fun k=>k=g) C) i
 refine nx<|mw (vi ac) ?_
 refine mw (vp g 0) ?_
 have ft:=(hcb.kp i)
 refine cl wN (oC e1 g ca cc cb (cx ft hcr e3 hcl hcn) 12 (by omega)) ?_
 rintro _ fu ⟨c8,f,⟨jm,jn,fv,jo,jp,jq,jr⟩,⟨js,jt,rfl,e4,fw,ju⟩,jv⟩
 have e5:=ChG.ext e3 f iL
 refine mw (vp g 0) ?_
 refine cl wN (oC fu g ca cc cb (cx fv hcr e5 hcl hcn) 32 (by omega)) ?_
 rintro _ bL ⟨c9,d,⟨jw,jx,fx,jy,jz,j0,j1⟩,⟨j2,j3,rfl,fy,fz,j4⟩,j5⟩
 have f0:=ChG.ext e5 d iL
 have f3:=(gc e4 d (ne1 e4 (nL hgl i.size)))
 obtain ⟨a,e6⟩:∃ y,s_ChanNew ac (c8) (c9)=y:=⟨_,rfl⟩
 have e7:=yP bL ac _ (c8) (nH (Rd.of_own f3) fw) _ (c9) (nH (Rd.of_own fy) fz)
 rw [e6] at e7
 refine cl wN e7 ?_
 rintro _ ap ⟨l,⟨bM,bN,bO,bP,dK,dL,bQ,bR,bS,bT,bU,bW,rfl,bX,e8,bY,e9,eA,f4,bZ,eB,cd,eC,ce,eD,ae⟩⟩
 have f5:=ChG.extk f0 l
 have f6:=(nT (By ac (c8) (c9)) (by omega):(s_ChanNew ac (c8) (c9)).Sn.length≤12)
 try rw [e6] at f6
 refine al tT wN pJ ?_
 intro p j6 r b9 ah f7
 have f8:=ChG.extk f5 ah
 refine sv (oj (a) bM bN bO bP dK dL bQ bR bS bT bU bW) wN mX f7 ?_
 intro j7 V f9 j8
 have fA:=ChG.ext f8 V (fun k hk=>.inr (by subst hk;exact nT (z4 i f d l) r))
 refine nx<|mw (vp g 0) ?_
 refine ltI ([0,0,3,281474976709656,281474976710656]:List Int) wN nf ?_
 intro j9 jA fB W eE
 have eF:=ChG.extk fA W
 have fC:=((((fx.kp l).kp ah).ch V (nN (nL hgl (nT (z4 i f d l) r)))).kp W)
 refine cl wN (oz fB g ca cc cb (cx fC hcr eF hcl hcn) _ ([0,0,3,281474976709656,281474976710656]:List Int) ⟨_,_,rfl,(Rd.of_own eE),(by simp),(fun _ z hz=>by have dM:=(nb eE z.block (by rw [hz];rfl)).1;have eG:=nL hgl (z6 i f d l ah V);omega)⟩ (by simp)) ?_
 rintro _ jC ⟨A,Z,⟨jD,jE,fD,jF,jG,jH,jI⟩,rfl,fE⟩
 have fF:=ChG.ext eF Z iL
 have q99m:A=0∨A=0∨A=3∨A=281474976709656∨A=281474976710656:=by simpa using fE
 refine pu (vp p 2) wN ?_
 refine pu (vp p 4) wN ?_
 have fG:=((f9.kp W).ch Z (Ne.symm (nN (nL hgl (nT (z4 i f d l) r)))))
 refine sf (vi (A)) wN nV fG ?_
 intro cC aa eH jJ
 have eI:=ChG.ext fF aa (fun k hk=>.inr (by subst hk;exact nT (z4 i f d l) r))
 refine n4<|jM1 (fun e' m=>∃ (t5c:Int) (cg:List Int) (eJ:Env) (G:Option Addr) (H:Nat) (I:Option Addr) (J:Nat) (K:Option Addr) (L:Nat) (M:Option Addr) (O:Nat) (P:Option Addr) (Q:Nat) (R:Option Addr) (S:Nat),e'=pt eJ [(0,(vp g 0)),(1,(vi ac)),(4,(vp a5 0)),(5,(vp p 0))]∧Ch (fun k=>k=g) C m∧Ch (fun k=>k=g∨ap.heap.size≤k) cC m∧(World.ownsRow m C.heap.size 5 1 (.slice G ((a).Sn).length H) ((a).Sn).length (((a).Sn).map bV)∧((a).Sn).length≤1073741824)∧(World.ownsRow m C.heap.size 5 1 (.slice I (((a).Cur).Key).length J) (((a).Cur).Key).length ((((a).Cur).Key).map bV)∧(((a).Cur).Key).length≤1073741824)∧(World.ownsRow m C.heap.size 3 1 (.slice K (cg).length L) (cg).length ((cg).map iV)∧(cg).length≤1073741824)∧(World.ownsRow m C.heap.size 5 1 (.slice M (((a).Old).Key).length O) (((a).Old).Key).length ((((a).Old).Key).map bV)∧(((a).Old).Key).length≤1073741824)∧(World.ownsRow m C.heap.size 3 1 (.slice P ((((a).Old).Win).Bits).length Q) ((((a).Old).Win).Bits).length (((((a).Old).Win).Bits).map iV)∧((((a).Old).Win).Bits).length≤1073741824)∧(World.ownsRow m C.heap.size 5 1 (.slice R ((a).Next).length S) ((a).Next).length (((a).Next).map bV)∧((a).Next).length≤1073741824)∧Blk m p 38 [(vi ((a).Role)),(.slice G ((a).Sn).length H),(vi (((a).Cur).N)),(.slice I (((a).Cur).Key).length J),(vi (A)),(vi t5c),(.slice K (cg).length L),(vi (((a).Old).N)),(.slice M (((a).Old).Key).length O),(vi (((a).Old).Seq)),(vi ((((a).Old).Win).Top)),(.slice P ((((a).Old).Win).Bits).length Q),(vb ((a).HasOld)),(vi ((a).Until)),(.slice R ((a).Next).length S)]∧Ap (G,H) (I,J)∧Ap (G,H) (K,L)∧Ap (G,H) (M,O)∧Ap (G,H) (P,Q)∧Ap (G,H) (R,S)∧Ap (I,J) (K,L)∧Ap (I,J) (M,O)∧Ap (I,J) (P,Q)∧Ap (I,J) (R,S)∧Ap (K,L) (M,O)∧Ap (K,L) (P,Q)∧Ap (K,L) (R,S)∧Ap (M,O) (P,Q)∧Ap (M,O) (R,S)∧Ap (P,Q) (R,S)∧ph m g 110 ca cc cb) ?_ fun eK=>?_
 ·rintro _ dN ⟨ad,s,eJ,a6,a7,am,an,a0,a1,cj,ck,cm,cn,aD,aE,rfl,eL,aq,⟨X,bk⟩,⟨ai,aO⟩,⟨Y,bl⟩,⟨aG,cD⟩,⟨aH,cE⟩,⟨af,bA⟩,dO,bm,bn,cF,cG,bB,bo,cH,cI,bC,cJ,cK,bD,cL,dP,dQ,⟨jK,jL,fH,jM,jN,jO,jP⟩⟩
  refine nh<|sr<|mw (vp g 0) ?_
  refine cl wN (pV dN g ca cc cb (cx fH hcr eL hcl hcn) 2) ?_
  rintro _ bp ⟨fI,j,⟨jQ,jR,cM,jS,jT,jU,jV⟩,rfl,jW⟩
  have bq:=ChG.ext eL j iL
  refine n2 ?_
  rcases bf fI with dR|dR
  ·refine cf dR<|y2<|jM1 (fun e' m=>∃ (aI:List UInt8) (eM:Env) (G:Option Addr) (H:Nat) (I:Option Addr) (J:Nat) (K:Option Addr) (L:Nat) (M:Option Addr) (O:Nat) (P:Option Addr) (Q:Nat) (R:Option Addr) (S:Nat),e'=pt eM [(4,(vp a5 0)),(5,(vp p 0))]∧Ch (fun k=>k=g) C m∧Ch (fun k=>k=g∨ap.heap.size≤k) bp m∧(World.ownsRow m C.heap.size 5 1 (.slice G (((a).Sn)).length H) (((a).Sn)).length ((((a).Sn)).map bV)∧(((a).Sn)).length≤1073741824)∧(World.ownsRow m C.heap.size 5 1 (.slice I ((((a).Cur).Key)).length J) ((((a).Cur).Key)).length (((((a).Cur).Key)).map bV)∧((((a).Cur).Key)).length≤1073741824)∧(World.ownsRow m C.heap.size 3 1 (.slice K (s).length L) (s).length ((s).map iV)∧(s).length≤1073741824)∧(World.ownsRow m C.heap.size 5 1 (.slice M ((((a).Old).Key)).length O) ((((a).Old).Key)).length (((((a).Old).Key)).map bV)∧((((a).Old).Key)).length≤1073741824)∧(World.ownsRow m C.heap.size 3 1 (.slice P (((((a).Old).Win).Bits)).length Q) (((((a).Old).Win).Bits)).length ((((((a).Old).Win).Bits)).map iV)∧(((((a).Old).Win).Bits)).length≤1073741824)∧(World.ownsRow m C.heap.size 5 1 (.slice R (aI).length S) (aI).length ((aI).map bV)∧(aI).length≤1073741824)∧Blk m p 38 [(vi ((a).Role)),(.slice G (((a).Sn)).length H),(vi (((a).Cur).N)),(.slice I ((((a).Cur).Key)).length J),(vi (A)),(vi ad),(.slice K (s).length L),(vi (((a).Old).N)),(.slice M ((((a).Old).Key)).length O),(vi (((a).Old).Seq)),(vi ((((a).Old).Win).Top)),(.slice P (((((a).Old).Win).Bits)).length Q),(vb ((a).HasOld)),(vi ((a).Until)),(.slice R (aI).length S)]∧Ap (G,H) (I,J)∧Ap (G,H) (K,L)∧Ap (G,H) (M,O)∧Ap (G,H) (P,Q)∧Ap (G,H) (R,S)∧Ap (I,J) (K,L)∧Ap (I,J) (M,O)∧Ap (I,J) (P,Q)∧Ap (I,J) (R,S)∧Ap (K,L) (M,O)∧Ap (K,L) (P,Q)∧Ap (K,L) (R,S)∧Ap (M,O) (P,Q)∧Ap (M,O) (R,S)∧Ap (P,Q) (R,S)∧ph m g 110 ca cc cb) ?_ fun cN=>?_
   ·rintro _ cO ⟨co,eM,cP,cQ,cR,cS,cT,cU,cV,cW,cX,cY,cZ,da,rfl,fJ,fK,⟨fL,fM⟩,⟨fN,fO⟩,⟨fP,fQ⟩,⟨fR,fS⟩,⟨fT,fU⟩,⟨fV,fW⟩,fX,fY,fZ,ga,gb,gd,ge,gf,gg,gh,gi,gj,gk,gl,gm,gn,⟨jX,jY,gp,jZ,ka,kb,kc⟩⟩
    refine sr<|lN (oj {(a) with Cur:={((a).Cur) with Seq:=(A),Win:={Top:=ad,Bits:=s:PWin}:PEp},Next:=co:PChan} cP cQ cR cS cT cU cV cW cX cY cZ da) wN nj mX fX ?_
    have br:=(((((((((((e2.ch f (Ne.symm (nN (nL hgl (az))))).ch d (Ne.symm (nN (nL hgl (az))))).kp l).kp ah).ch V (nN (nL b8 (nT (z3 f d l) r)))).kp W).ch Z (Ne.symm (nN (nL hgl (az))))).ch aa (nN (nL b8 (nT (z3 f d l) r)))).ch aq (fun h=>Or.elim h (Ne.symm (nN (nL hgl (az)))) (Nat.not_le.2 (nL b8 (z3 f d l))))).ch j (Ne.symm (nN (nL hgl (az))))).ch fK (fun h=>Or.elim h (Ne.symm (nN (nL hgl (az)))) (Nat.not_le.2 (nL b8 (z3 f d l)))))
    refine sv (oj {(a) with Cur:={((a).Cur) with Seq:=(A),Win:={Top:=ad,Bits:=s:PWin}:PEp},Next:=co:PChan} cP cQ cR cS cT cU cV cW cX cY cZ da) wN mX br ?_
    intro db ba gr kd
    have eN:=ChG.ext fJ ba (fun k hk=>.inr (by subst hk;exact az))
    refine n3 ?_
    have gs:=(ny fL br (by decide) ba)
    have gt:=(ny fN br (by decide) ba)
    have gu:=(ny fP br (by decide) ba)
    have gv:=(ny fR br (by decide) ba)
    have gw:=(ny fT br (by decide) ba)
    have gx:=(ny fV br (by decide) ba)
    refine rc (oj {(a) with Cur:={((a).Cur) with Seq:=(A),Win:={Top:=ad,Bits:=s:PWin}:PEp},Next:=co:PChan} cP cQ cR cS cT cU cV cW cX cY cZ da) gr nj mX ?_
    have gy:=(gp.ch ba (nN (nL hgl (az))))
    exact ⟨{(a) with Cur:={((a).Cur) with Seq:=(A),Win:={Top:=ad,Bits:=s:PWin}:PEp},Next:=co:PChan},eN,(cx gy hcr eN hcl hcn),⟨_,_,_,_,_,_,_,_,_,_,_,_,rfl,gs,fM,gt,fO,gu,fQ,gv,fS,gw,fU,gx,fW,⟨⟨fY,⟨fZ,⟨ga,⟨gb,⟨gd,trivial⟩⟩⟩⟩⟩,⟨⟨ge,⟨gf,⟨gg,⟨gh,trivial⟩⟩⟩⟩,⟨⟨gi,⟨gj,⟨gk,trivial⟩⟩⟩,⟨⟨gl,⟨gm,trivial⟩⟩,⟨⟨gn,trivial⟩,⟨trivial,trivial⟩⟩⟩⟩⟩⟩⟩,(by assumption)⟩
   refine mw (vi ac) ?_
   refine pu (vb (decide (ac=0))) wN ?_
   refine mw (vb (decide (ac=0))) ?_
   rcases bf (decide (ac=0)) with aK|aK
   ·have ke:=dF aK
    iterate 4 refine sk aK ?_
    refine pf vF wN aK ?_
    refine mw vF ?_
    iterate 2 refine sk F1 ?_
    refine pf vF wN F1 ?_
    refine n2<|cf F1<|nm<|mP ?_
    have gz:=(gc X j (ne1 X (hgl)))
    have g0:=(gc ai j (ne1 ai (hgl)))
    have g1:=(gc Y j (ne1 Y (hgl)))
    have g2:=(gc aG j (ne1 aG (hgl)))
    have g3:=(gc aH j (ne1 aH (hgl)))
    have g4:=(gc af j (ne1 af (hgl)))
    have g5:=(dO.ch j (Ne.symm (nN (nL hgl (nT (z4 i f d l) r)))))
    exact oq [(4,(vp a5 0)),(5,(vp p 0))] ⟨rfl,rfl,trivial⟩ fun u=>cN _ _ ⟨((a).Next),u,a6,a7,am,an,a0,a1,cj,ck,cm,cn,aD,aE,rfl,bq,(Ch.refl (fun k=>k=g∨ap.heap.size≤k) bp),⟨gz,bk⟩,⟨g0,aO⟩,⟨g1,bl⟩,⟨g2,cD⟩,⟨g3,cE⟩,⟨g4,bA⟩,g5,bm,bn,cF,cG,bB,bo,cH,cI,bC,cJ,cK,bD,cL,dP,dQ,(cx cM hcr bq hcl hcn)⟩
   have kf:=dT aK
   refine pu (vp p 2) (wS aK) ?_
   refine pu (vp p 2) (wS aK) ?_
   have dc:=(dO.ch j (Ne.symm (nN (nL hgl (nT (z4 i f d l) r)))))
   refine ld (vi (((a).Cur).N)) (wS aK) mT dc ?_
   refine pu (vb (decide (((a).Cur).N < 4294967295))) (wS aK) ?_
   refine pk (vb (decide (((a).Cur).N < 4294967295))) wN aK ?_
   refine mw (vb (decide (((a).Cur).N < 4294967295))) ?_
   rcases bf (decide (((a).Cur).N < 4294967295)) with bb|bb
   ·have kg:=dF bb
    iterate 2 refine sk bb ?_
    refine pf vF wN bb ?_
    refine n2<|cf F1<|nm<|mP ?_
    have g6:=(gc X j (ne1 X (hgl)))
    have g7:=(gc ai j (ne1 ai (hgl)))
    have g8:=(gc Y j (ne1 Y (hgl)))
    have g9:=(gc aG j (ne1 aG (hgl)))
    have gA:=(gc aH j (ne1 aH (hgl)))
    have gB:=(gc af j (ne1 af (hgl)))
    exact oq [(4,(vp a5 0)),(5,(vp p 0))] ⟨rfl,rfl,trivial⟩ fun u=>cN _ _ ⟨((a).Next),u,a6,a7,am,an,a0,a1,cj,ck,cm,cn,aD,aE,rfl,bq,(Ch.refl (fun k=>k=g∨ap.heap.size≤k) bp),⟨g6,bk⟩,⟨g7,aO⟩,⟨g8,bl⟩,⟨g9,cD⟩,⟨gA,cE⟩,⟨gB,bA⟩,dc,bm,bn,cF,cG,bB,bo,cH,cI,bC,cJ,cK,bD,cL,dP,dQ,(cx cM hcr bq hcl hcn)⟩
   have kh:=dT bb
   refine mv (vp g 0) (wS bb) ?_
   refine cl (wS bb) (pV bp g ca cc cb (cx cM hcr bq hcl hcn) 2) ?_
   rintro _ cO ⟨eO,aj,⟨ki,kj,eP,kk,kl,km,kn⟩,rfl,ko⟩
   have dS:=ChG.ext bq aj iL
   refine pk (vb (eO)) wN bb ?_
   refine n2 ?_
   rcases bf eO with dU|dU
   ·refine cf dU<|nm<|mP ?_
    have gC:=(gc (gc X j (ne1 X (hgl))) aj (ne1 X (hgl)))
    have gD:=(gc (gc ai j (ne1 ai (hgl))) aj (ne1 ai (hgl)))
    have gE:=(gc (gc Y j (ne1 Y (hgl))) aj (ne1 Y (hgl)))
    have gF:=(gc (gc aG j (ne1 aG (hgl))) aj (ne1 aG (hgl)))
    have gG:=(gc (gc aH j (ne1 aH (hgl))) aj (ne1 aH (hgl)))
    have gH:=(gc (gc af j (ne1 af (hgl))) aj (ne1 af (hgl)))
    have gI:=(dc.ch aj (Ne.symm (nN (nL hgl (nT (z4 i f d l) r)))))
    exact oq [(4,(vp a5 0)),(5,(vp p 0))] ⟨rfl,rfl,trivial⟩ fun u=>cN _ _ ⟨((a).Next),u,a6,a7,am,an,a0,a1,cj,ck,cm,cn,aD,aE,rfl,dS,(ChO.ext (Ch.refl (fun k=>k=g∨ap.heap.size≤k) bp) aj iL),⟨gC,bk⟩,⟨gD,aO⟩,⟨gE,bl⟩,⟨gF,cD⟩,⟨gG,cE⟩,⟨gH,bA⟩,gI,bm,bn,cF,cG,bB,bo,cH,cI,bC,cJ,cK,bD,cL,dP,dQ,(cx eP hcr dS hcl hcn)⟩
   refine ct dU<|mV ?_
   refine pu (vp p 2) wN ?_
   refine pu (vp p 3) wN ?_
   have eQ:=(dc.ch aj (Ne.symm (nN (nL hgl (nT (z4 i f d l) r)))))
   refine ld (vs am (((a).Cur).Key).length an) wN nd eQ ?_
   have eR:=(gc (gc ai j (ne1 ai (hgl))) aj (ne1 ai (hgl)))
   refine cl wN (uS cO _ (((a).Cur).Key) (nH (Rd.of_own eR) aO) _ (ByteArray.mk ([114,101,107,101,121]:List UInt8).toArray) (CQ) (by first|omega|decide)) ?_
   rintro _ db ⟨aP,⟨dd,de,rfl,bu,gJ,kq⟩⟩
   have gK:=ChG.extk dS aP
   have kr:=tK (((a).Cur).Key) (ByteArray.mk ([114,101,107,101,121]:List UInt8).toArray)
   refine pu (vp p 14) wN ?_
   have bE:=(eQ.kp aP)
   refine sf (vs dd (derive (((a).Cur).Key) (ByteArray.mk ([114,101,107,101,121]:List UInt8).toArray)).length de) wN nG bE ?_
   intro aQ aR gL ks
   have eS:=ChG.ext gK aR (fun k hk=>.inr (by subst hk;exact nT (z4 i f d l) r))
   refine n2 ?_
   have gM:=(ny (mz (gc (gc X j (ne1 X (hgl))) aj (ne1 X (hgl))) aP) bE (by decide) aR)
   have gN:=(ny (mz eR aP) bE (by decide) aR)
   have gO:=(ny (mz (gc (gc Y j (ne1 Y (hgl))) aj (ne1 Y (hgl))) aP) bE (by decide) aR)
   have gP:=(ny (mz (gc (gc aG j (ne1 aG (hgl))) aj (ne1 aG (hgl))) aP) bE (by decide) aR)
   have gQ:=(ny (mz (gc (gc aH j (ne1 aH (hgl))) aj (ne1 aH (hgl))) aP) bE (by decide) aR)
   have gR:=(gc bu aR (ne1 bu (nL b9 (z7 V W Z aa aq j aj))))
   have gS:=((eP.kp aP).ch aR (nN (nL hgl (nT (z4 i f d l) r))))
   exact oq [(4,(vp a5 0)),(5,(vp p 0))] ⟨rfl,rfl,trivial⟩ fun u=>cN _ _ ⟨(derive (((a).Cur).Key) (ByteArray.mk ([114,101,107,101,121]:List UInt8).toArray)),u,a6,a7,am,an,a0,a1,cj,ck,cm,cn,dd,de,rfl,eS,(ChO.ext (ChO.extk (ChO.ext (Ch.refl (fun k=>k=g∨ap.heap.size≤k) bp) aj iL) aP) aR (fun k hk=>.inr (by subst hk;exact r))),⟨gM,bk⟩,⟨gN,aO⟩,⟨gO,bl⟩,⟨gP,cD⟩,⟨gQ,cE⟩,⟨(mO gR (z12 i f d l ah V W Z aa aq j aj)),gJ⟩,gL,bm,bn,cF,cG,(Ap.lt X bu (z2 j aj)),bo,cH,cI,(Ap.lt ai bu (z2 j aj)),cJ,cK,(Ap.lt Y bu (z2 j aj)),cL,(Ap.lt aG bu (z2 j aj)),(Ap.lt aH bu (z2 j aj)),(cx gS hcr eS hcl hcn)⟩
  refine ct dR<|sr<|pu (vp p 2) wN ?_
  have aF:=(dO.ch j (Ne.symm (nN (nL hgl (nT (z4 i f d l) r)))))
  refine lN (oi {((a).Cur) with Seq:=(A),Win:={Top:=ad,Bits:=s:PWin}:PEp} am an a0 a1) wN nv mY aF ?_
  refine pu (vp p 7) wN ?_
  refine st (va (oi {((a).Cur) with Seq:=(A),Win:={Top:=ad,Bits:=s:PWin}:PEp} am an a0 a1)) (oi {((a).Cur) with Seq:=(A),Win:={Top:=ad,Bits:=s:PWin}:PEp} am an a0 a1) [(vi ((a).Role)),(vs a6 ((a).Sn).length a7),(vi (((a).Cur).N)),(vs am (((a).Cur).Key).length an),(vi (A)),(vi ad),(vs a0 s.length a1),(vi (((a).Cur).N)),(vs am (((a).Cur).Key).length an),(vi (A)),(vi ad),(vs a0 s.length a1),(vb ((a).HasOld)),(vi ((a).Until)),(vs aD ((a).Next).length aE)] wN mY aF ?_
  intro cO D aJ kt
  have gT:=ChG.ext bq D (fun k hk=>.inr (by subst hk;exact nT (z4 i f d l) r))
  refine nx<|pu (vp p 12) wN ?_
  refine sf (vb true) wN sj aJ ?_
  intro db F eT ku
  have dV:=ChG.ext gT F (fun k hk=>.inr (by subst hk;exact nT (z4 i f d l) r))
  refine mW<|mP<|nh ?_
  have gU:=((cM.ch D (nN (nL hgl (nT (z4 i f d l) r)))).ch F (nN (nL hgl (nT (z4 i f d l) r))))
  refine ob ([(29,[],[],(fun _ v _=>v=(vp g 0))),(30,[],[],(fun _ v w=>∃ (dW:Option Addr) (dX:Nat),v=.slice dW ([1,1,2,4294967295]:List Int).length dX∧w.ownsRow db.heap.size 3 1 (.slice dW ([1,1,2,4294967295]:List Int).length dX) ([1,1,2,4294967295]:List Int).length (([1,1,2,4294967295]:List Int).map iV)∧([1,1,2,4294967295]:List Int).length≤1073741824∧Aps [(dW,dX)])),(31,[],[0,1],(fun _ v _=>∃ aL:Int,v=(vi aL)∧aL ∈ ([1,1,2,4294967295]:List Int))),(32,[],[],(fun _ v _=>v=(vp p 7))),(33,[],[3],(fun _ v _=>v=(vp p 8))),(34,[],[3,4],(fun _ v _=>v=(vs am (((a).Cur).Key).length an)))]:GV) (fun lf m=>Ch (fun k=>k=g) db m∧ph m g 110 ca cc cb) [(2,fun w m=>Ch (fun k=>k=g) w m∧(ph w g 110 ca cc cb→ph m g 110 ca cc cb))] oM rfl (by kernel_rfl) (by kernel_rfl) ?_ (fun _ _ h=>⟨h.to _,ph.kp (cx gU hcr dV hcl hcn) h⟩) (fun _ _ _ _ h mo k=>by obtain ⟨hc,hcur⟩:=h;exact ⟨hc.comp k (fun _ _ q=>q.elim),hcur.kp k⟩) ⟨(fun _ _ w m h mo hj t=>by obtain ⟨hc,hcur⟩:=h;exact ⟨hc.comp t.1 (fun _ _ q=>q),t.2 hcur⟩),trivial⟩ ?_ ?_ ?_
  ·exact ⟨hV,hE,⟨(fun e v w e1 h hk=>by obtain ⟨dY,dZ,he,df,ea,hap⟩:=h;exact ⟨dY,dZ,he,mz df hk,ea,hap⟩),hE,⟨hV,hE,⟨hV,hE,⟨hV,hE,⟨hV,hE,trivial⟩⟩⟩⟩⟩⟩
  ·exact ⟨⟨.inr hV,⟨.inr (fun e v wX wY h ht=>by obtain ⟨dY,dZ,he,df,ea,hap⟩:=h;exact ⟨dY,dZ,he,gc df ht.1 (fun gq hg _ hk=>by have dM:=(nb df gq hg).1;have kv:gq=g:=hk;have kx:=(nL hgl (nT (z12 i f d l ah V W Z aa aq j D) F.size));omega),ea,hap⟩),⟨.inl rfl,⟨.inr hV,⟨.inr hV,⟨.inr hV,trivial⟩⟩⟩⟩⟩⟩,trivial⟩
  ·refine ⟨?_,⟨?_,⟨?_,⟨?_,⟨?_,⟨?_,trivial⟩⟩⟩⟩⟩⟩
   ·rintro lf aQ ⟨ky,⟨kz,k1,k2,k3,k4,k5,k6⟩⟩ ⟨k7,-⟩
    rintro _ _ _ _ _ _
    refine sw<|mw (vp g 0) ?_
    exact f1
   ·rintro lf aQ ⟨gV,⟨k8,k9,kA,kB,kC,kD,kE⟩⟩ ⟨kF,-⟩
    rintro _ _ _ _ _ _
    refine sw<|ltI ([1,1,2,4294967295]:List Int) wN nf ?_
    intro kG kH aS gW gX
    exact nK gW ⟨_,_,rfl,(mO gX gV.size),(by simp),⟨trivial,trivial⟩⟩
   ·rintro lf aQ ⟨gY,⟨kI,kJ,gZ,kK,kL,kM,kN⟩⟩ ⟨kO,-⟩
    have eU:=ChG.ext dV gY iL
    rintro _ rfl _ ⟨kP,kQ,rfl,eV,ha,-⟩ _ _ _ _
    refine sw<|cl wN (oz aQ g ca cc cb (cx gZ hcr eU hcl hcn) _ ([1,1,2,4294967295]:List Int) ⟨_,_,rfl,(Rd.of_own eV),ha,(fun _ z hz=>by have dM:=(nb eV z.block (by rw [hz];rfl)).1;have eG:=nL hgl (nT (z12 i f d l ah V W Z aa aq j D) F.size);omega)⟩ (by simp)) ?_
    rintro _ aS ⟨dg,eW,⟨kR,kS,hb,kT,kU,kV,kW⟩,rfl,eX⟩
    have hd:=ChG.ext eU eW iL
    have q293m:dg=1∨dg=1∨dg=2∨dg=4294967295:=by simpa using eX
    exact nK ⟨eW,fun _=>(cx hb hcr hd hcl hcn)⟩ ⟨_,rfl,eX⟩
   ·rintro lf aQ ⟨kX,⟨kY,kZ,la,lb,lc,lg,lh⟩⟩ ⟨li,-⟩
    rintro _ _ _ _ _ _
    refine sw<|pu (vp p 7) wN ?_
    exact f1
   ·rintro lf aQ ⟨lj,⟨lk,ll,lm,lo,lp,lq,lr⟩⟩ ⟨ls,-⟩
    rintro _ _ _ _ rfl _ _
    refine sw<|pu (vp p 8) wN ?_
    exact f1
   ·rintro lf aQ ⟨hf,⟨lu,lv,lw,lx,ly,lz,l0⟩⟩ ⟨l1,-⟩
    rintro _ _ _ _ rfl _ rfl _
    refine sw ?_
    have hh:=(eT.ch hf (Ne.symm (nN (nL hgl (nT (z4 i f d l) r)))))
    refine ld (vs am (((a).Cur).Key).length an) wN nd hh ?_
    exact f1
  ·rintro lf aQ ⟨T,⟨l2,l3,hi,l4,l5,l6,l7⟩⟩
   have hl:=ChG.ext dV T iL
   rintro _ rfl _ ⟨l8,l9,rfl,lA,lB,-⟩ _ ⟨aL,rfl,hm⟩
   have q348m:aL=1∨aL=1∨aL=2∨aL=4294967295:=by simpa using hm
   rintro _ rfl _ rfl _ rfl
   refine sw ?_
   have dh:=(gc (ny (ny (gc ai j (ne1 ai (hgl))) aF (by decide) D) aJ (by decide) F) T (ne1 ai (hgl)))
   refine cl wN (uS aQ _ (((a).Cur).Key) (nH (Rd.of_own dh) aO) _ (ByteArray.mk ([114,101,107,101,121]:List UInt8).toArray) (CQ) (by first|omega|decide)) ?_
   rintro _ aS ⟨B,⟨lC,lD,rfl,hn,ho,lE⟩⟩
   have hp:=ChG.extk hl B
   have lF:=tK (((a).Cur).Key) (ByteArray.mk ([114,101,107,101,121]:List UInt8).toArray)
   obtain ⟨b,eY⟩:∃ y,s_EpNew aL (derive (((a).Cur).Key) (ByteArray.mk ([114,101,107,101,121]:List UInt8).toArray))=y:=⟨_,rfl⟩
   have eZ:=tM aS aL _ (derive (((a).Cur).Key) (ByteArray.mk ([114,101,107,101,121]:List UInt8).toArray)) (nH (Rd.of_own hn) ho)
   rw [eY] at eZ
   refine cl wN eZ ?_
   rintro _ bF ⟨a2,⟨aT,aU,aV,aW,rfl,a3,ec,a4,ed,ee⟩⟩
   have hq:=ChG.extk hp a2
   have hr:=Bk aL (derive (((a).Cur).Key) (ByteArray.mk ([114,101,107,101,121]:List UInt8).toArray))
   try rw [eY] at hr
   refine pu (vp p 2) wN ?_
   have aB:=(((eT.ch T (Ne.symm (nN (nL hgl (nT (z4 i f d l) r))))).kp B).kp a2)
   refine st (va (oi (b) aT aU aV aW)) (oi (b) aT aU aV aW) (oj {(a) with Cur:=(b),Old:={((a).Cur) with Seq:=(A),Win:={Top:=ad,Bits:=s:PWin}:PEp},HasOld:=true:PChan} a6 a7 aT aU aV aW am an a0 a1 aD aE) wN mY aB ?_
   intro lG au a8 lH
   have hs:=ChG.ext hq au (fun k hk=>.inr (by subst hk;exact nT (z4 i f d l) r))
   refine nx<|pu (vp p 2) wN ?_
   refine pu (vp p 2) wN ?_
   refine ld (vi ((b).N)) wN mT a8 ?_
   refine ar (((b).N) - 1) wN ?_
   refine pu (vp p 7) wN ?_
   refine pu (vp p 7) wN ?_
   refine sf (vi (((b).N) - 1)) wN nV a8 ?_
   intro lI av hu lJ
   have hv:=ChG.ext hs av (fun k hk=>.inr (by subst hk;exact nT (z4 i f d l) r))
   refine nx<|mw (vp g 0) ?_
   refine ltI ([(-1),0,5,7,1000005]:List Int) wN nf ?_
   intro lK lL hw ax fa
   have fb:=ChG.extk hv ax
   have hx:=(((((hi.kp B).kp a2).ch au (nN (nL hgl (nT (z4 i f d l) r)))).ch av (nN (nL hgl (nT (z4 i f d l) r)))).kp ax)
   refine cl wN (oz hw g ca cc cb (cx hx hcr fb hcl hcn) _ ([(-1),0,5,7,1000005]:List Int) ⟨_,_,rfl,(Rd.of_own fa),(by simp),(fun _ z hz=>by have dM:=(nb fa z.block (by rw [hz];rfl)).1;have eG:=nL hgl (t7 (z12 i f d l ah V W Z aa aq j D) F.size T.size B.size a2.size au.size av.size);omega)⟩ (by simp)) ?_
   rintro _ lM ⟨a9,ay,⟨lO,lP,ef,lQ,lR,lS,lT⟩,rfl,hy⟩
   have h0:=ChG.ext fb ay iL
   have q395m:a9=(-1)∨a9=0∨a9=5∨a9=7∨a9=1000005:=by simpa using hy
   refine pu (vp p 13) wN ?_
   have aC:=((hu.kp ax).ch ay (Ne.symm (nN (nL hgl (nT (z4 i f d l) r)))))
   refine sf (vi (a9)) wN nV aC ?_
   intro di ao bc lU
   have cp:=ChG.ext h0 ao (fun k hk=>.inr (by subst hk;exact nT (z4 i f d l) r))
   refine nx<|jM1 (fun e' m=>∃ (t13c:Int) (fc:Env) (G:Option Addr) (H:Nat) (I:Option Addr) (J:Nat) (K:Option Addr) (L:Nat) (M:Option Addr) (O:Nat) (P:Option Addr) (Q:Nat) (R:Option Addr) (S:Nat),e'=pt fc [(0,(vp g 0)),(1,(vi ac)),(4,(vp a5 0)),(5,(vp p 0))]∧Ch (fun k=>k=g) C m∧Ch (fun k=>k=g∨ap.heap.size≤k) di m∧(World.ownsRow m C.heap.size 5 1 (.slice G (((a).Sn)).length H) (((a).Sn)).length ((((a).Sn)).map bV)∧(((a).Sn)).length≤1073741824)∧(World.ownsRow m C.heap.size 5 1 (.slice I ((b).Key).length J) ((b).Key).length (((b).Key).map bV)∧((b).Key).length≤1073741824)∧(World.ownsRow m C.heap.size 3 1 (.slice K (((b).Win).Bits).length L) (((b).Win).Bits).length ((((b).Win).Bits).map iV)∧(((b).Win).Bits).length≤1073741824)∧(World.ownsRow m C.heap.size 5 1 (.slice M ((((a).Cur).Key)).length O) ((((a).Cur).Key)).length (((((a).Cur).Key)).map bV)∧((((a).Cur).Key)).length≤1073741824)∧(World.ownsRow m C.heap.size 3 1 (.slice P (s).length Q) (s).length ((s).map iV)∧(s).length≤1073741824)∧(World.ownsRow m C.heap.size 5 1 (.slice R (((a).Next)).length S) (((a).Next)).length ((((a).Next)).map bV)∧(((a).Next)).length≤1073741824)∧Blk m p 38 [(vi ((a).Role)),(.slice G (((a).Sn)).length H),(vi ((b).N)),(.slice I ((b).Key).length J),(vi ((b).Seq)),(vi (((b).Win).Top)),(.slice K (((b).Win).Bits).length L),(vi (((b).N) - 1)),(.slice M ((((a).Cur).Key)).length O),(vi (A)),(vi ad),(.slice P (s).length Q),vT,(vi t13c),(.slice R (((a).Next)).length S)]∧Ap (G,H) (I,J)∧Ap (G,H) (K,L)∧Ap (G,H) (M,O)∧Ap (G,H) (P,Q)∧Ap (G,H) (R,S)∧Ap (I,J) (K,L)∧Ap (I,J) (M,O)∧Ap (I,J) (P,Q)∧Ap (I,J) (R,S)∧Ap (K,L) (M,O)∧Ap (K,L) (P,Q)∧Ap (K,L) (R,S)∧Ap (M,O) (P,Q)∧Ap (M,O) (R,S)∧Ap (P,Q) (R,S)∧ph m g 110 ca cc cb) ?_ fun eg=>?_
   ·rintro _ bv ⟨bw,fc,cq,cr,bG,bH,cs,cu,cv,cw,cy,cz,eh,ej,rfl,bI,ek,⟨bz,dj⟩,⟨b0,c0⟩,⟨b1,dk⟩,⟨b2,dl⟩,⟨b3,dm⟩,⟨dn,em⟩,c1,dp,dq,dr,ds,en,dt,du,dv,eo,dw,dx,ep,dy,er,es,⟨lV,lW,et,lX,lY,lZ,ma⟩⟩
    refine nh<|sr<|jM1 (fun e' m=>∃ (aI:List UInt8) (fd:Env) (G:Option Addr) (H:Nat) (I:Option Addr) (J:Nat) (K:Option Addr) (L:Nat) (M:Option Addr) (O:Nat) (P:Option Addr) (Q:Nat) (R:Option Addr) (S:Nat),e'=pt fd [(4,(vp a5 0)),(5,(vp p 0))]∧Ch (fun k=>k=g) C m∧Ch (fun k=>k=g∨ap.heap.size≤k) bv m∧(World.ownsRow m C.heap.size 5 1 (.slice G (((a).Sn)).length H) (((a).Sn)).length ((((a).Sn)).map bV)∧(((a).Sn)).length≤1073741824)∧(World.ownsRow m C.heap.size 5 1 (.slice I (((b).Key)).length J) (((b).Key)).length ((((b).Key)).map bV)∧(((b).Key)).length≤1073741824)∧(World.ownsRow m C.heap.size 3 1 (.slice K ((((b).Win).Bits)).length L) ((((b).Win).Bits)).length (((((b).Win).Bits)).map iV)∧((((b).Win).Bits)).length≤1073741824)∧(World.ownsRow m C.heap.size 5 1 (.slice M ((((a).Cur).Key)).length O) ((((a).Cur).Key)).length (((((a).Cur).Key)).map bV)∧((((a).Cur).Key)).length≤1073741824)∧(World.ownsRow m C.heap.size 3 1 (.slice P (s).length Q) (s).length ((s).map iV)∧(s).length≤1073741824)∧(World.ownsRow m C.heap.size 5 1 (.slice R (aI).length S) (aI).length ((aI).map bV)∧(aI).length≤1073741824)∧Blk m p 38 [(vi ((a).Role)),(.slice G (((a).Sn)).length H),(vi ((b).N)),(.slice I (((b).Key)).length J),(vi ((b).Seq)),(vi (((b).Win).Top)),(.slice K ((((b).Win).Bits)).length L),(vi (((b).N) - 1)),(.slice M ((((a).Cur).Key)).length O),(vi (A)),(vi ad),(.slice P (s).length Q),vT,(vi bw),(.slice R (aI).length S)]∧Ap (G,H) (I,J)∧Ap (G,H) (K,L)∧Ap (G,H) (M,O)∧Ap (G,H) (P,Q)∧Ap (G,H) (R,S)∧Ap (I,J) (K,L)∧Ap (I,J) (M,O)∧Ap (I,J) (P,Q)∧Ap (I,J) (R,S)∧Ap (K,L) (M,O)∧Ap (K,L) (P,Q)∧Ap (K,L) (R,S)∧Ap (M,O) (P,Q)∧Ap (M,O) (R,S)∧Ap (P,Q) (R,S)∧ph m g 110 ca cc cb) ?_ fun dz=>?_
    ·rintro _ fe ⟨c2,fd,d0,d1,d2,d3,d4,d5,d6,d7,d8,d9,dA,dB,rfl,h1,h2,⟨h3,h4⟩,⟨h5,h6⟩,⟨h7,h8⟩,⟨h9,hA⟩,⟨hB,hC⟩,⟨hD,hF⟩,hG,hH,hI,hJ,hK,hL,hM,hN,hO,hP,hQ,hR,hS,hT,hU,hW,⟨mb,mc,hX,md,me,mf,mg⟩⟩
     refine sr<|lN [(vi ((a).Role)),(vs d0 ((a).Sn).length d1),(vi ((b).N)),(vs d2 ((b).Key).length d3),(vi ((b).Seq)),(vi (((b).Win).Top)),(vs d4 (((b).Win).Bits).length d5),(vi (((b).N) - 1)),(vs d6 (((a).Cur).Key).length d7),(vi (A)),(vi ad),(vs d8 s.length d9),vT,(vi bw),(vs dA c2.length dB)] wN nj mX hG ?_
     have b4:=nL b8 (nT (z3 f d l) r)
     have eu:=nL b8 (z3 f d l)
     have b5:=((((((((((((((((((((((e2.ch f (Ne.symm (nN (nL hgl (az))))).ch d (Ne.symm (nN (nL hgl (az))))).kp l).kp ah).ch V (nN b4)).kp W).ch Z (Ne.symm (nN (nL hgl (az))))).ch aa (nN b4)).ch aq (fun h=>Or.elim h (Ne.symm (nN (nL hgl (az)))) (Nat.not_le.2 eu))).ch j (Ne.symm (nN (nL hgl (az))))).ch D (nN b4)).ch F (nN b4)).ch T (Ne.symm (nN (nL hgl (az))))).kp B).kp a2).ch au (nN b4)).ch av (nN b4)).kp ax).ch ay (Ne.symm (nN (nL hgl (az))))).ch ao (nN b4)).ch ek (fun h=>Or.elim h (Ne.symm (nN (nL hgl (az)))) (Nat.not_le.2 eu))).ch h2 (fun h=>Or.elim h (Ne.symm (nN (nL hgl (az)))) (Nat.not_le.2 eu)))
     refine sv [(vi ((a).Role)),(vs d0 ((a).Sn).length d1),(vi ((b).N)),(vs d2 ((b).Key).length d3),(vi ((b).Seq)),(vi (((b).Win).Top)),(vs d4 (((b).Win).Bits).length d5),(vi (((b).N) - 1)),(vs d6 (((a).Cur).Key).length d7),(vi (A)),(vi ad),(vs d8 s.length d9),vT,(vi bw),(vs dA c2.length dB)] wN mX b5 ?_
     intro hY bd hZ mh
     have ff:=ChG.ext h1 bd (fun k hk=>.inr (by subst hk;exact az))
     refine n3 ?_
     have ia:=(ny h3 b5 (by decide) bd)
     have ib:=(ny h5 b5 (by decide) bd)
     have ic:=(ny h7 b5 (by decide) bd)
     have ie:=(ny h9 b5 (by decide) bd)
     have ig:=(ny hB b5 (by decide) bd)
     have ih:=(ny hD b5 (by decide) bd)
     refine rc [(vi ((a).Role)),(vs d0 ((a).Sn).length d1),(vi ((b).N)),(vs d2 ((b).Key).length d3),(vi ((b).Seq)),(vi (((b).Win).Top)),(vs d4 (((b).Win).Bits).length d5),(vi (((b).N) - 1)),(vs d6 (((a).Cur).Key).length d7),(vi (A)),(vi ad),(vs d8 s.length d9),(vb true),(vi bw),(vs dA c2.length dB)] hZ nj mX ?_
     have ii:=(hX.ch bd (nN (nL hgl (az))))
     exact ⟨{Role:=(a).Role,Sn:=((a).Sn),Cur:=(b),Old:={N:=(((b).N) - 1),Key:=(((a).Cur).Key),Seq:=(A),Win:={Top:=ad,Bits:=s:PWin}:PEp},HasOld:=true,Until:=bw,Next:=c2:PChan},ff,(cx ii hcr ff hcl hcn),⟨_,_,_,_,_,_,_,_,_,_,_,_,rfl,ia,h4,ib,h6,ic,h8,ie,hA,ig,hC,ih,hF,⟨⟨hH,⟨hI,⟨hJ,⟨hK,⟨hL,trivial⟩⟩⟩⟩⟩,⟨⟨hM,⟨hN,⟨hO,⟨hP,trivial⟩⟩⟩⟩,⟨⟨hQ,⟨hR,⟨hS,trivial⟩⟩⟩,⟨⟨hT,⟨hU,trivial⟩⟩,⟨⟨hW,trivial⟩,⟨trivial,trivial⟩⟩⟩⟩⟩⟩⟩,(by assumption)⟩
    refine mw (vi ac) ?_
    refine pu (vb (decide (ac=0))) wN ?_
    refine mw (vb (decide (ac=0))) ?_
    rcases bf (decide (ac=0)) with aM|aM
    ·have mi:=dF aM
     iterate 4 refine sk aM ?_
     refine pf vF wN aM ?_
     refine mw vF ?_
     iterate 2 refine sk F1 ?_
     refine pf vF wN F1 ?_
     exact n2<|cf F1<|nm<|mP<|oq [(4,(vp a5 0)),(5,(vp p 0))] ⟨rfl,rfl,trivial⟩ fun u=>dz _ _ ⟨((a).Next),u,cq,cr,bG,bH,cs,cu,cv,cw,cy,cz,eh,ej,rfl,bI,(Ch.refl (fun k=>k=g∨ap.heap.size≤k) bv),⟨bz,dj⟩,⟨b0,c0⟩,⟨b1,dk⟩,⟨b2,dl⟩,⟨b3,dm⟩,⟨dn,em⟩,c1,dp,dq,dr,ds,en,dt,du,dv,eo,dw,dx,ep,dy,er,es,(cx et hcr bI hcl hcn)⟩
    have mj:=dT aM
    refine pu (vp p 2) (wS aM) ?_
    refine pu (vp p 2) (wS aM) ?_
    refine ld (vi ((b).N)) (wS aM) mT c1 ?_
    refine pu (vb (decide ((b).N < 4294967295))) (wS aM) ?_
    refine pk (vb (decide ((b).N < 4294967295))) wN aM ?_
    refine mw (vb (decide ((b).N < 4294967295))) ?_
    rcases bf (decide ((b).N < 4294967295)) with be|be
    ·have ml:=dF be
     iterate 2 refine sk be ?_
     refine pf vF wN be ?_
     exact n2<|cf F1<|nm<|mP<|oq [(4,(vp a5 0)),(5,(vp p 0))] ⟨rfl,rfl,trivial⟩ fun u=>dz _ _ ⟨((a).Next),u,cq,cr,bG,bH,cs,cu,cv,cw,cy,cz,eh,ej,rfl,bI,(Ch.refl (fun k=>k=g∨ap.heap.size≤k) bv),⟨bz,dj⟩,⟨b0,c0⟩,⟨b1,dk⟩,⟨b2,dl⟩,⟨b3,dm⟩,⟨dn,em⟩,c1,dp,dq,dr,ds,en,dt,du,dv,eo,dw,dx,ep,dy,er,es,(cx et hcr bI hcl hcn)⟩
    have mm:=dT be
    refine mv (vp g 0) (wS be) ?_
    refine cl (wS be) (pV bv g ca cc cb (cx et hcr bI hcl hcn) 2) ?_
    rintro _ fe ⟨fg,ak,⟨mn,mp,fh,mq,mr,mt,mu⟩,rfl,mx⟩
    have ew:=ChG.ext bI ak iL
    refine pk (vb (fg)) wN be ?_
    refine n2 ?_
    rcases bf fg with ex|ex
    ·refine cf ex<|nm<|mP ?_
     have ij:=(gc bz ak (ne1 bz (hgl)))
     have ik:=(gc b0 ak (ne1 b0 (hgl)))
     have il:=(gc b1 ak (ne1 b1 (hgl)))
     have im:=(gc b2 ak (ne1 b2 (hgl)))
     have io:=(gc b3 ak (ne1 b3 (hgl)))
     have ip:=(gc dn ak (ne1 dn (hgl)))
     have iq:=(c1.ch ak (Ne.symm (nN (nL hgl (nT (z4 i f d l) r)))))
     exact oq [(4,(vp a5 0)),(5,(vp p 0))] ⟨rfl,rfl,trivial⟩ fun u=>dz _ _ ⟨((a).Next),u,cq,cr,bG,bH,cs,cu,cv,cw,cy,cz,eh,ej,rfl,ew,(ChO.ext (Ch.refl (fun k=>k=g∨ap.heap.size≤k) bv) ak iL),⟨ij,dj⟩,⟨ik,c0⟩,⟨il,dk⟩,⟨im,dl⟩,⟨io,dm⟩,⟨ip,em⟩,iq,dp,dq,dr,ds,en,dt,du,dv,eo,dw,dx,ep,dy,er,es,(cx fh hcr ew hcl hcn)⟩
    refine ct ex<|mV ?_
    refine pu (vp p 2) wN ?_
    refine pu (vp p 3) wN ?_
    have fi:=(c1.ch ak (Ne.symm (nN (nL hgl (nT (z4 i f d l) r)))))
    refine ld (vs bG ((b).Key).length bH) wN nd fi ?_
    have fj:=(gc b0 ak (ne1 b0 (hgl)))
    refine cl wN (uS fe _ ((b).Key) (nH (Rd.of_own fj) c0) _ (ByteArray.mk ([114,101,107,101,121]:List UInt8).toArray) (CQ) (by first|omega|decide)) ?_
    rintro _ hY ⟨aX,⟨dC,dD,rfl,b6,ir,my⟩⟩
    have it:=ChG.extk ew aX
    have m0:=tK ((b).Key) (ByteArray.mk ([114,101,107,101,121]:List UInt8).toArray)
    refine pu (vp p 14) wN ?_
    have bJ:=(fi.kp aX)
    refine sf (vs dC (derive ((b).Key) (ByteArray.mk ([114,101,107,101,121]:List UInt8).toArray)).length dD) wN nG bJ ?_
    intro m1 aY iu m2
    have fk:=ChG.ext it aY (fun k hk=>.inr (by subst hk;exact nT (z4 i f d l) r))
    refine n2 ?_
    have iv:=(ny (mz (gc bz ak (ne1 bz (hgl))) aX) bJ (by decide) aY)
    have iw:=(ny (mz fj aX) bJ (by decide) aY)
    have iy:=(ny (mz (gc b1 ak (ne1 b1 (hgl))) aX) bJ (by decide) aY)
    have iz:=(ny (mz (gc b2 ak (ne1 b2 (hgl))) aX) bJ (by decide) aY)
    have i0:=(ny (mz (gc b3 ak (ne1 b3 (hgl))) aX) bJ (by decide) aY)
    have i1:=(gc b6 aY (ne1 b6 (nL b9 (t7 (z12 V W Z aa aq j D F T B a2 au) av.size ax.size ay.size ao.size ek.size ak.size))))
    have i2:=((fh.kp aX).ch aY (nN (nL hgl (nT (z4 i f d l) r))))
    exact oq [(4,(vp a5 0)),(5,(vp p 0))] ⟨rfl,rfl,trivial⟩ fun u=>dz _ _ ⟨(derive ((b).Key) (ByteArray.mk ([114,101,107,101,121]:List UInt8).toArray)),u,cq,cr,bG,bH,cs,cu,cv,cw,cy,cz,dC,dD,rfl,fk,(ChO.ext (ChO.extk (ChO.ext (Ch.refl (fun k=>k=g∨ap.heap.size≤k) bv) ak iL) aX) aY (fun k hk=>.inr (by subst hk;exact r))),⟨iv,dj⟩,⟨iw,c0⟩,⟨iy,dk⟩,⟨iz,dl⟩,⟨i0,dm⟩,⟨(mO i1 (t12 (z12 i f d l ah V W Z aa aq j D) F.size T.size B.size a2.size au.size av.size ax.size ay.size ao.size ek.size ak.size)),ir⟩,iu,dp,dq,dr,ds,(Ap.lt bz b6 ak.size),dt,du,dv,(Ap.lt b0 b6 ak.size),dw,dx,(Ap.lt b1 b6 ak.size),dy,(Ap.lt b2 b6 ak.size),(Ap.lt b3 b6 ak.size),(cx i2 hcr fk hcl hcn)⟩
   refine mw (vi ac) ?_
   refine pu (vb (decide (ac=0))) wN ?_
   refine mw (vb (decide (ac=0))) ?_
   rcases bf (decide (ac=0)) with aZ|aZ
   ·have m3:=dF aZ
    iterate 3 refine sk aZ ?_
    refine pf vF wN aZ ?_
    refine n2<|cf F1<|nm<|mP ?_
    have i3:=(ny (gc (mz (ny (ny (mz (mz (gc (ny (ny (gc X j (ne1 X (hgl))) aF (by decide) D) aJ (by decide) F) T (ne1 X (hgl))) B) a2) aB (by decide) au) a8 (by decide) av) ax) ay (ne1 X (hgl))) aC (by decide) ao)
    have ey:=nL b9 (z10 V W Z aa aq j D F T B)
    have fl:=fun (E sz n:Nat) (v:Value) (aA:List Value) (o:World.ownsRow bF aS.heap.size E sz v n aA) (ab:World.ownsRow bF aS.heap.size E sz v n aA)=>(gc (gc (mz (gc (gc o au (ne1 ab ey)) av (ne1 ab ey)) ax) ay (ne1 ab (nL hgl (t4 (z12 i f d l ah V W Z aa aq j D) F.size T.size B.size)))) ao (ne1 ab ey))
    have i4:=(fl _ _ _ _ _ a3 a3)
    have i5:=(fl _ _ _ _ _ a4 a4)
    have i6:=(ny (gc (mz (ny (ny (mz (mz dh B) a2) aB (by decide) au) a8 (by decide) av) ax) ay (ne1 ai (hgl))) aC (by decide) ao)
    have i7:=(ny (gc (mz (ny (ny (mz (mz (gc (ny (ny (gc Y j (ne1 Y (hgl))) aF (by decide) D) aJ (by decide) F) T (ne1 Y (hgl))) B) a2) aB (by decide) au) a8 (by decide) av) ax) ay (ne1 Y (hgl))) aC (by decide) ao)
    have i8:=(ny (gc (mz (ny (ny (mz (mz (gc (ny (ny (gc af j (ne1 af (hgl))) aF (by decide) D) aJ (by decide) F) T (ne1 af (hgl))) B) a2) aB (by decide) au) a8 (by decide) av) ax) ay (ne1 af (hgl))) aC (by decide) ao)
    have i9:=(ef.ch ao (nN (nL hgl (nT (z4 i f d l) r))))
    have bg:=z5 j D F T B
    exact oq [(0,(vp g 0)),(1,(vi ac)),(4,(vp a5 0)),(5,(vp p 0))] ⟨rfl,rfl,rfl,rfl,trivial⟩ fun u=>eg _ _ ⟨(a9),u,a6,a7,aT,aU,aV,aW,am,an,a0,a1,aD,aE,rfl,cp,(Ch.refl (fun k=>k=g∨ap.heap.size≤k) di),⟨i3,bk⟩,⟨(mO i4 (t4 (z12 i f d l ah V W Z aa aq j D) F.size T.size B.size)),ec⟩,⟨(mO i5 (t4 (z12 i f d l ah V W Z aa aq j D) F.size T.size B.size)),ed⟩,⟨i6,aO⟩,⟨i7,bl⟩,⟨i8,bA⟩,bc,(Ap.lt X a3 bg),(Ap.lt X a4 bg),bm,bn,bB,(ee.1.1),(Ap.lt ai a3 bg).symm,(Ap.lt Y a3 bg).symm,(Ap.lt af a3 bg).symm,(Ap.lt ai a4 bg).symm,(Ap.lt Y a4 bg).symm,(Ap.lt af a4 bg).symm,bo,bC,bD,(cx i9 hcr cp hcl hcn)⟩
   have m4:=dT aZ
   refine pu (vp p 13) (wS aZ) ?_
   refine ld (vi (a9)) (wS aZ) mT bc ?_
   refine pu (vb (decide ((a9) < 0))) (wS aZ) ?_
   refine pk (vb (decide ((a9) < 0))) wN aZ ?_
   refine n2 ?_
   rcases bf (decide ((a9) < 0)) with c3|c3
   ·have m5:=dF c3
    refine cf c3<|nm<|mP ?_
    have iA:=(ny (gc (mz (ny (ny (mz (mz (gc (ny (ny (gc X j (ne1 X (hgl))) aF (by decide) D) aJ (by decide) F) T (ne1 X (hgl))) B) a2) aB (by decide) au) a8 (by decide) av) ax) ay (ne1 X (hgl))) aC (by decide) ao)
    have ez:=nL b9 (z10 V W Z aa aq j D F T B)
    have fm:=fun (E sz n:Nat) (v:Value) (aA:List Value) (o:World.ownsRow bF aS.heap.size E sz v n aA) (ab:World.ownsRow bF aS.heap.size E sz v n aA)=>(gc (gc (mz (gc (gc o au (ne1 ab ez)) av (ne1 ab ez)) ax) ay (ne1 ab (nL hgl (t4 (z12 i f d l ah V W Z aa aq j D) F.size T.size B.size)))) ao (ne1 ab ez))
    have iB:=(fm _ _ _ _ _ a3 a3)
    have iC:=(fm _ _ _ _ _ a4 a4)
    have iD:=(ny (gc (mz (ny (ny (mz (mz dh B) a2) aB (by decide) au) a8 (by decide) av) ax) ay (ne1 ai (hgl))) aC (by decide) ao)
    have iE:=(ny (gc (mz (ny (ny (mz (mz (gc (ny (ny (gc Y j (ne1 Y (hgl))) aF (by decide) D) aJ (by decide) F) T (ne1 Y (hgl))) B) a2) aB (by decide) au) a8 (by decide) av) ax) ay (ne1 Y (hgl))) aC (by decide) ao)
    have iF:=(ny (gc (mz (ny (ny (mz (mz (gc (ny (ny (gc af j (ne1 af (hgl))) aF (by decide) D) aJ (by decide) F) T (ne1 af (hgl))) B) a2) aB (by decide) au) a8 (by decide) av) ax) ay (ne1 af (hgl))) aC (by decide) ao)
    have iG:=(ef.ch ao (nN (nL hgl (nT (z4 i f d l) r))))
    have bh:=z5 j D F T B
    exact oq [(0,(vp g 0)),(1,(vi ac)),(4,(vp a5 0)),(5,(vp p 0))] ⟨rfl,rfl,rfl,rfl,trivial⟩ fun u=>eg _ _ ⟨(a9),u,a6,a7,aT,aU,aV,aW,am,an,a0,a1,aD,aE,rfl,cp,(Ch.refl (fun k=>k=g∨ap.heap.size≤k) di),⟨iA,bk⟩,⟨(mO iB (t4 (z12 i f d l ah V W Z aa aq j D) F.size T.size B.size)),ec⟩,⟨(mO iC (t4 (z12 i f d l ah V W Z aa aq j D) F.size T.size B.size)),ed⟩,⟨iD,aO⟩,⟨iE,bl⟩,⟨iF,bA⟩,bc,(Ap.lt X a3 bh),(Ap.lt X a4 bh),bm,bn,bB,(ee.1.1),(Ap.lt ai a3 bh).symm,(Ap.lt Y a3 bh).symm,(Ap.lt af a3 bh).symm,(Ap.lt ai a4 bh).symm,(Ap.lt Y a4 bh).symm,(Ap.lt af a4 bh).symm,bo,bC,bD,(cx iG hcr cp hcl hcn)⟩
   have m6:=dT c3
   refine ct c3<|mV ?_
   refine pu (vp p 13) wN ?_
   refine sf (vi 5) wN nV bc ?_
   intro bv bi iH m7
   have fo:=ChG.ext cp bi (fun k hk=>.inr (by subst hk;exact nT (z4 i f d l) r))
   refine n2 ?_
   have iI:=(ny (ny (gc (mz (ny (ny (mz (mz (gc (ny (ny (gc X j (ne1 X (hgl))) aF (by decide) D) aJ (by decide) F) T (ne1 X (hgl))) B) a2) aB (by decide) au) a8 (by decide) av) ax) ay (ne1 X (hgl))) aC (by decide) ao) bc (by decide) bi)
   have dE:=nL b9 (z10 V W Z aa aq j D F T B)
   have fp:=fun (E sz n:Nat) (v:Value) (aA:List Value) (o:World.ownsRow bF aS.heap.size E sz v n aA) (ab:World.ownsRow bF aS.heap.size E sz v n aA)=>(gc (gc (gc (mz (gc (gc o au (ne1 ab dE)) av (ne1 ab dE)) ax) ay (ne1 ab (nL hgl (t4 (z12 i f d l ah V W Z aa aq j D) F.size T.size B.size)))) ao (ne1 ab dE)) bi (ne1 ab dE))
   have iJ:=(fp _ _ _ _ _ a3 a3)
   have iK:=(fp _ _ _ _ _ a4 a4)
   have iM:=(ny (ny (gc (mz (ny (ny (mz (mz dh B) a2) aB (by decide) au) a8 (by decide) av) ax) ay (ne1 ai (hgl))) aC (by decide) ao) bc (by decide) bi)
   have iN:=(ny (ny (gc (mz (ny (ny (mz (mz (gc (ny (ny (gc Y j (ne1 Y (hgl))) aF (by decide) D) aJ (by decide) F) T (ne1 Y (hgl))) B) a2) aB (by decide) au) a8 (by decide) av) ax) ay (ne1 Y (hgl))) aC (by decide) ao) bc (by decide) bi)
   have iO:=(ny (ny (gc (mz (ny (ny (mz (mz (gc (ny (ny (gc af j (ne1 af (hgl))) aF (by decide) D) aJ (by decide) F) T (ne1 af (hgl))) B) a2) aB (by decide) au) a8 (by decide) av) ax) ay (ne1 af (hgl))) aC (by decide) ao) bc (by decide) bi)
   have iP:=((ef.ch ao (nN (nL hgl (nT (z4 i f d l) r)))).ch bi (nN (nL hgl (nT (z4 i f d l) r))))
   have bj:=z5 j D F T B
   exact oq [(0,(vp g 0)),(1,(vi ac)),(4,(vp a5 0)),(5,(vp p 0))] ⟨rfl,rfl,rfl,rfl,trivial⟩ fun u=>eg _ _ ⟨5,u,a6,a7,aT,aU,aV,aW,am,an,a0,a1,aD,aE,rfl,fo,(ChO.ext (Ch.refl (fun k=>k=g∨ap.heap.size≤k) di) bi (fun k hk=>.inr (by subst hk;exact r))),⟨iI,bk⟩,⟨(mO iJ (t4 (z12 i f d l ah V W Z aa aq j D) F.size T.size B.size)),ec⟩,⟨(mO iK (t4 (z12 i f d l ah V W Z aa aq j D) F.size T.size B.size)),ed⟩,⟨iM,aO⟩,⟨iN,bl⟩,⟨iO,bA⟩,iH,(Ap.lt X a3 bj),(Ap.lt X a4 bj),bm,bn,bB,(ee.1.1),(Ap.lt ai a3 bj).symm,(Ap.lt Y a3 bj).symm,(Ap.lt af a3 bj).symm,(Ap.lt ai a4 bj).symm,(Ap.lt Y a4 bj).symm,(Ap.lt af a4 bj).symm,bo,bC,bD,(cx iP hcr fo hcl hcn)⟩
 refine mw (vp g 0) ?_
 have iQ:=(fD.ch aa (nN (nL hgl (nT (z4 i f d l) r))))
 refine cl wN (pV cC g ca cc cb (cx iQ hcr eI hcl hcn) 3) ?_
 rintro _ dN ⟨iR,aN,⟨m8,m9,fq,mA,mB,mC,mD⟩,rfl,mE⟩
 have dG:=ChG.ext eI aN iL
 refine n2 ?_
 rcases bf iR with e0|e0
 ·refine cf e0<|nm<|mP ?_
  have bK:=fun (E sz n:Nat) (v:Value) (aA:List Value) (o:World.ownsRow ap bL.heap.size E sz v n aA) (ab:World.ownsRow ap bL.heap.size E sz v n aA)=>(gc (gc (gc (mz (gc (mz o ah) V (ne2 ab (r))) W) Z (ne1 ab (nL hgl (z3 i f d)))) aa (ne2 ab (r))) aN (ne1 ab (nL hgl (z3 i f d))))
  have iS:=(bK _ _ _ _ _ bX bX)
  have iT:=(bK _ _ _ _ _ bY bY)
  have iU:=(bK _ _ _ _ _ eA eA)
  have iW:=(bK _ _ _ _ _ bZ bZ)
  have iX:=(bK _ _ _ _ _ cd cd)
  have iY:=(bK _ _ _ _ _ ce ce)
  have iZ:=(eH.ch aN (Ne.symm (nN (nL hgl (nT (z4 i f d l) r)))))
  exact oq [(0,(vp g 0)),(1,(vi ac)),(4,(vp a5 0)),(5,(vp p 0))] ⟨rfl,rfl,rfl,rfl,trivial⟩ fun u=>eK _ _ ⟨(((a).Cur).Win).Top,(((a).Cur).Win).Bits,u,bM,bN,bO,bP,dK,dL,bQ,bR,bS,bT,bU,bW,rfl,dG,(ChO.ext (Ch.refl (fun k=>k=g∨ap.heap.size≤k) cC) aN iL),⟨(mO iS (z3 i f d)),e8⟩,⟨(mO iT (z3 i f d)),e9⟩,⟨(mO iU (z3 i f d)),f4⟩,⟨(mO iW (z3 i f d)),eB⟩,⟨(mO iX (z3 i f d)),eC⟩,⟨(mO iY (z3 i f d)),eD⟩,iZ,(ae.1.1),(ae.1.2.1),(ae.1.2.2.1),(ae.1.2.2.2.1),(ae.1.2.2.2.2.1),(ae.2.1.1),(ae.2.1.2.1),(ae.2.1.2.2.1),(ae.2.1.2.2.2.1),(ae.2.2.1.1),(ae.2.2.1.2.1),(ae.2.2.1.2.2.1),(ae.2.2.2.1.1),(ae.2.2.2.1.2.1),(ae.2.2.2.2.1.1),(cx fq hcr dG hcl hcn)⟩
 refine ct e0<|mV ?_
 refine mw (vp g 0) ?_
 refine cl wN (uN dN g ca cc cb (cx fq hcr dG hcl hcn)) ?_
 rintro _ bp ⟨c4,dH,⟨mF,mG,ja,mH,mI,mJ,mK⟩,⟨dI,dJ,rfl,b7,jb,mL⟩,mM⟩
 have jc:=ChG.ext dG dH iL
 refine pu (vp p 2) wN ?_
 refine pu (vp p 5) wN ?_
 have jd:=((eH.ch aN (Ne.symm (nN (nL hgl (nT (z4 i f d l) r))))).ch dH (Ne.symm (nN (nL hgl (nT (z4 i f d l) r)))))
 refine st (va (pn (c4) dI dJ)) (pn (c4) dI dJ) (oj {(a) with Cur:={((a).Cur) with Seq:=(A),Win:=(c4):PEp}:PChan} bM bN bO bP dI dJ bQ bR bS bT bU bW) wN ni jd ?_
 intro cO c5 je mN
 have fr:=ChG.ext jc c5 (fun k hk=>.inr (by subst hk;exact nT (z4 i f d l) r))
 refine n2 ?_
 have c6:=fun (E sz n:Nat) (v:Value) (aA:List Value) (o:World.ownsRow ap bL.heap.size E sz v n aA) (ab:World.ownsRow ap bL.heap.size E sz v n aA)=>(gc (gc (gc (gc (gc (mz (gc (mz o ah) V (ne2 ab (r))) W) Z (ne1 ab (nL hgl (z3 i f d)))) aa (ne2 ab (r))) aN (ne1 ab (nL hgl (z3 i f d)))) dH (ne1 ab (nL hgl (z3 i f d)))) c5 (ne2 ab (r)))
 have jf:=(c6 _ _ _ _ _ bX bX)
 have jg:=(c6 _ _ _ _ _ bY bY)
 have jh:=(gc b7 c5 (ne1 b7 (nL b9 (z5 V W Z aa aN))))
 have ji:=(c6 _ _ _ _ _ bZ bZ)
 have jj:=(c6 _ _ _ _ _ cd cd)
 have jk:=(c6 _ _ _ _ _ ce ce)
 have jl:=(ja.ch c5 (nN (nL hgl (nT (z4 i f d l) r))))
 have c7:=z6 ah V W Z aa aN
 exact oq [(0,(vp g 0)),(1,(vi ac)),(4,(vp a5 0)),(5,(vp p 0))] ⟨rfl,rfl,rfl,rfl,trivial⟩ fun u=>eK _ _ ⟨(c4).Top,(c4).Bits,u,bM,bN,bO,bP,dI,dJ,bQ,bR,bS,bT,bU,bW,rfl,fr,(ChO.ext (ChO.ext (ChO.ext (Ch.refl (fun k=>k=g∨ap.heap.size≤k) cC) aN iL) dH iL) c5 (fun k hk=>.inr (by subst hk;exact r))),⟨(mO jf (z3 i f d)),e8⟩,⟨(mO jg (z3 i f d)),e9⟩,⟨(mO jh (z10 i f d l ah V W Z aa aN)),jb⟩,⟨(mO ji (z3 i f d)),eB⟩,⟨(mO jj (z3 i f d)),eC⟩,⟨(mO jk (z3 i f d)),eD⟩,je,(ae.1.1),(Ap.lt bX b7 c7),(ae.1.2.2.1),(ae.1.2.2.2.1),(ae.1.2.2.2.2.1),(Ap.lt bY b7 c7),(ae.2.1.2.1),(ae.2.1.2.2.1),(ae.2.1.2.2.2.1),(Ap.lt bZ b7 c7).symm,(Ap.lt cd b7 c7).symm,(Ap.lt ce b7 c7).symm,(ae.2.2.2.1.1),(ae.2.2.2.1.2.1),(ae.2.2.2.2.1.1),(cx jl hcr fr hcl hcn)⟩

theorem Ck (t:World) (g:Nat) (ca:Option Addr) (cc:Nat) (cb:List UInt8) (aC:ph t g 110 ca cc cb) :Fn Tryz.prog 138 #[(vp g 0)] t (fun v p=>∃ x:(PEp),Ch (fun k=>k=g) t p∧ph p g 110 ca cc cb∧Ar p t.heap.size v x∧(True)):=by
 obtain ⟨ci,chh,hcb,hcr,hcl,hci,hcn⟩:=aC
 have hgl:=Blk.lt hcb
 refine nu (n:=20) [(vp g 0)] Tryz.func138 rfl rfl ?_
 refine sr<|al se wN pm ?_
 intro ad bC F ae e aD
 have aE:=ChG.extk (Ch.refl (fun k=>k=g) t) e
 refine nx<|mw (vp g 0) ?_
 refine ltI ([0,0,1,2,4294967295]:List Int) wN nf ?_
 intro bD bE aF a aq
 have au:=ChG.extk aE a
 have aG:=((hcb.kp e).kp a)
 refine cl wN (oz aF g ca cc cb (cx aG hcr au hcl hcn) _ ([0,0,1,2,4294967295]:List Int) ⟨_,_,rfl,(Rd.of_own aq),(by simp),(fun _ z hz=>by have aH:=(nb aq z.block (by rw [hz];rfl)).1;have aI:=nL hgl e.size;omega)⟩ (by simp)) ?_
 rintro _ aJ ⟨C,b,⟨bF,bG,aK,bH,bI,bJ,bK⟩,rfl,aL⟩
 have av:=ChG.ext au b iL
 have q16m:C=0∨C=0∨C=1∨C=2∨C=4294967295:=by simpa using aL
 refine mw (vp g 0) ?_
 refine cl wN (oC aJ g ca cc cb (cx aK hcr av hcl hcn) 32 (by omega)) ?_
 rintro _ H ⟨ax,d,⟨bL,bM,aM,bN,bO,bP,bQ⟩,⟨bR,bS,rfl,aN,aO,bT⟩,bU⟩
 have aP:=ChG.ext av d iL
 obtain ⟨l,aQ⟩:∃ y,s_EpNew (C) (ax)=y:=⟨_,rfl⟩
 have ay:=tM H (C) _ (ax) (nH (Rd.of_own aN) aO)
 rw [aQ] at ay
 refine cl wN ay ?_
 rintro _ D ⟨f,⟨I,J,af,ah,rfl,K,az,a0,aR,aS⟩⟩
 have aT:=ChG.extk aP f
 refine al se wN pm ?_
 intro G bW i aU w aV
 have aW:=ChG.extk aT w
 refine sv (oi (l) I J af ah) wN mY aV ?_
 intro bX r aX bY
 have aY:=ChG.ext aW r (fun k hk=>.inr (by subst hk;exact nT (z5 e a b d f) i))
 refine nx<|mw (vp g 0) ?_
 refine ltI ([0,0,1,5,281474976709655,281474976709656,281474976710655,281474976710656]:List Int) wN nf ?_
 intro bZ cd aZ s a1
 have a2:=ChG.extk aY s
 have ba:=((((aM.kp f).kp w).ch r (nN (nL hgl (nT (z5 e a b d f) i)))).kp s)
 refine cl wN (oz aZ g ca cc cb (cx ba hcr a2 hcl hcn) _ ([0,0,1,5,281474976709655,281474976709656,281474976710655,281474976710656]:List Int) ⟨_,_,rfl,(Rd.of_own a1),(by simp),(fun _ z hz=>by have aH:=(nb a1 z.block (by rw [hz];rfl)).1;have aI:=nL hgl (z7 e a b d f w r);omega)⟩ (by simp)) ?_
 rintro _ ce ⟨j,A,⟨cg,cj,bb,ck,cm,cn,co⟩,rfl,bc⟩
 have bd:=ChG.ext a2 A iL
 have q77m:j=0∨j=0∨j=1∨j=5∨j=281474976709655∨j=281474976709656∨j=281474976710655∨j=281474976710656:=by simpa using bc
 refine pu (vp G 2) wN ?_
 have be:=((aX.kp s).ch A (Ne.symm (nN (nL hgl (nT (z5 e a b d f) i)))))
 refine sf (vi (j)) wN nV be ?_
 intro S B a3 cp
 have a4:=ChG.ext bd B (fun k hk=>.inr (by subst hk;exact nT (z5 e a b d f) i))
 refine n4<|jM1 (fun e' p=>∃ (t3c:Int) (L:List Int) (a5:Env) (ai:Option Addr) (aj:Nat) (ak:Option Addr) (am:Nat),e'=pt a5 [(2,(vp ad 0)),(3,(vp G 0))]∧Ch (fun k=>k=g) t p∧Ch (fun k=>k=g∨D.heap.size≤k) S p∧(World.ownsRow p t.heap.size 5 1 (.slice ai ((l).Key).length aj) ((l).Key).length (((l).Key).map bV)∧((l).Key).length≤1073741824)∧(World.ownsRow p t.heap.size 3 1 (.slice ak (L).length am) (L).length ((L).map iV)∧(L).length≤1073741824)∧Blk p G 36 [(vi ((l).N)),(.slice ai ((l).Key).length aj),(vi (j)),(vi t3c),(.slice ak (L).length am)]∧Ap (ai,aj) (ak,am)∧ph p g 110 ca cc cb) ?_ fun a6=>?_
 ·rintro _ a7 ⟨M,O,a5,T,V,W,X,rfl,bg,bh,⟨bi,bj⟩,⟨bk,bl⟩,bm,bn,⟨cq,cr,bo,cs,cu,cv,cw⟩⟩
  refine sr<|lN (oi {(l) with Seq:=(j),Win:={Top:=M,Bits:=O:PWin}:PEp} T V W X) wN nv mY bm ?_
  have an:=((((((((((aD.kp a).ch b (Ne.symm (nN (nL hgl (F))))).ch d (Ne.symm (nN (nL hgl (F))))).kp f).kp w).ch r (nN (nL ae (nT (z4 a b d f) i)))).kp s).ch A (Ne.symm (nN (nL hgl (F))))).ch B (nN (nL ae (nT (z4 a b d f) i)))).ch bh (fun h=>Or.elim h (Ne.symm (nN (nL hgl (F)))) (Nat.not_le.2 (nL ae (z4 a b d f)))))
  refine sv (oi {(l) with Seq:=(j),Win:={Top:=M,Bits:=O:PWin}:PEp} T V W X) wN mY an ?_
  intro bp Y bq cy
  have a8:=ChG.ext bg Y (fun k hk=>.inr (by subst hk;exact F))
  refine n3 ?_
  have br:=(ny bi an (by decide) Y)
  have bu:=(ny bk an (by decide) Y)
  refine rc (oi {(l) with Seq:=(j),Win:={Top:=M,Bits:=O:PWin}:PEp} T V W X) bq nv mY ?_
  have bv:=(bo.ch Y (nN (nL hgl (F))))
  exact ⟨{(l) with Seq:=(j),Win:={Top:=M,Bits:=O:PWin}:PEp},a8,(cx bv hcr a8 hcl hcn),⟨_,_,_,_,rfl,br,bj,bu,bl,⟨⟨bn,trivial⟩,⟨trivial,trivial⟩⟩⟩,trivial⟩
 refine mw (vp g 0) ?_
 have bw:=(bb.ch B (nN (nL hgl (nT (z5 e a b d f) i))))
 refine cl wN (pV S g ca cc cb (cx bw hcr a4 hcl hcn) 3) ?_
 rintro _ a7 ⟨bz,q,⟨cz,c0,a9,c1,c2,c3,c4⟩,rfl,c5⟩
 have Z:=ChG.ext a4 q iL
 refine n2 ?_
 rcases bf bz with ao|ao
 ·refine cf ao<|nm<|mP ?_
  have aA:=fun (E sz n:Nat) (v:Value) (P:List Value) (o:World.ownsRow D H.heap.size E sz v n P) (m:World.ownsRow D H.heap.size E sz v n P)=>(gc (gc (gc (mz (gc (mz o w) r (ne2 m (i))) s) A (ne1 m (nL hgl (z4 e a b d)))) B (ne2 m (i))) q (ne1 m (nL hgl (z4 e a b d))))
  have b0:=(aA _ _ _ _ _ K K)
  have b1:=(aA _ _ _ _ _ a0 a0)
  have b2:=(a3.ch q (Ne.symm (nN (nL hgl (nT (z5 e a b d f) i)))))
  exact oq [(2,(vp ad 0)),(3,(vp G 0))] ⟨rfl,rfl,trivial⟩ fun u=>a6 _ _ ⟨((l).Win).Top,((l).Win).Bits,u,I,J,af,ah,rfl,Z,(ChO.ext (Ch.refl (fun k=>k=g∨D.heap.size≤k) S) q iL),⟨(mO b0 (z4 e a b d)),az⟩,⟨(mO b1 (z4 e a b d)),aR⟩,b2,(aS.1.1),(cx a9 hcr Z hcl hcn)⟩
 refine ct ao<|mV ?_
 refine mw (vp g 0) ?_
 refine cl wN (uN a7 g ca cc cb (cx a9 hcr Z hcl hcn)) ?_
 rintro _ bp ⟨Q,aa,⟨c6,c7,b3,c8,c9,cC,cD⟩,⟨ab,ac,rfl,ap,b4,cE⟩,cF⟩
 have b5:=ChG.ext Z aa iL
 refine pu (vp G 3) wN ?_
 have b6:=((a3.ch q (Ne.symm (nN (nL hgl (nT (z5 e a b d f) i))))).ch aa (Ne.symm (nN (nL hgl (nT (z5 e a b d f) i)))))
 refine st (va (pn (Q) ab ac)) (pn (Q) ab ac) (oi {(l) with Seq:=(j),Win:=(Q):PEp} I J ab ac) wN ni b6 ?_
 intro cG R b7 cH
 have aB:=ChG.ext b5 R (fun k hk=>.inr (by subst hk;exact nT (z5 e a b d f) i))
 refine n2 ?_
 have b8:=fun (E sz n:Nat) (v:Value) (P:List Value) (o:World.ownsRow D H.heap.size E sz v n P) (m:World.ownsRow D H.heap.size E sz v n P)=>(gc (gc (gc (gc (gc (mz (gc (mz o w) r (ne2 m (i))) s) A (ne1 m (nL hgl (z4 e a b d)))) B (ne2 m (i))) q (ne1 m (nL hgl (z4 e a b d)))) aa (ne1 m (nL hgl (z4 e a b d)))) R (ne2 m (i)))
 have b9:=(b8 _ _ _ _ _ K K)
 have bA:=(gc ap R (ne1 ap (nL aU (z5 r s A B q))))
 have bB:=(b3.ch R (nN (nL hgl (nT (z5 e a b d f) i))))
 exact oq [(2,(vp ad 0)),(3,(vp G 0))] ⟨rfl,rfl,trivial⟩ fun u=>a6 _ _ ⟨(Q).Top,(Q).Bits,u,I,J,ab,ac,rfl,aB,(ChO.ext (ChO.ext (ChO.ext (Ch.refl (fun k=>k=g∨D.heap.size≤k) S) q iL) aa iL) R (fun k hk=>.inr (by subst hk;exact i))),⟨(mO b9 (z4 e a b d)),az⟩,⟨(mO bA (z11 e a b d f w r s A B q)),b4⟩,b7,(Ap.lt K ap (z6 w r s A B q)),(cx bB hcr aB hcl hcn)⟩

theorem Bl (K:World) (g:Nat) (ca:Option Addr) (cc:Nat) (cb:List UInt8) (aF:ph K g 110 ca cc cb) :Fn Tryz.prog 139 #[(vp g 0)] K (fun v m=>∃ x:(PWin),Ch (fun k=>k=g) K m∧ph m g 110 ca cc cb∧BD m K.heap.size v x∧(True)):=by
 obtain ⟨ci,chh,hcb,hcr,hcl,hci,hcn⟩:=aF
 have hgl:=Blk.lt hcb
 refine nu (n:=33) [(vp g 0)] Tryz.func139 rfl rfl ?_
 refine sr<|al [(vi 0),(vs none 0 0)] wN pX ?_
 intro bQ ad o B b T
 have ao:=ChG.extk (Ch.refl (fun k=>k=g) K) b
 refine nx<|mw (vp g 0) ?_
 have aG:=(hcb.kp b)
 refine cl wN (uN ad g ca cc cb (cx aG hcr ao hcl hcn)) ?_
 rintro _ aH ⟨a,d,⟨bR,bS,aI,bT,bU,bW,bX⟩,⟨j,f,rfl,l,V,bY⟩,bZ⟩
 have aJ:=ChG.ext ao d iL
 refine al [(vi 0),(vs none 0 0)] wN pX ?_
 intro H cd i ce u aK
 have aL:=ChG.extk aJ u
 refine sv (pn (a) j f) wN ni aK ?_
 intro aM y I cg
 have ap:=ChG.ext aL y (fun k hk=>.inr (by subst hk;exact nT (z2 b d) i))
 refine n4<|mw (vp g 0) ?_
 have aN:=((aI.kp u).ch y (nN (nL hgl (nT (z2 b d) i))))
 refine cl wN (ow aM g ca cc cb (cx aN hcr ap hcl hcn) 12) ?_
 rintro _ ae ⟨E,p,⟨cj,ck,W,cm,cn,co,cp⟩,rfl,cq⟩
 have F:=ChG.ext ap p iL
 refine mW<|mP<|ng<|sr<|pu (vb (decide ((E)=0))) wN ?_
 refine aw (vb (decide ((E)=0))) ?_
 refine n2 ?_
 rcases bt (decide ((E)=0)) with L|L
 ·have cr:=dT L
  refine ct L<|mV ?_
  refine mw (vp g 0) ?_
  refine ltI ([(-2),(-1),0,700,281474976710656]:List Int) wN nf ?_
  intro cs cu r M aq
  have au:=ChG.extk F M
  have aO:=(W.kp M)
  refine cl wN (oz r g ca cc cb (cx aO hcr au hcl hcn) _ ([(-2),(-1),0,700,281474976710656]:List Int) ⟨_,_,rfl,(Rd.of_own aq),(by simp),(fun _ z hz=>by have af:=(nb aq z.block (by rw [hz];rfl)).1;have aP:=nL hgl (z5 b d u y p);omega)⟩ (by simp)) ?_
  rintro _ J ⟨A,X,⟨cv,cw,aQ,cy,cz,c0,c1⟩,rfl,aR⟩
  have aS:=ChG.ext au X iL
  have q58m:A=(-2)∨A=(-1)∨A=0∨A=700∨A=281474976710656:=by simpa using aR
  refine pu (vp H 0) wN ?_
  have aT:=(((I.ch p (Ne.symm (nN (nL hgl (nT (z2 b d) i))))).kp M).ch X (Ne.symm (nN (nL hgl (nT (z2 b d) i)))))
  refine sf (vi (A)) wN nV aT ?_
  intro av Y aU c2
  have aV:=ChG.ext aS Y (fun k hk=>.inr (by subst hk;exact nT (z2 b d) i))
  refine mW<|mQ<|mP<|sr ?_
  refine lN [(vi (A)),(vs j ((a).Bits).length f)] wN nJ ni aU ?_
  have aW:=(((((((T.ch d (Ne.symm (nN (nL hgl (o))))).kp u).ch y (nN (nL B (nT d.size i)))).ch p (Ne.symm (nN (nL hgl (o))))).kp M).ch X (Ne.symm (nN (nL hgl (o))))).ch Y (nN (nL B (nT d.size i))))
  refine sv [(vi (A)),(vs j ((a).Bits).length f)] wN ni aW ?_
  intro c3 ah aX c4
  have ax:=ChG.ext aV ah (fun k hk=>.inr (by subst hk;exact o))
  refine n3 ?_
  have aY:=(gc (gc (gc (mz (gc (gc (mz l u) y (ne2 l (i))) p (ne1 l (nL hgl b.size))) M) X (ne1 l (nL hgl b.size))) Y (ne2 l (i))) ah (ne1 l (B)))
  refine rc [(vi (A)),(vs j ((a).Bits).length f)] aX nJ ni ?_
  have aZ:=((aQ.ch Y (nN (nL hgl (nT (z2 b d) i)))).ch ah (nN (nL hgl (o))))
  exact ⟨{Top:=(A),Bits:=(a).Bits:PWin},ax,(cx aZ hcr ax hcl hcn),⟨_,_,rfl,(mO aY b.size),V,⟨trivial,trivial⟩⟩,trivial⟩
 have c5:=dF L
 refine cf L<|sr<|pu (vb (decide ((E)=1))) wN ?_
 refine aw (vb (decide ((E)=1))) ?_
 refine n2 ?_
 rcases bf (decide ((E)=1)) with N|N
 ·have c6:=dF N
  refine cf N<|sr<|pu (vb (decide ((E)=2))) wN ?_
  refine aw (vb (decide ((E)=2))) ?_
  refine n2 ?_
  rcases bf (decide ((E)=2)) with O|O
  ·have c7:=dF O
   refine cf O<|nm<|mQ<|mP<|sr ?_
   have ba:=(I.ch p (Ne.symm (nN (nL hgl (nT (z2 b d) i)))))
   refine lN (pn (a) j f) wN nJ ni ba ?_
   have bb:=((((T.ch d (Ne.symm (nN (nL hgl (o))))).kp u).ch y (nN (nL B (nT d.size i)))).ch p (Ne.symm (nN (nL hgl (o)))))
   refine sv (pn (a) j f) wN ni bb ?_
   intro r ai bc c8
   have ay:=ChG.ext F ai (fun k hk=>.inr (by subst hk;exact o))
   refine n3 ?_
   have bd:=(gc (gc (gc (mz l u) y (ne2 l (i))) p (ne1 l (nL hgl b.size))) ai (ne1 l (B)))
   refine rc (pn (a) j f) bc nJ ni ?_
   have be:=(W.ch ai (nN (nL hgl (o))))
   exact ⟨(a),ay,(cx be hcr ay hcl hcn),⟨_,_,rfl,(mO bd b.size),V,⟨trivial,trivial⟩⟩,trivial⟩
  have c9:=dT O
  refine ct O<|ob ([(26,[],[],(fun _ v _=>v=(vp H 1))),(27,[],[0],(fun _ v _=>v=(vs j ((a).Bits).length f))),(28,[],[],(fun _ v _=>v=(vp g 0))),(29,[],[2],(fun _ v _=>∃ s:Int,v=(vi s)∧0≤s∧(s < 32∨((32:Int)≤0∧s=0))))]:GV) (fun lf m=>Ch (fun k=>k=g) ae m∧ph m g 110 ca cc cb) [(3,fun w m=>Ch (fun k=>k=g) w m∧(ph w g 110 ca cc cb→ph m g 110 ca cc cb))] oM rfl (by kernel_rfl) (by kernel_rfl) ?_ (fun _ _ h=>⟨h.to _,ph.kp (cx W hcr F hcl hcn) h⟩) (fun _ _ _ _ h mo k=>by obtain ⟨hc,hcur⟩:=h;exact ⟨hc.comp k (fun _ _ q=>q.elim),hcur.kp k⟩) ⟨(fun _ _ w m h mo hj t=>by obtain ⟨hc,hcur⟩:=h;exact ⟨hc.comp t.1 (fun _ _ q=>q),t.2 hcur⟩),trivial⟩ ?_ ?_ ?_
  ·exact ⟨hV,hE,⟨hV,hE,⟨hV,hE,⟨hV,hE,trivial⟩⟩⟩⟩
  ·exact ⟨⟨.inr hV,⟨.inr hV,⟨.inr hV,⟨.inl rfl,trivial⟩⟩⟩⟩,trivial⟩
  ·refine ⟨?_,⟨?_,⟨?_,⟨?_,trivial⟩⟩⟩⟩
   ·rintro lf r ⟨cC,⟨cD,cE,cF,cG,cH,cI,cJ⟩⟩ ⟨cK,-⟩
    rintro _ _ _ _
    refine sw<|pu (vp H 1) wN ?_
    exact f1
   ·rintro lf r ⟨bg,⟨cL,cM,cN,cO,cP,cQ,cR⟩⟩ ⟨cS,-⟩
    rintro _ rfl _ _ _
    refine sw ?_
    have bh:=((I.ch p (Ne.symm (nN (nL hgl (nT (z2 b d) i))))).ch bg (Ne.symm (nN (nL hgl (nT (z2 b d) i)))))
    refine ld (vs j ((a).Bits).length f) wN oA bh ?_
    exact f1
   ·rintro lf r ⟨cT,⟨cU,cV,cW,cX,cY,cZ,da⟩⟩ ⟨db,-⟩
    rintro _ _ _ _
    refine sw<|mw (vp g 0) ?_
    exact f1
   ·rintro lf r ⟨bi,⟨dc,dd,bj,de,df,dg,dh⟩⟩ ⟨di,-⟩
    have az:=ChG.ext F bi iL
    rintro _ _ _ rfl _
    refine sw<|cl wN (ow r g ca cc cb (cx bj hcr az hcl hcn) 32) ?_
    rintro _ J ⟨dj,a0,⟨dk,dl,bk,dm,dn,dp,dq⟩,rfl,bl⟩
    have bm:=ChG.ext az a0 iL
    exact nK ⟨a0,fun _=>(cx bk hcr bm hcl hcn)⟩ ⟨_,rfl,bl⟩
  ·rintro lf r ⟨Z,⟨dr,ds,bn,dt,du,dv,dw⟩⟩
   have bo:=ChG.ext F Z iL
   rintro _ rfl _ rfl _ rfl _ ⟨s,rfl,dx⟩
   refine sw ?_
   have a1:=(gc (gc (gc (mz l u) y (ne2 l (i))) p (ne1 l (nL hgl b.size))) Z (ne1 l (nL hgl b.size)))
   refine slv (((a).Bits).take ((s).toNat)) 0 ((s).toNat) wN nf (Rd.of_own a1) (by first|omega|(simp <;> omega)) (by first|omega|(simp <;> omega)) (by first|rfl|(simp;done)|(rw [List.take_of_length_le (by first|(simp;done)|(simp;omega))])) rfl rfl rfl rfl (.inl ⟨rfl,rfl⟩) (.inr ⟨_,_,_,rfl,rfl,by omega⟩) ?_
   have a2:=yr (k:=((s).toNat)) a1 (by first|omega|(simp <;> omega))
   have bp:(((a).Bits).take ((s).toNat)).length≤1073741824:=nT (by simp only [List.length_take];omega) V
   refine pu (vp H 1) wN ?_
   have a3:=((I.ch p (Ne.symm (nN (nL hgl (nT (z2 b d) i))))).ch Z (Ne.symm (nN (nL hgl (nT (z2 b d) i)))))
   refine sf (vs (tX j f 0 1) (((a).Bits).take ((s).toNat)).length (f - 0)) wN vo a3 ?_
   intro J aa bq dy
   have br:=ChG.ext bo aa (fun k hk=>.inr (by subst hk;exact nT (z2 b d) i))
   refine mW<|mQ<|mP<|sr ?_
   refine lN [(vi ((a).Top)),(vs (tX j f 0 1) (((a).Bits).take ((s).toNat)).length (f - 0))] wN nJ ni bq ?_
   have bu:=((((((T.ch d (Ne.symm (nN (nL hgl (o))))).kp u).ch y (nN (nL B (nT d.size i)))).ch p (Ne.symm (nN (nL hgl (o))))).ch Z (Ne.symm (nN (nL hgl (o))))).ch aa (nN (nL B (nT d.size i))))
   refine sv [(vi ((a).Top)),(vs (tX j f 0 1) (((a).Bits).take ((s).toNat)).length (f - 0))] wN ni bu ?_
   intro av aj bv dz
   have a4:=ChG.ext br aj (fun k hk=>.inr (by subst hk;exact o))
   refine n3 ?_
   have bw:=(gc (ny a2 a3 (by decide) aa) aj (ne1 a2 (B)))
   refine rc [(vi ((a).Top)),(vs (tX j f 0 1) (((a).Bits).take ((s).toNat)).length (f - 0))] bv nJ ni ?_
   have bz:=((bn.ch aa (nN (nL hgl (nT (z2 b d) i)))).ch aj (nN (nL hgl (o))))
   exact ⟨{Top:=(a).Top,Bits:=(((a).Bits).take ((s).toNat)):PWin},a4,(cx bz hcr a4 hcl hcn),⟨_,_,rfl,(mO bw b.size),bp,⟨trivial,trivial⟩⟩,trivial⟩
 have d0:=dT N
 refine ct N<|ob ([(16,[],[],(fun _ v _=>v=(vp H 1))),(17,[],[0],(fun _ v _=>v=(vs j ((a).Bits).length f))),(18,[],[],(fun _ v _=>v=(vp g 0))),(19,[],[2],(fun _ v _=>∃ D:Int,v=(vi D)∧0≤D∧(D < 32∨((32:Int)≤0∧D=0)))),(20,[],[],(fun _ v _=>v=(vp g 0))),(21,[],[],(fun _ v w=>∃ (ak:Option Addr) (am:Nat),v=.slice ak ([(-1),0,1,4294967295,4294967296]:List Int).length am∧w.ownsRow ae.heap.size 3 1 (.slice ak ([(-1),0,1,4294967295,4294967296]:List Int).length am) ([(-1),0,1,4294967295,4294967296]:List Int).length (([(-1),0,1,4294967295,4294967296]:List Int).map iV)∧([(-1),0,1,4294967295,4294967296]:List Int).length≤1073741824∧Aps [(ak,am)])),(22,[],[2,3,4,5],(fun _ v _=>∃ C:Int,v=(vi C)∧C ∈ ([(-1),0,1,4294967295,4294967296]:List Int)))]:GV) (fun lf m=>Ch (fun k=>k=g) ae m∧ph m g 110 ca cc cb) [(3,fun w m=>Ch (fun k=>k=g) w m∧(ph w g 110 ca cc cb→ph m g 110 ca cc cb)),(6,fun w m=>Ch (fun k=>k=g) w m∧(ph w g 110 ca cc cb→ph m g 110 ca cc cb))] oM rfl (by kernel_rfl) (by kernel_rfl) ?_ (fun _ _ h=>⟨h.to _,ph.kp (cx W hcr F hcl hcn) h⟩) (fun _ _ _ _ h mo k=>by obtain ⟨hc,hcur⟩:=h;exact ⟨hc.comp k (fun _ _ q=>q.elim),hcur.kp k⟩) ⟨(fun _ _ w m h mo hj t=>by obtain ⟨hc,hcur⟩:=h;exact ⟨hc.comp t.1 (fun _ _ q=>q),t.2 hcur⟩),⟨(fun _ _ w m h mo hj t=>by obtain ⟨hc,hcur⟩:=h;exact ⟨hc.comp t.1 (fun _ _ q=>q),t.2 hcur⟩),trivial⟩⟩ ?_ ?_ ?_
 ·exact ⟨hV,hE,⟨hV,hE,⟨hV,hE,⟨hV,hE,⟨hV,hE,⟨(fun e v w ad h hk=>by obtain ⟨P,Q,he,G,R,hap⟩:=h;exact ⟨P,Q,he,mz G hk,R,hap⟩),hE,⟨hV,hE,trivial⟩⟩⟩⟩⟩⟩⟩
 ·exact ⟨⟨.inr hV,⟨.inr hV,⟨.inr hV,⟨.inl rfl,⟨.inr hV,⟨.inr (fun e v wX wY h ht=>by obtain ⟨P,Q,he,G,R,hap⟩:=h;exact ⟨P,Q,he,gc G ht.1 (fun gq hg _ hk=>by have af:=(nb G gq hg).1;have b0:gq=g:=hk;have b1:=(nL hgl (z5 b d u y p));omega),R,hap⟩),⟨.inr hV,trivial⟩⟩⟩⟩⟩⟩⟩,⟨⟨.inr hV,⟨.inr hV,⟨.inr hV,⟨.inr hV,⟨.inr hV,⟨.inr (fun e v wX wY h ht=>by obtain ⟨P,Q,he,G,R,hap⟩:=h;exact ⟨P,Q,he,gc G ht.1 (fun gq hg _ hk=>by have af:=(nb G gq hg).1;have b0:gq=g:=hk;have b1:=(nL hgl (z5 b d u y p));omega),R,hap⟩),⟨.inl rfl,trivial⟩⟩⟩⟩⟩⟩⟩,trivial⟩⟩
 ·refine ⟨?_,⟨?_,⟨?_,⟨?_,⟨?_,⟨?_,⟨?_,trivial⟩⟩⟩⟩⟩⟩⟩
  ·rintro lf r ⟨d1,⟨d2,d3,d4,d5,d6,d7,d8⟩⟩ ⟨d9,dA,-⟩
   rintro _ _ _ _ _ _ _
   refine sw<|pu (vp H 1) wN ?_
   exact f1
  ·rintro lf r ⟨b2,⟨dB,dC,dD,dE,dG,dH,dI⟩⟩ ⟨dJ,dK,-⟩
   rintro _ rfl _ _ _ _ _ _
   refine sw ?_
   have b3:=((I.ch p (Ne.symm (nN (nL hgl (nT (z2 b d) i))))).ch b2 (Ne.symm (nN (nL hgl (nT (z2 b d) i)))))
   refine ld (vs j ((a).Bits).length f) wN oA b3 ?_
   exact f1
  ·rintro lf r ⟨dL,⟨dM,dN,dO,dP,dQ,dR,dS⟩⟩ ⟨dU,dV,-⟩
   rintro _ _ _ _ _ _ _
   refine sw<|mw (vp g 0) ?_
   exact f1
  ·rintro lf r ⟨b4,⟨dW,dX,b5,dY,dZ,ea,ec⟩⟩ ⟨ed,ee,-⟩
   have a5:=ChG.ext F b4 iL
   rintro _ _ _ rfl _ _ _ _
   refine sw<|cl wN (ow r g ca cc cb (cx b5 hcr a5 hcl hcn) 32) ?_
   rintro _ J ⟨ef,a6,⟨eg,eh,b6,ej,ek,em,en⟩,rfl,b7⟩
   have b8:=ChG.ext a5 a6 iL
   exact nK ⟨a6,fun _=>(cx b6 hcr b8 hcl hcn)⟩ ⟨_,rfl,b7⟩
  ·rintro lf r ⟨eo,⟨ep,er,es,et,eu,ew,ex⟩⟩ ⟨ey,ez,-⟩
   rintro _ _ _ _ _ _ _
   refine sw<|mw (vp g 0) ?_
   exact f1
  ·rintro lf r ⟨b9,⟨e0,e1,e2,e3,e4,e5,e6⟩⟩ ⟨e7,e8,-⟩
   rintro _ _ _ _ _ _ _
   refine sw<|ltI ([(-1),0,1,4294967295,4294967296]:List Int) wN nf ?_
   intro e9 eA J bA bB
   exact nK bA ⟨_,_,rfl,(mO bB b9.size),(by simp),⟨trivial,trivial⟩⟩
  ·rintro lf r ⟨bC,⟨eB,eC,bD,eD,eE,eF,eG⟩⟩ ⟨eH,eI,-⟩
   have a7:=ChG.ext F bC iL
   rintro _ _ _ rfl _ ⟨D,rfl,eJ⟩ _ rfl _ ⟨eK,eL,rfl,a8,bE,-⟩ _
   refine sw<|cl wN (oz r g ca cc cb (cx bD hcr a7 hcl hcn) _ ([(-1),0,1,4294967295,4294967296]:List Int) ⟨_,_,rfl,(Rd.of_own a8),bE,(fun _ z hz=>by have af:=(nb a8 z.block (by rw [hz];rfl)).1;have aP:=nL hgl (z5 b d u y p);omega)⟩ (by simp)) ?_
   rintro _ J ⟨S,a9,⟨eM,eN,bF,eO,eP,eQ,eR⟩,rfl,aA⟩
   have bG:=ChG.ext a7 a9 iL
   have q228m:S=(-1)∨S=0∨S=1∨S=4294967295∨S=4294967296:=by simpa using aA
   exact nK ⟨a9,fun _=>(cx bF hcr bG hcl hcn)⟩ ⟨_,rfl,aA⟩
 ·rintro lf r ⟨ab,⟨eS,eT,bH,eU,eV,eW,eX⟩⟩
  have bI:=ChG.ext F ab iL
  rintro _ rfl _ rfl _ rfl _ ⟨D,rfl,eY⟩ _ rfl _ ⟨eZ,fa,rfl,fb,fc,-⟩ _ ⟨C,rfl,bJ⟩
  have q255m:C=(-1)∨C=0∨C=1∨C=4294967295∨C=4294967296:=by simpa using bJ
  refine sw ?_
  have aB:=(gc (gc (gc (mz l u) y (ne2 l (i))) p (ne1 l (nL hgl b.size))) ab (ne1 l (nL hgl b.size)))
  refine ix wN D nf (Rd.of_own aB) ?_
  refine pR ((a).Bits) ((D).toNat) (C) wN rfl rfl rfl (by simp) rfl nV aB (by first|omega|(simp only [List.length_append,List.length_replicate,List.length_take,List.length_set,List.length_map];omega)) ?_
  intro J ac bK
  have bL:=ChG.ext bI ac (fun k hk=>.inr (nT b.size (nb l k hk).1))
  refine mW<|mQ<|mP<|sr ?_
  have bM:=(((I.ch p (Ne.symm (nN (nL hgl (nT (z2 b d) i))))).ch ab (Ne.symm (nN (nL hgl (nT (z2 b d) i))))).ch ac (fun h=>by have:=(nb l _ h).2;have:=nT (Nat.le_refl aH.heap.size) i;omega))
  refine lN [(vi ((a).Top)),(vs j ((a).Bits).length f)] wN nJ ni bM ?_
  have bN:=((((((T.ch d (Ne.symm (nN (nL hgl (o))))).kp u).ch y (nN (nL B (nT d.size i)))).ch p (Ne.symm (nN (nL hgl (o))))).ch ab (Ne.symm (nN (nL hgl (o))))).ch ac (fun h=>by have:=(nb l _ h).1;have:=nL B (Nat.le_refl ad.heap.size);omega))
  refine sv [(vi ((a).Top)),(vs j ((a).Bits).length f)] wN ni bN ?_
  intro av an bO fd
  have aC:=ChG.ext bL an (fun k hk=>.inr (by subst hk;exact o))
  refine n3 ?_
  have aD:=(gc bK an (ne1 l (B)))
  refine rc [(vi ((a).Top)),(vs j ((a).Bits).length f)] bO nJ ni ?_
  have aE:((a).Bits).length=((((a).Bits).set ((D).toNat) C)).length:=by first|(simp only [List.length_append,List.length_take,List.length_replicate,List.length_set,List.length_map];done)|(simp only [List.length_append,List.length_take,List.length_replicate,List.length_set,List.length_map];omega)
  rw [aE] at aD ⊢
  have bP:=((bH.ch ac (fun h=>by have:=(nb l _ h).1;have:=nL hgl b.size;omega)).ch an (nN (nL hgl (o))))
  exact ⟨{Top:=(a).Top,Bits:=(((a).Bits).set ((D).toNat) C):PWin},aC,(cx bP hcr aC hcl hcn),⟨_,_,rfl,(mO aD b.size),(by rw [← aE];exact V),⟨trivial,trivial⟩⟩,trivial⟩
end Go.Proofs.YtacoceibbheccaaGreat.K
