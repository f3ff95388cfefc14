import Derived.Test.YtacoceibbheccaaGreatCore
import Derived.Test.YtacoceibbheccaaGreatProg
import Derived.Test.YtacoceibbheccaaGreatHeld
import Derived.Test.YtacoceibbheccaaGreatFun
import Derived.Test.YtacoceibbheccaaGreatFunZ
import Derived.Test.YtacoceibbheccaaGreatSqz
import Derived.Test.YtacoceibbheccaaGreatHash
import Derived.Test.YtacoceibbheccaaGreatCur
import Derived.Test.YtacoceibbheccaaGreatDrawW
import Derived.Test.YtacoceibbheccaaGreatAead
import Derived.Test.YtacoceibbheccaaGreatWe5
namespace Go.Proofs.YtacoceibbheccaaGreat.K
open Go.RowKit
set_option linter.unusedVariables false
set_option linter.unusedSimpArgs false
set_option maxRecDepth 100000
set_option maxHeartbeats 4000000
theorem Sh (e:World) (L:Value) (b:List UInt8) (ab:HP e L b) (M:Value) (a:List UInt8) (ac:HP e M a) (d:Int) :Fn Tryz.prog 146 #[L,M,(vi d)] e (fun v o=>Keep e o∧JF o e.heap.size v (FC b a d)):=by
 obtain ⟨h,i,rfl,N,ad⟩:=ab
 obtain ⟨j,m,rfl,O,ae⟩:=ac
 refine FI (n:=41) [(vs h b.length i),(vs j a.length m),(vi d)] Tryz.func146 rfl rfl ?_
 refine sr<|aw (vs none 0 0) ?_
 refine n4<|jT1 [(0,(vs h b.length i)),(1,(vs j a.length m)),(2,(vi d)),(6,(vs none 0 0))] (FC b a d=[]) ?_ fun F=>?_
 ·intro af p P a9
  refine sr<|Gc wN rfl rfl tD (fun w=>by kernel_rfl) ?_
  intro Q A ah ai
  have aj:=((Ch.base e).extk P).extk ah
  refine aw (vs (some Q) 0 0) ?_
  refine n1<|rt (vs (some Q) 0 0) ?_
  refine ⟨aj.keep0,?_⟩
  rw [af]
  exact ⟨_,_,rfl,(tA ai P.size),(by simp),⟨trivial,trivial⟩⟩
 refine mw (vi d) ?_
 refine cl wN (HO e d 0 200) ?_
 rintro _ p ⟨q,rfl⟩
 have G:=(Ch.base e).extk q
 refine pu (vb (!(FP d 0 200))) wN ?_
 refine mw (vb (!(FP d 0 200))) ?_
 rcases bf (FP d 0 200) with f|f
 ·have aA:=Gp f
  iterate 3 refine sk (cA not f) ?_
  refine pk (vb true) wN (cA not f) ?_
  refine mw (vb true) ?_
  iterate 3 refine sk T1 ?_
  refine pk (vb true) wN T1 ?_
  refine n2<|ct T1 ?_
  have ak:FC b a d=[]:=by first|exact IV (by omega)|exact Jo (by omega) (by omega) (by omega) (by omega) (by omega) (by omega)
  exact wj (F ak _ q)
 have aB:=FZ f
 refine mv (vs j a.length m) (wS (cA not f)) ?_
 refine ln (wS (cA not f)) tD (O.from0 G) ?_
 refine pu (vb (decide (100 < (a.length:Int)))) (wS (cA not f)) ?_
 refine pf (vb (decide (100 < (a.length:Int)))) wN (cA not f) ?_
 refine mw (vb (decide (100 < (a.length:Int)))) ?_
 rcases bt (decide (100 < (a.length:Int))) with g|g
 ·have aC:=dT g
  iterate 3 refine sk g ?_
  refine pk (vb true) wN g ?_
  refine n2<|ct T1 ?_
  have am:FC b a d=[]:=by first|exact IV (by omega)|exact Jo (by omega) (by omega) (by omega) (by omega) (by omega) (by omega)
  exact wj (F am _ q)
 have aD:=dF g
 refine mv (vs h b.length i) (wS g) ?_
 refine ln (wS g) tD (N.from0 G) ?_
 refine pu (vb (decide (1048576 < (b.length:Int)))) (wS g) ?_
 refine pf (vb (decide (1048576 < (b.length:Int)))) wN g ?_
 refine n2 ?_
 rcases bt (decide (1048576 < (b.length:Int))) with t|t
 ·have aE:=dT t
  refine ct t ?_
  have an:FC b a d=[]:=by first|exact IV (by omega)|exact Jo (by omega) (by omega) (by omega) (by omega) (by omega) (by omega)
  exact wj (F an _ q)
 have aF:=dF t
 refine cf t<|y1<|Gc wN rfl rfl tD (fun w=>by kernel_rfl) ?_
 intro H A I ao
 have ap:=G.extk I
 refine aw (vs (some H) 0 0) ?_
 refine n4<|aw (vi 0) ?_
 refine uD<|rg<|uJ ?_
 have R:([]:List UInt8)=HZ b a 0:=by rfl
 have S:0=(HZ b a 0).length:=by rw [← R];try (first|rfl|simp only [List.length_set]|simp)
 refine Ge [(0,(vs h b.length i)),(1,(vs j a.length m)),(2,(vi d)),(6,(vs none 0 0)),(7,(.slice (some H) (HZ b a 0).length 0)),(8,(vi ((0:Nat):Int)))] ⟨rfl,rfl,rfl,rfl,rfl,(cA (Value.int .i64) (show (0:Int)=((0:Nat):Int) by omega)),trivial⟩ (fun e' o=>∃ (k:Nat) (T:Env) (r:Option Addr) (s:Nat),e'=pt T [(0,(vs h b.length i)),(1,(vs j a.length m)),(2,(vi d)),(6,(vs none 0 0)),(7,(.slice r (HZ b a k).length s)),(8,(vi ((k:Nat):Int)))]∧Ch (fun k=>e.heap.size≤k) e o∧Ch (fun k=>p.heap.size≤k) A o∧32*((k:Nat):Int) < d+32∧(World.ownsRow o p.heap.size 5 1 (.slice r (HZ b a k).length s) (HZ b a k).length ((HZ b a k).map bV)∧(HZ b a k).length≤1073741824)) (fun e' _=>d.toNat - (lenOf (e' 7))) ?_ ?_
 ·exact fun u=>⟨0,u,(some H),0,rfl,ap,(Ch.refl (fun k=>p.heap.size≤k) A),(by omega),⟨(by rw [← S,← R];exact ao),(by rw [← S];first|exact (by simp)|(simp only [List.length_append,List.length_take,List.length_replicate];omega))⟩⟩
 ·rintro _ V ⟨k,T,r,s,rfl,B,J,aG,⟨x,aq⟩⟩
  have hsl:=MK (key:=b) (head:=a) (by omega) (by omega) k
  have hsm:=MK (key:=b) (head:=a) (by omega) (by omega) (k+1)
  refine uK<|sr<|mw (vs r (HZ b a k).length s) ?_
  refine ln wN tD (Rd.of_own x) ?_
  refine mw (vi d) ?_
  refine pu (vb (decide (((HZ b a k).length:Int) < d))) wN ?_
  refine n2 ?_
  rcases bt (decide (((HZ b a k).length:Int) < d)) with y|y
  ·have aH:=dT y
   refine ct y<|FR<|rg<|uK<|uJ<|uG ?_
   refine mw (vs r (HZ b a k).length s) ?_
   refine mw (vs h b.length i) ?_
   refine mw (vs j a.length m) ?_
   refine mw (vi ((k:Nat):Int)) ?_
   refine cl wN (QU V _ b (FV (N.from0 B) ad) _ a (FV (O.from0 B) ae) ((k:Nat):Int)) ?_
   rintro _ au ⟨C,⟨aI,aJ,rfl,av,_⟩⟩
   have aK:=LY b a ((k:Nat):Int)
   have ax:=(gc x C)
   refine apB (HZ b a k) (Jl b a ((k:Nat):Int)) wN tD ax (Rd.of_own av) (z3 I J C) ?_
   intro D E ay W az aL a0
   have a1:=(B.extk C).ext W (fun k hk=>nT q.size (uI x k hk).1)
   refine aw (vs D ((HZ b a k)++(Jl b a ((k:Nat):Int))).length E) ?_
   refine uD<|uB<|rg<|uG ?_
   refine mw (vi ((k:Nat):Int)) ?_
   refine ar (((k:Nat):Int)+1) wN ?_
   refine aw (vi (((k:Nat):Int)+1)) ?_
   refine uD ?_
   have X:(((HZ b a k)++(Jl b a ((k:Nat):Int))):List UInt8)=HZ b a (k+1):=by rfl
   refine FX (w0:=V) [(0,(vs h b.length i)),(1,(vs j a.length m)),(2,(vi d)),(6,(vs none 0 0)),(7,(.slice D (HZ b a (k+1)).length E)),(8,(vi (((k+1):Nat):Int)))] ?_ ?_ ?_
   · exact ⟨rfl,rfl,rfl,rfl,(cA (fun l:List UInt8=>Value.slice D l.length E) X),(cA (Value.int .i64) (show ((((k:Nat):Int)+1):Int)=(((k+1):Nat):Int) by omega)),trivial⟩
   · exact fun u=>⟨(k+1),u,D,E,rfl,a1,((((Ch.refl (fun k=>p.heap.size≤k) A).ext J (fun k hk=>hk)).extk C).ext W (fun k hk=>nT (Nat.le_refl p.heap.size) (uI x k hk).1)),(by omega),(X ▸ ⟨az,a0⟩)⟩
   · show d.toNat - (HZ b a (k+1)).length < d.toNat - (HZ b a k).length;omega
  have aM:=dF y
  refine cf y<|Gn<|uA<|uA<|wr<|rg<|sr<|Gc wN rfl rfl tD (fun w=>by kernel_rfl) ?_
  intro aN au K a2
  refine mw (vs r (HZ b a k).length s) ?_
  refine mw (vi d) ?_
  have Y:=(gc x K)
  refine slv ((HZ b a k).take ((d).toNat)) 0 ((d).toNat) wN tD (Rd.of_own Y) (by first|omega|(simp <;> omega)) (by first|omega|(simp <;> omega)) (by first|rfl|(simp;done)|(rw [List.take_of_length_le (by first|(simp;done)|(simp;omega))])) rfl rfl rfl rfl (.inl ⟨rfl,rfl⟩) (.inr ⟨_,_,_,rfl,rfl,by omega⟩) ?_
  have a3:0≤((d).toNat):=(by first|omega|(simp <;> omega))
  have a4:((d).toNat)≤(HZ b a k).length:=(by first|omega|(simp <;> omega))
  refine ap0 ((HZ b a k).take ((d).toNat)) wN tD a2 (Rd.subV (x':=((HZ b a k).take ((d).toNat))) (Rd.of_own Y) a3 a4 (by first|rfl|(simp;done)|(rw [List.take_of_length_le (by first|(simp;done)|(simp;omega))]))) K.size ?_
  intro Z aa ay a5 a6 aO
  have a7:=(B.extk K).extk a5
  refine aw (vs Z ((HZ b a k).take ((d).toNat)).length aa) ?_
  refine n3<|rt (vs Z ((HZ b a k).take ((d).toNat)).length aa) ?_
  refine ⟨a7.keep0,?_⟩
  have a8:FC b a d=((HZ b a k).take ((d).toNat)):=by first|exact IV (by omega)|exact Jo (by omega) (by omega) (by omega) (by omega) (by omega) (by omega)
  rw [a8]
  exact ⟨_,_,rfl,(tA a6 (z3 q I J)),(nT (by simp only [List.length_take,List.length_drop];omega) aq),⟨trivial,trivial⟩⟩

theorem Vb (f:World) (ac:Value) (d:List UInt8) (az:HP f ac d) (ad:Value) (b:List UInt8) (a0:HP f ad b) (ae:Value) (a:List UInt8) (a1:HP f ae a) :Fn Tryz.prog 113 #[ac,ad,ae] f (fun v q=>Keep f q∧JF q f.heap.size v (Ia d b a)):=by
 obtain ⟨A,J,rfl,af,a2⟩:=az
 obtain ⟨K,L,rfl,ah,a3⟩:=a0
 obtain ⟨i,j,rfl,E,be⟩:=a1
 refine FI (n:=49) [(vs A d.length J),(vs K b.length L),(vs i a.length j)] Tryz.func113 rfl rfl ?_
 refine sr<|aw (vs none 0 0) ?_
 refine nx<|Gc wN rfl rfl tD (fun w=>by kernel_rfl) ?_
 intro D M ai T
 have B:=(Ch.base f).extk ai
 refine aw (vs (some D) 0 0) ?_
 refine n4<|jT1 [(0,(vs A d.length J)),(1,(vs K b.length L)),(2,(vs i a.length j)),(6,(vs none 0 0)),(7,(vs (some D) 0 0))] (Ia d b a=[]) ?_ fun V=>?_
 ·intro a4 N aj bg
  have a5:=B.extk aj
  refine sr<|mw (vs (some D) 0 0) ?_
  refine aw (vs (some D) 0 0) ?_
  refine n1 ?_
  have a6:=(gc T aj)
  refine rt (vs (some D) 0 0) ?_
  refine ⟨a5.keep0,?_⟩
  rw [a4]
  exact ⟨_,_,rfl,a6,(by simp),⟨trivial,trivial⟩⟩
 refine mw (vs i a.length j) ?_
 refine ln wN tD (E.from0 B) ?_
 refine pu (vb (decide (200 < (a.length:Int)))) wN ?_
 refine mw (vb (decide (200 < (a.length:Int)))) ?_
 rcases bt (decide (200 < (a.length:Int))) with r|r
 ·have bh:=dT r
  iterate 3 refine sk r ?_
  refine pk (vb true) wN r ?_
  refine mw (vb true) ?_
  iterate 3 refine sk T1 ?_
  refine pk (vb true) wN T1 ?_
  refine n2<|ct T1 ?_
  have a7:Ia d b a=[]:=by first|exact KH (by omega)|exact Ln (by omega) (by omega) (by omega) (by omega)
  exact wj (V a7 _ (Ch.refl _ _))
 have bi:=dF r
 refine mv (vs K b.length L) (wS r) ?_
 refine ln (wS r) tD (ah.from0 B) ?_
 refine pu (vb (decide (100 < (b.length:Int)))) (wS r) ?_
 refine pf (vb (decide (100 < (b.length:Int)))) wN r ?_
 refine mw (vb (decide (100 < (b.length:Int)))) ?_
 rcases bt (decide (100 < (b.length:Int))) with s|s
 ·have bj:=dT s
  iterate 3 refine sk s ?_
  refine pk (vb true) wN s ?_
  refine n2<|ct T1 ?_
  have a8:Ia d b a=[]:=by first|exact KH (by omega)|exact Ln (by omega) (by omega) (by omega) (by omega)
  exact wj (V a8 _ (Ch.refl _ _))
 have bk:=dF s
 refine mv (vs A d.length J) (wS s) ?_
 refine ln (wS s) tD (af.from0 B) ?_
 refine pu (vb (decide (1048576 < (d.length:Int)))) (wS s) ?_
 refine pf (vb (decide (1048576 < (d.length:Int)))) wN s ?_
 refine n2 ?_
 rcases bt (decide (1048576 < (d.length:Int))) with F|F
 ·have bl:=dT F
  refine ct F ?_
  have a9:Ia d b a=[]:=by first|exact KH (by omega)|exact Ln (by omega) (by omega) (by omega) (by omega)
  exact wj (V a9 _ (Ch.refl _ _))
 have bm:=dF F
 refine cf F<|y1<|mw (vs A d.length J) ?_
 refine mw (vs K b.length L) ?_
 refine mw (vs i a.length j) ?_
 refine ln wN tD (E.from0 B) ?_
 refine cl wN (Sh M _ d (FV (af.from0 B) a2) _ b (FV (ah.from0 B) a3) (a.length:Int)) ?_
 rintro _ N ⟨W,⟨O,P,rfl,ak,aA,bn⟩⟩
 have aB:=B.extk W
 have bo:=Iz d b (a.length:Int)
 refine aw (vs O (FC d b (a.length:Int)).length P) ?_
 refine n4<|aw (vi 0) ?_
 refine uD<|rg<|uJ ?_
 have aC:=(gc T W)
 have am:([]:List UInt8)=IL (a.take 0) ((FC d b (a.length:Int)).take 0):=by rfl
 have an:0=(IL (a.take 0) ((FC d b (a.length:Int)).take 0)).length:=by rw [← am];try (first|rfl|simp only [List.length_set]|simp)
 have ao:((FC d b (a.length:Int)):List UInt8)=(FC d b (a.length:Int)):=by rfl
 refine Ge [(2,(vs i a.length j)),(6,(vs none 0 0)),(7,(.slice (some D) (IL (a.take 0) ((FC d b (a.length:Int)).take 0)).length 0)),(8,(.slice O ((FC d b (a.length:Int))).length P)),(9,(vi ((0:Nat):Int)))] ⟨rfl,rfl,rfl,(cA (fun l:List UInt8=>Value.slice O l.length P) ao),(cA (Value.int .i64) (show (0:Int)=((0:Nat):Int) by omega)),trivial⟩ (fun e' q=>∃ (k:Nat) (ap:Env) (t:Option Addr) (C:Nat) (p:Option Addr) (y:Nat),e'=pt ap [(2,(vs i a.length j)),(6,(vs none 0 0)),(7,(.slice t (IL (a.take k) ((FC d b (a.length:Int)).take k)).length C)),(8,(.slice p ((FC d b (a.length:Int))).length y)),(9,(vi ((k:Nat):Int)))]∧Ch (fun k=>f.heap.size≤k) f q∧Ch (fun k=>f.heap.size≤k) N q∧k≤a.length∧(World.ownsRow q f.heap.size 5 1 (.slice t (IL (a.take k) ((FC d b (a.length:Int)).take k)).length C) (IL (a.take k) ((FC d b (a.length:Int)).take k)).length ((IL (a.take k) ((FC d b (a.length:Int)).take k)).map bV)∧(IL (a.take k) ((FC d b (a.length:Int)).take k)).length≤1073741824)∧(World.ownsRow q M.heap.size 5 1 (.slice p ((FC d b (a.length:Int))).length y) ((FC d b (a.length:Int))).length (((FC d b (a.length:Int))).map bV)∧((FC d b (a.length:Int))).length≤1073741824)∧NeS t p) (fun e' _=>a.length - ((intOf (e' 9))).toNat) ?_ ?_
 ·exact fun u=>⟨0,u,(some D),0,O,P,rfl,aB,(Ch.refl (fun k=>f.heap.size≤k) N),(by omega),⟨(by rw [← an,← am];exact aC),(by rw [← an];first|exact (by simp)|(simp only [List.length_append,List.length_take,List.length_replicate];omega))⟩,(ao ▸ ⟨ak,aA⟩),(NeS.lt T ak (Nat.le_refl M.heap.size))⟩
 ·rintro _ X ⟨k,ap,t,C,p,y,rfl,G,aq,bp,⟨Q,aD⟩,⟨Y,aE⟩,au⟩
  have hzl:=PT a (FC d b (a.length:Int)) k
  have hsl:=Iz d b (a.length:Int)
  refine uK<|sr<|mw (vi ((k:Nat):Int)) ?_
  refine mw (vs i a.length j) ?_
  refine ln wN tD (E.from0 G) ?_
  refine pu (vb (decide (((k:Nat):Int) < (a.length:Int)))) wN ?_
  refine n2 ?_
  rcases bf (decide (((k:Nat):Int) < (a.length:Int))) with H|H
  ·have bq:=dF H
   refine cf H<|Gn<|uA<|uA<|wr<|rg<|sr<|mw (vs t (IL (a.take k) ((FC d b (a.length:Int)).take k)).length C) ?_
   refine aw (vs t (IL (a.take k) ((FC d b (a.length:Int)).take k)).length C) ?_
   refine n3<|rt (vs t (IL (a.take k) ((FC d b (a.length:Int)).take k)).length C) ?_
   refine ⟨G.keep0,?_⟩
   have aF:Ia d b a=(IL (a.take k) ((FC d b (a.length:Int)).take k)):=by first|exact KH (by omega)|exact Ln (by omega) (by omega) (by omega) (by omega)
   rw [aF]
   exact ⟨_,_,rfl,Q,aD,⟨trivial,trivial⟩⟩
  have br:=dT H
  refine ct H<|FR<|rg<|uK<|uJ<|Ga ([(36,[],[],(fun _ v _=>v=(vs t (IL (a.take k) ((FC d b (a.length:Int)).take k)).length C))),(37,[],[],(fun _ v _=>v=(vs i a.length j))),(38,[],[],(fun _ v _=>v=(vi ((k:Nat):Int)))),(39,[],[1,2],(fun _ v _=>v=(ve (vs i a.length j) ((((k:Nat):Int)).toNat*1)))),(40,[],[1,2,3],(fun _ v _=>v=(v8 ((a.getD k 0).toNat:Int)))),(41,[],[],(fun _ v _=>v=(vs p ((FC d b (a.length:Int))).length y))),(42,[],[],(fun _ v _=>v=(vi ((k:Nat):Int)))),(43,[],[5,6],(fun _ v _=>v=(ve (vs p ((FC d b (a.length:Int))).length y) ((((k:Nat):Int)).toNat*1)))),(44,[],[5,6,7],(fun _ v _=>v=(v8 (((FC d b (a.length:Int)).getD k 0).toNat:Int)))),(45,[],[1,2,3,4,5,6,7,8],(fun _ v _=>v=(v8 (((a.getD k 0)^^^((FC d b (a.length:Int)).getD k 0)).toNat:Int)))),(46,[],[1,2,3,4,5,6,7,8,9],(fun _ v w=>∃ (A:Option Addr) (Z:Nat),v=.slice A ([((a.getD k 0)^^^((FC d b (a.length:Int)).getD k 0))]:List UInt8).length Z∧w.ownsRow X.heap.size 5 1 (.slice A ([((a.getD k 0)^^^((FC d b (a.length:Int)).getD k 0))]:List UInt8).length Z) ([((a.getD k 0)^^^((FC d b (a.length:Int)).getD k 0))]:List UInt8).length (([((a.getD k 0)^^^((FC d b (a.length:Int)).getD k 0))]:List UInt8).map bV)∧([((a.getD k 0)^^^((FC d b (a.length:Int)).getD k 0))]:List UInt8).length≤1073741824∧Aps [(A,Z)]))]:GV) (fun _ q=>Keep X q) [] GU rfl (by kernel_rfl) (by kernel_rfl) ?_ (fun _ _ h=>h) (fun _ _ _ _ h _ k=>h.trans k) trivial ?_ ?_ ?_
  ·exact ⟨hV,hE,⟨hV,hE,⟨hV,hE,⟨hV,hE,⟨hV,hE,⟨hV,hE,⟨hV,hE,⟨hV,hE,⟨hV,hE,⟨hV,hE,⟨(fun e v w M h hk=>by obtain ⟨aG,aH,he,aI,aJ,hap⟩:=h;exact ⟨aG,aH,he,gc aI hk,aJ,hap⟩),hE,trivial⟩⟩⟩⟩⟩⟩⟩⟩⟩⟩⟩
  ·exact trivial
  ·refine ⟨?_,⟨?_,⟨?_,⟨?_,⟨?_,⟨?_,⟨?_,⟨?_,⟨?_,⟨?_,⟨?_,trivial⟩⟩⟩⟩⟩⟩⟩⟩⟩⟩⟩
   ·intro _ o bu _
    rintro _ _ _ _ _ _ _ _ _ _ _
    refine sw<|mw (vs t (IL (a.take k) ((FC d b (a.length:Int)).take k)).length C) ?_
    exact f1
   ·intro _ o bv _
    rintro _ _ _ _ _ _ _ _ _ _ _
    refine sw<|mw (vs i a.length j) ?_
    exact f1
   ·intro _ o bw _
    rintro _ _ _ _ _ _ _ _ _ _ _
    refine sw<|mw (vi ((k:Nat):Int)) ?_
    exact f1
   ·intro _ o aK _
    have aL:=G.extk aK
    rintro _ _ rfl _ rfl _ _ _ _ _ _ _ _
    refine sw<|ix wN ((k:Nat):Int) tD (E.from0 aL) ?_
    exact f1
   ·intro _ o aM _
    have aN:=G.extk aM
    rintro _ _ rfl _ rfl _ rfl _ _ _ _ _ _ _
    refine sw<|eb (x:=a) k wN HI (E.from0 aN) ?_
    exact f1
   ·intro _ o bz _
    rintro _ _ _ _ _ _ _ _ _ _ _
    refine sw<|mw (vs p ((FC d b (a.length:Int))).length y) ?_
    exact f1
   ·intro _ o b0 _
    rintro _ _ _ _ _ _ _ _ _ _ _
    refine sw<|mw (vi ((k:Nat):Int)) ?_
    exact f1
   ·intro _ o aO _
    rintro _ _ _ _ _ _ rfl _ rfl _ _ _ _
    refine sw ?_
    have aP:=(gc Y aO)
    refine ix wN ((k:Nat):Int) tD (Rd.of_own aP) ?_
    exact f1
   ·intro _ o aQ _
    rintro _ _ _ _ _ _ rfl _ rfl _ rfl _ _ _
    refine sw ?_
    have aR:=(gc Y aQ)
    refine eb (x:=(FC d b (a.length:Int))) k wN HI (Rd.of_own aR) ?_
    exact f1
   ·intro _ o b1 _
    rintro _
    iterate 8 rintro _ rfl
    intro _ _
    refine sw<|Kj (a.getD k 0) ((FC d b (a.length:Int)).getD k 0) wN rfl rfl (by kernel_rfl) ?_
    exact f1
   ·intro _ o aS _
    rintro _
    iterate 9 rintro _ rfl
    intro _
    refine sw<|ltB ([((a.getD k 0)^^^((FC d b (a.length:Int)).getD k 0))]:List UInt8) wN tD ?_
    intro b2 b3 aT aU aV
    exact FY aU ⟨_,_,rfl,(tA aV aS.size),(by simp),⟨trivial,trivial⟩⟩
  ·intro _ o I
   iterate 10 rintro _ rfl
   rintro _ ⟨b4,b5,rfl,aW,b6,-⟩
   refine sw ?_
   have aX:=(gc Q I)
   refine apB (IL (a.take k) ((FC d b (a.length:Int)).take k)) ([((a.getD k 0)^^^((FC d b (a.length:Int)).getD k 0))]:List UInt8) wN tD aX (Rd.of_own aW) (z4 ai W aq I) ?_
   intro R S aT aa aY aZ ba
   have bb:=(G.extk I).ext aa (fun k hk=>nT (Nat.le_refl f.heap.size) (uI Q k hk).1)
   have av:=(gc Y I)
   have bc:=NeS.app au aZ av
   refine aw (vs R ((IL (a.take k) ((FC d b (a.length:Int)).take k))++([((a.getD k 0)^^^((FC d b (a.length:Int)).getD k 0))]:List UInt8)).length S) ?_
   refine uD<|uB<|rg<|uG ?_
   refine mw (vi ((k:Nat):Int)) ?_
   refine ar (((k:Nat):Int)+1) wN ?_
   refine aw (vi (((k:Nat):Int)+1)) ?_
   refine uD ?_
   have ax:(((IL (a.take k) ((FC d b (a.length:Int)).take k))++([((a.getD k 0)^^^((FC d b (a.length:Int)).getD k 0))]:List UInt8)):List UInt8)=IL (a.take (k+1)) ((FC d b (a.length:Int)).take (k+1)):=by exact Nl (by omega) (by omega)
   have bd:=(tC av aa (fun g hg hlt hk=>NeS.no (NeS.symm au) hg hk))
   have ay:((FC d b (a.length:Int)):List UInt8)=(FC d b (a.length:Int)):=by rfl
   have ab:((FC d b (a.length:Int))).length=((FC d b (a.length:Int))).length:=by rw [← ay];try (first|rfl|simp only [List.length_set]|simp)
   refine FX (w0:=X) [(2,(vs i a.length j)),(6,(vs none 0 0)),(7,(.slice R (IL (a.take (k+1)) ((FC d b (a.length:Int)).take (k+1))).length S)),(8,(.slice p ((FC d b (a.length:Int))).length y)),(9,(vi (((k+1):Nat):Int)))] ?_ ?_ ?_
   · exact ⟨rfl,rfl,(cA (fun l:List UInt8=>Value.slice R l.length S) ax),(cA (fun m:Nat=>Value.slice p m y) ab),(cA (Value.int .i64) (show ((((k:Nat):Int)+1):Int)=(((k+1):Nat):Int) by omega)),trivial⟩
   · exact fun u=>⟨(k+1),u,R,S,p,y,rfl,bb,((((Ch.refl (fun k=>f.heap.size≤k) N).ext aq (fun k hk=>hk)).extk I).ext aa (fun k hk=>nT (Nat.le_refl f.heap.size) (uI Q k hk).1)),(by omega),(ax ▸ ⟨aY,ba⟩),⟨(by rw [← ab,← ay];exact bd),(by rw [← ab];first|exact aE|(simp only [List.length_append,List.length_take,List.length_replicate];omega))⟩,bc⟩
   · show a.length - ((((k+1):Nat):Int)).toNat < a.length - (((k:Nat):Int)).toNat;omega

def GZ (b:List UInt8) (d:Int) (a:PFrame):(List UInt8)×(Bool):=bif (decide ((b.length:Int)=32)) then (bif (decide (((FJ d a).length:Int)=0)) then (([],false)) else (bif (II a.Tag (JQ b (FJ d a))) then (((Ia b (FK d a.Sn a.Epoch a.Seq) a.Body),true)) else (([],false)))) else (([],false))
theorem Sg (A:World) (ad:Value) (f:List UInt8) (a2:HP A ad f) (d:Int) (ae:Value) (a:PFrame) (a3:MH A ae a) :Fn Tryz.prog 74 #[ad,(vi d),ae] A (fun v o=>Keep A o∧Rs o A.heap.size v (GZ f d a)):=by
 obtain ⟨l,m,rfl,C,af⟩:=a2
 obtain ⟨N,O,D,E,P,Q,R,S,F,G,H,I,rfl,a4,a5,ah,ai,a6,a7,a8,a9,aj,ak,am,an⟩:=a3
 refine FI (n:=42) [(vs l f.length m),(vi d),(va (HH a N O D E P Q R S F G H I))] Tryz.func74 rfl rfl ?_
 refine sr<|bx (HH a N O D E P Q R S F G H I) wN ?_
 intro p T b3 b4 J B
 have r:=(Ch.base A).extk J
 refine aw (vs none 0 0) ?_
 refine aw (vb false) ?_
 refine nx<|mw (vi d) ?_
 refine lN (HH a N O D E P Q R S F G H I) wN Gg FD B ?_
 refine cl wN (MB T d _ a (IN (a4.from0 r) a5 (ah.from0 r) ai (a6.from0 r) a7 (a8.from0 r) a9 (aj.from0 r) ak (am.from0 r) an)) ?_
 rintro _ M ⟨q,⟨s,t,rfl,V,aA,b5⟩⟩
 have u:=r.extk q
 refine aw (vs s (FJ d a).length t) ?_
 refine uD<|rg<|uK<|uK ?_
 rcases bf (decide ((f.length:Int)=32)) with i|i
 ·have b6:=dF i
  refine Ga ([(12,[],[],(fun _ v _=>v=(vs l f.length m))),(13,[],[0],(fun _ v _=>v=(vi (f.length:Int)))),(14,[],[0,1],(fun _ v _=>v=(vb (!(decide ((f.length:Int)=32)))))),(15,[],[0,1,2],(fun _ v _=>v=(vb (!(decide ((f.length:Int)=32)))))),(16,[],[0,1,2,3],(fun _ v _=>v=U)),(17,[],[0,1,2,3,4],(fun _ v _=>v=U)),(18,[],[0,1,2,3,4,5],(fun _ v _=>v=U)),(19,[],[0,1,2,3,4,5,6],(fun _ v _=>v=(vb true))),(20,[],[0,1,2,3,4,5,6,7],(fun _ v _=>v=(vb true))),(21,[],[0,1,2,3,4,5,6,7,8],(fun _ v _=>v=U)),(22,[],[0,1,2,3,4,5,6,7,8,9],(fun _ v _=>v=U)),(23,[],[0,1,2,3,4,5,6,7,8],(fun _ v _=>v=U)),(24,[],[0,1,2,3,4,5,6,7,8],(fun _ v _=>v=U)),(25,[],[0,1,2,3,4,5,6,7,8,11,12],(fun _ v _=>v=U))]:GV) (fun _ o=>Keep M o) [] GU rfl (by kernel_rfl) (by kernel_rfl) ?_ (fun _ _ h=>h) (fun _ _ _ _ h _ k=>h.trans k) trivial ?_ ?_ ?_
  ·exact ⟨hV,hE,⟨hV,hE,⟨hV,hE,⟨hV,hE,⟨hV,hE,⟨hV,hE,⟨hV,hE,⟨hV,hE,⟨hV,hE,⟨hV,hE,⟨hV,hE,⟨hV,hE,⟨hV,hE,⟨hV,hE,trivial⟩⟩⟩⟩⟩⟩⟩⟩⟩⟩⟩⟩⟩⟩
  ·exact trivial
  ·refine ⟨?_,⟨?_,⟨?_,⟨?_,⟨?_,⟨?_,⟨?_,⟨?_,⟨?_,⟨?_,⟨?_,⟨?_,⟨?_,⟨?_,trivial⟩⟩⟩⟩⟩⟩⟩⟩⟩⟩⟩⟩⟩⟩
   ·intro _ b b7 _
    iterate 14 intro _
    refine sw<|mw (vs l f.length m) ?_
    exact f1
   ·intro _ b aB _
    have aC:=u.extk aB
    rintro _ rfl;iterate 13 intro _
    refine sw<|ln wN tD (C.from0 aC) ?_
    exact f1
   ·intro _ b b8 _
    rintro _ rfl _ rfl _ _ _ _ _ _ _ _ _ _ _ _
    refine sw<|pu (vb (!(decide ((f.length:Int)=32)))) wN ?_
    exact f1
   ·intro _ b b9 _
    rintro _ rfl _ rfl _ rfl _ _ _ _ _ _ _ _ _ _ _
    refine sw<|mw (vb (!(decide ((f.length:Int)=32)))) ?_
    exact f1
   ·intro _ b bA _
    rintro _ rfl _ rfl _ rfl _ rfl _ _ _ _ _ _ _ _ _ _
    refine sw<|sk (cA not i) ?_
    exact f1
   ·intro _ b bB _
    rintro _ rfl _ rfl _ rfl _ rfl _ rfl _ _ _ _ _ _ _ _ _
    refine sw<|sk (cA not i) ?_
    exact f1
   ·intro _ b bC _
    rintro _ rfl _ rfl _ rfl _ rfl _ rfl _ rfl _ _ _ _ _ _ _ _
    refine sw<|sk (cA not i) ?_
    exact f1
   ·intro _ b bD _
    iterate 7 rintro _ rfl
    intro _ _ _ _ _ _ _
    refine sw<|pk (vb true) wN (cA not i) ?_
    exact f1
   ·intro _ b bE _
    iterate 8 rintro _ rfl
    intro _ _ _ _ _ _
    refine sw<|mw (vb true) ?_
    exact f1
   ·intro _ b bF _
    iterate 9 rintro _ rfl
    intro _ _ _ _ _
    refine sw<|sk T1 ?_
    exact f1
   ·intro _ b bG _
    iterate 10 rintro _ rfl
    intro _ _ _ _
    refine sw<|sk T1 ?_
    exact f1
   ·intro _ b bH _
    iterate 9 rintro _ rfl
    intro _ _ _ _ _
    refine sw<|sk T1 ?_
    exact f1
   ·intro _ b bI _
    iterate 9 rintro _ rfl
    intro _ _ _ _ _
    refine sw<|sk T1 ?_
    exact f1
   ·intro _ b bJ _
    iterate 9 rintro _ rfl
    rintro _ _ _ rfl _ rfl _
    refine sw<|sk T1 ?_
    exact f1
  ·intro _ b ao
   iterate 14 rintro _ rfl
   refine sw ?_
   iterate 2 refine sk T1 ?_
   refine pk (vb true) wN T1 ?_
   refine n2<|ct T1<|sr<|Gc wN rfl rfl tD (fun w=>by kernel_rfl) ?_
   intro ap K aD aE
   have aF:=(u.extk ao).extk aD
   refine aw (vs (some ap) 0 0) ?_
   refine aw (vb false) ?_
   refine n1<|Jv (.inl rfl) (vs (some ap) 0 0) (vb false) rfl rfl rfl ?_
   refine ⟨aF.keep0,?_⟩
   simp only [GZ,i,cond_true,cond_false]
   exact ⟨_,_,rfl,(tA aE (z3 J q ao)),(by simp),⟨trivial,trivial⟩⟩
 have bK:=dT i
 rcases bt (decide (((FJ d a).length:Int)=0)) with g|g
 ·have bL:=dT g
  refine Ga ([(12,[],[],(fun _ v _=>v=(vs l f.length m))),(13,[],[0],(fun _ v _=>v=(vi (f.length:Int)))),(14,[],[0,1],(fun _ v _=>v=(vb (!(decide ((f.length:Int)=32)))))),(15,[],[0,1,2],(fun _ v _=>v=(vb (!(decide ((f.length:Int)=32)))))),(16,[],[0,1,2,3],(fun _ v _=>v=(vs s (FJ d a).length t))),(17,[],[0,1,2,3,4],(fun _ v _=>v=(vi ((FJ d a).length:Int)))),(18,[],[0,1,2,3,4,5],(fun _ v _=>v=(vb (decide (((FJ d a).length:Int)=0))))),(19,[],[0,1,2,3,4,5,6],(fun _ v _=>v=(vb (decide (((FJ d a).length:Int)=0))))),(20,[],[0,1,2,3,4,5,6,7],(fun _ v _=>v=(vb (decide (((FJ d a).length:Int)=0))))),(21,[],[0,1,2,3,4,5,6,7,8],(fun _ v _=>v=U)),(22,[],[0,1,2,3,4,5,6,7,8,9],(fun _ v _=>v=U)),(23,[],[0,1,2,3,4,5,6,7,8],(fun _ v _=>v=U)),(24,[],[0,1,2,3,4,5,6,7,8],(fun _ v _=>v=U)),(25,[],[0,1,2,3,4,5,6,7,8,11,12],(fun _ v _=>v=U))]:GV) (fun _ o=>Keep M o) [] GU rfl (by kernel_rfl) (by kernel_rfl) ?_ (fun _ _ h=>h) (fun _ _ _ _ h _ k=>h.trans k) trivial ?_ ?_ ?_
  ·exact ⟨hV,hE,⟨hV,hE,⟨hV,hE,⟨hV,hE,⟨hV,hE,⟨hV,hE,⟨hV,hE,⟨hV,hE,⟨hV,hE,⟨hV,hE,⟨hV,hE,⟨hV,hE,⟨hV,hE,⟨hV,hE,trivial⟩⟩⟩⟩⟩⟩⟩⟩⟩⟩⟩⟩⟩⟩
  ·exact trivial
  ·refine ⟨?_,⟨?_,⟨?_,⟨?_,⟨?_,⟨?_,⟨?_,⟨?_,⟨?_,⟨?_,⟨?_,⟨?_,⟨?_,⟨?_,trivial⟩⟩⟩⟩⟩⟩⟩⟩⟩⟩⟩⟩⟩⟩
   ·intro _ b bM _
    iterate 14 intro _
    refine sw<|mw (vs l f.length m) ?_
    exact f1
   ·intro _ b aG _
    have aH:=u.extk aG
    rintro _ rfl;iterate 13 intro _
    refine sw<|ln wN tD (C.from0 aH) ?_
    exact f1
   ·intro _ b bN _
    rintro _ rfl _ rfl _ _ _ _ _ _ _ _ _ _ _ _
    refine sw<|pu (vb (!(decide ((f.length:Int)=32)))) wN ?_
    exact f1
   ·intro _ b bO _
    rintro _ rfl _ rfl _ rfl _ _ _ _ _ _ _ _ _ _ _
    refine sw<|mw (vb (!(decide ((f.length:Int)=32)))) ?_
    exact f1
   ·intro _ b bP _
    rintro _ rfl _ rfl _ rfl _ rfl _ _ _ _ _ _ _ _ _ _
    refine sw<|mv (vs s (FJ d a).length t) (wS (cA not i)) ?_
    exact f1
   ·intro _ b aI _
    rintro _ rfl _ rfl _ rfl _ rfl _ rfl _ _ _ _ _ _ _ _ _
    refine sw ?_
    have aJ:=(gc V aI)
    refine ln (wS (cA not i)) tD (Rd.of_own aJ) ?_
    exact f1
   ·intro _ b bQ _
    rintro _ rfl _ rfl _ rfl _ rfl _ rfl _ rfl _ _ _ _ _ _ _ _
    refine sw<|pu (vb (decide (((FJ d a).length:Int)=0))) (wS (cA not i)) ?_
    exact f1
   ·intro _ b bR _
    iterate 7 rintro _ rfl
    intro _ _ _ _ _ _ _
    refine sw<|pf (vb (decide (((FJ d a).length:Int)=0))) wN (cA not i) ?_
    exact f1
   ·intro _ b bS _
    iterate 8 rintro _ rfl
    intro _ _ _ _ _ _
    refine sw<|mw (vb (decide (((FJ d a).length:Int)=0))) ?_
    exact f1
   ·intro _ b bT _
    iterate 9 rintro _ rfl
    intro _ _ _ _ _
    refine sw<|sk g ?_
    exact f1
   ·intro _ b bU _
    iterate 10 rintro _ rfl
    intro _ _ _ _
    refine sw<|sk g ?_
    exact f1
   ·intro _ b bW _
    iterate 9 rintro _ rfl
    intro _ _ _ _ _
    refine sw<|sk g ?_
    exact f1
   ·intro _ b bX _
    iterate 9 rintro _ rfl
    intro _ _ _ _ _
    refine sw<|sk g ?_
    exact f1
   ·intro _ b bY _
    iterate 9 rintro _ rfl
    rintro _ _ _ rfl _ rfl _
    refine sw<|sk g ?_
    exact f1
  ·intro _ b aq
   iterate 14 rintro _ rfl
   refine sw ?_
   iterate 2 refine sk g ?_
   refine pk (vb true) wN g ?_
   refine n2<|ct T1<|sr<|Gc wN rfl rfl tD (fun w=>by kernel_rfl) ?_
   intro au K aK aL
   have aM:=(u.extk aq).extk aK
   refine aw (vs (some au) 0 0) ?_
   refine aw (vb false) ?_
   refine n1<|Jv (.inl rfl) (vs (some au) 0 0) (vb false) rfl rfl rfl ?_
   refine ⟨aM.keep0,?_⟩
   simp only [GZ,i,g,cond_true,cond_false]
   exact ⟨_,_,rfl,(tA aL (z3 J q aq)),(by simp),⟨trivial,trivial⟩⟩
 have bZ:=dF g
 refine Ga ([(12,[],[],(fun _ v _=>v=(vs l f.length m))),(13,[],[0],(fun _ v _=>v=(vi (f.length:Int)))),(14,[],[0,1],(fun _ v _=>v=(vb (!(decide ((f.length:Int)=32)))))),(15,[],[0,1,2],(fun _ v _=>v=(vb (!(decide ((f.length:Int)=32)))))),(16,[],[0,1,2,3],(fun _ v _=>v=(vs s (FJ d a).length t))),(17,[],[0,1,2,3,4],(fun _ v _=>v=(vi ((FJ d a).length:Int)))),(18,[],[0,1,2,3,4,5],(fun _ v _=>v=(vb (decide (((FJ d a).length:Int)=0))))),(19,[],[0,1,2,3,4,5,6],(fun _ v _=>v=(vb (decide (((FJ d a).length:Int)=0))))),(20,[],[0,1,2,3,4,5,6,7],(fun _ v _=>v=(vb (decide (((FJ d a).length:Int)=0))))),(21,[],[0,1,2,3,4,5,6,7,8],(fun _ v _=>v=(vp p 10))),(22,[],[0,1,2,3,4,5,6,7,8,9],(fun _ v _=>v=(vs H a.Tag.length I))),(23,[],[0,1,2,3,4,5,6,7,8],(fun _ v _=>v=(vs l f.length m))),(24,[],[0,1,2,3,4,5,6,7,8],(fun _ v _=>v=(vs s (FJ d a).length t))),(25,[],[0,1,2,3,4,5,6,7,8,11,12],(fun _ v w=>JF w M.heap.size v (JQ f (FJ d a))))]:GV) (fun _ o=>Keep M o) [] GU rfl (by kernel_rfl) (by kernel_rfl) ?_ (fun _ _ h=>h) (fun _ _ _ _ h _ k=>h.trans k) trivial ?_ ?_ ?_
 ·exact ⟨hV,hE,⟨hV,hE,⟨hV,hE,⟨hV,hE,⟨hV,hE,⟨hV,hE,⟨hV,hE,⟨hV,hE,⟨hV,hE,⟨hV,hE,⟨hV,hE,⟨hV,hE,⟨hV,hE,⟨(fun e v w T h hk=>by obtain ⟨W,X,he,Y,Z,hap⟩:=h;exact ⟨W,X,he,gc Y hk,Z,hap⟩),hE,trivial⟩⟩⟩⟩⟩⟩⟩⟩⟩⟩⟩⟩⟩⟩
 ·exact trivial
 ·refine ⟨?_,⟨?_,⟨?_,⟨?_,⟨?_,⟨?_,⟨?_,⟨?_,⟨?_,⟨?_,⟨?_,⟨?_,⟨?_,⟨?_,trivial⟩⟩⟩⟩⟩⟩⟩⟩⟩⟩⟩⟩⟩⟩
  ·intro _ b ca _
   iterate 14 intro _
   refine sw<|mw (vs l f.length m) ?_
   exact f1
  ·intro _ b aN _
   have aO:=u.extk aN
   rintro _ rfl;iterate 13 intro _
   refine sw<|ln wN tD (C.from0 aO) ?_
   exact f1
  ·intro _ b cb _
   rintro _ rfl _ rfl _ _ _ _ _ _ _ _ _ _ _ _
   refine sw<|pu (vb (!(decide ((f.length:Int)=32)))) wN ?_
   exact f1
  ·intro _ b cc _
   rintro _ rfl _ rfl _ rfl _ _ _ _ _ _ _ _ _ _ _
   refine sw<|mw (vb (!(decide ((f.length:Int)=32)))) ?_
   exact f1
  ·intro _ b cd _
   rintro _ rfl _ rfl _ rfl _ rfl _ _ _ _ _ _ _ _ _ _
   refine sw<|mv (vs s (FJ d a).length t) (wS (cA not i)) ?_
   exact f1
  ·intro _ b aP _
   rintro _ rfl _ rfl _ rfl _ rfl _ rfl _ _ _ _ _ _ _ _ _
   refine sw ?_
   have aQ:=(gc V aP)
   refine ln (wS (cA not i)) tD (Rd.of_own aQ) ?_
   exact f1
  ·intro _ b ce _
   rintro _ rfl _ rfl _ rfl _ rfl _ rfl _ rfl _ _ _ _ _ _ _ _
   refine sw<|pu (vb (decide (((FJ d a).length:Int)=0))) (wS (cA not i)) ?_
   exact f1
  ·intro _ b cg _
   iterate 7 rintro _ rfl
   intro _ _ _ _ _ _ _
   refine sw<|pf (vb (decide (((FJ d a).length:Int)=0))) wN (cA not i) ?_
   exact f1
  ·intro _ b ci _
   iterate 8 rintro _ rfl
   intro _ _ _ _ _ _
   refine sw<|mw (vb (decide (((FJ d a).length:Int)=0))) ?_
   exact f1
  ·intro _ b cj _
   iterate 9 rintro _ rfl
   intro _ _ _ _ _
   refine sw<|pu (vp p 10) (wS g) ?_
   exact f1
  ·intro _ b aR _
   iterate 10 rintro _ rfl
   intro _ _ _ _
   refine sw ?_
   have aS:=((B.kp q).kp aR)
   refine ld (vs H a.Tag.length I) (wS g) uH aS ?_
   exact f1
  ·intro _ b ck _
   iterate 9 rintro _ rfl
   intro _ _ _ _ _
   refine sw<|mv (vs l f.length m) (wS g) ?_
   exact f1
  ·intro _ b cm _
   iterate 9 rintro _ rfl
   intro _ _ _ _ _
   refine sw<|mv (vs s (FJ d a).length t) (wS g) ?_
   exact f1
  ·intro _ b aa _
   have aT:=u.extk aa
   iterate 9 rintro _ rfl
   rintro _ _ _ rfl _ rfl _
   refine sw ?_
   have aU:=(gc V aa)
   refine cl (wS g) (UZ b _ f (FV (C.from0 aT) af) _ (FJ d a) (FV (Rd.of_own aU) aA)) ?_
   rintro _ K ⟨aV,⟨cn,co,rfl,aW,aX,aY⟩⟩
   have cp:=Ky f (FJ d a)
   exact FY aV ⟨_,_,rfl,(tA aW aa.size),aX,aY⟩
 ·intro _ b x
  have av:=u.extk x
  iterate 13 rintro _ rfl
  rintro _ ⟨cq,cr,rfl,aZ,ba,cs⟩
  have cu:=Ky f (FJ d a)
  refine sw<|cl (wS g) (QS b _ a.Tag (FV (am.from0 av) an) _ (JQ f (FJ d a)) (FV (Rd.of_own aZ) ba)) ?_
  rintro _ K ⟨y,rfl⟩
  have ab:=av.extk y
  refine pu (vb (!(II a.Tag (JQ f (FJ d a))))) (wS g) ?_
  refine pf (vb (!(II a.Tag (JQ f (FJ d a))))) wN g ?_
  refine n2 ?_
  rcases bf (II a.Tag (JQ f (FJ d a))) with L|L
  ·refine ct (cA not L)<|sr<|Gc wN rfl rfl tD (fun w=>by kernel_rfl) ?_
   intro ax j bb bc
   have bd:=ab.extk bb
   refine aw (vs (some ax) 0 0) ?_
   refine aw (vb false) ?_
   refine n1<|Jv (.inl rfl) (vs (some ax) 0 0) (vb false) rfl rfl rfl ?_
   refine ⟨bd.keep0,?_⟩
   simp only [GZ,i,g,L,cond_true,cond_false]
   exact ⟨_,_,rfl,(tA bc (z4 J q x y)),(by simp),⟨trivial,trivial⟩⟩
  refine cf (cA not L)<|FR<|rg<|uK<|Ga ([(30,[],[],(fun _ v _=>v=(vs l f.length m))),(31,[],[],(fun _ v _=>v=(vi d))),(32,[],[],(fun _ v _=>v=(vp p 3))),(33,[],[2],(fun _ v _=>v=(vs D a.Sn.length E))),(34,[],[],(fun _ v _=>v=(vp p 7))),(35,[],[4],(fun _ v _=>v=(vi a.Epoch))),(36,[],[],(fun _ v _=>v=(vp p 8))),(37,[],[6],(fun _ v _=>v=(vi a.Seq))),(38,[],[1,2,3,4,5,6,7],(fun _ v w=>JF w K.heap.size v (FK d a.Sn a.Epoch a.Seq))),(39,[],[],(fun _ v _=>v=(vp p 9))),(40,[],[9],(fun _ v _=>v=(vs F a.Body.length G)))]:GV) (fun _ o=>Keep K o) [] GU rfl (by kernel_rfl) (by kernel_rfl) ?_ (fun _ _ h=>h) (fun _ _ _ _ h _ k=>h.trans k) trivial ?_ ?_ ?_
  ·exact ⟨hV,hE,⟨hV,hE,⟨hV,hE,⟨hV,hE,⟨hV,hE,⟨hV,hE,⟨hV,hE,⟨hV,hE,⟨(fun e v w T h hk=>by obtain ⟨W,X,he,Y,Z,hap⟩:=h;exact ⟨W,X,he,gc Y hk,Z,hap⟩),hE,⟨hV,hE,⟨hV,hE,trivial⟩⟩⟩⟩⟩⟩⟩⟩⟩⟩⟩
  ·exact trivial
  ·refine ⟨?_,⟨?_,⟨?_,⟨?_,⟨?_,⟨?_,⟨?_,⟨?_,⟨?_,⟨?_,⟨?_,trivial⟩⟩⟩⟩⟩⟩⟩⟩⟩⟩⟩
   ·intro _ j cv _
    rintro _ _ _ _ _ _ _ _ _ _ _
    refine sw<|mw (vs l f.length m) ?_
    exact f1
   ·intro _ j cw _
    rintro _ _ _ _ _ _ _ _ _ _ _
    refine sw<|mw (vi d) ?_
    exact f1
   ·intro _ j cx _
    rintro _ _ _ _ _ _ _ _ _ _ _
    refine sw<|pu (vp p 3) wN ?_
    exact f1
   ·intro _ j be _
    rintro _ _ _ rfl _ _ _ _ _ _ _ _
    refine sw ?_
    have bg:=((((B.kp q).kp x).kp y).kp be)
    refine ld (vs D a.Sn.length E) wN uH bg ?_
    exact f1
   ·intro _ j cy _
    rintro _ _ _ _ _ _ _ _ _ _ _
    refine sw<|pu (vp p 7) wN ?_
    exact f1
   ·intro _ j bh _
    rintro _ _ _ _ _ rfl _ _ _ _ _ _
    refine sw ?_
    have bi:=((((B.kp q).kp x).kp y).kp bh)
    refine ld (vi a.Epoch) wN tE bi ?_
    exact f1
   ·intro _ j cz _
    rintro _ _ _ _ _ _ _ _ _ _ _
    refine sw<|pu (vp p 8) wN ?_
    exact f1
   ·intro _ j bj _
    rintro _ _ _ _ _ _ _ rfl _ _ _ _
    refine sw ?_
    have bk:=((((B.kp q).kp x).kp y).kp bj)
    refine ld (vi a.Seq) wN tE bk ?_
    exact f1
   ·intro _ j ay _
    have bl:=ab.extk ay
    rintro _
    iterate 7 rintro _ rfl
    intro _ _ _
    refine sw<|cl wN (OY j d _ a.Sn (FV (ah.from0 bl) ai) a.Epoch a.Seq) ?_
    rintro _ bm ⟨bn,⟨c0,c1,rfl,bo,bp,bq⟩⟩
    have c2:=Hw d a.Sn a.Epoch a.Seq
    exact FY bn ⟨_,_,rfl,(tA bo ay.size),bp,bq⟩
   ·intro _ j c3 _
    rintro _ _ _ _ _ _ _ _ _ _ _
    refine sw<|pu (vp p 9) wN ?_
    exact f1
   ·intro _ j br _
    rintro _ _ _ _ _ _ _ _ _ _ rfl _
    refine sw ?_
    have bu:=((((B.kp q).kp x).kp y).kp br)
    refine ld (vs F a.Body.length G) wN uH bu ?_
    exact f1
  ·intro _ j az
   have ac:=ab.extk az
   iterate 8 rintro _ rfl
   rintro _ ⟨c4,c5,rfl,bv,bw,c6⟩
   have c7:=Hw d a.Sn a.Epoch a.Seq
   rintro _ rfl _ rfl
   refine sw<|cl wN (Vb j _ f (FV (C.from0 ac) af) _ (FK d a.Sn a.Epoch a.Seq) (FV (Rd.of_own bv) bw) _ a.Body (FV (aj.from0 ac) ak)) ?_
   rintro _ bm ⟨bz,⟨a0,a1,rfl,b0,b1,c8⟩⟩
   have b2:=ac.extk bz
   have c9:=KG f (FK d a.Sn a.Epoch a.Seq) a.Body
   refine aw (vs a0 (Ia f (FK d a.Sn a.Epoch a.Seq) a.Body).length a1) ?_
   refine aw (vb true) ?_
   refine n3<|Jv (.inl rfl) (vs a0 (Ia f (FK d a.Sn a.Epoch a.Seq) a.Body).length a1) (vb true) rfl rfl rfl ?_
   refine ⟨b2.keep0,?_⟩
   simp only [GZ,i,g,L,cond_true,cond_false]
   exact ⟨_,_,rfl,(tA b0 (z5 J q x y az)),b1,⟨trivial,trivial⟩⟩

def JZ (w:PWin) (n:Int):PWin×Bool:=bif GR w n then ({Top:=bif decide (w.Top < n) then n else w.Top,Bits:=NX w.Bits w.Top n:PWin},true) else (w,false)
theorem Sf (H:World) (ak:Value) (d:PWin) (aL:PS H ak d) (e:Int) :Fn Tryz.prog 75 #[ak,(vi e)] H (fun v I=>Keep H I∧Tb I H.heap.size v (JZ d e)):=by
 obtain ⟨Y,Z,rfl,am,an⟩:=aL
 refine FI (n:=73) [(va (HQ d Y Z)),(vi e)] Tryz.func75 rfl rfl ?_
 refine sr<|bx (HQ d Y Z) wN ?_
 intro P bX bY S t aM
 refine al [(vi 0),(vs none 0 0)] wN Jt ?_
 intro ab C T o q V
 have ao:=((Ch.base H).extk t).extk q
 refine aw (vb false) ?_
 refine nx ?_
 have ap:=(aM.kp q)
 refine lN (HQ d Y Z) wN Gj FH ap ?_
 refine cl wN (OW C _ d (JD (am.from0 ao) an)) ?_
 rintro _ W ⟨r,⟨g,i,rfl,m,X,bZ⟩⟩
 refine al [(vi 0),(vs none 0 0)] wN Jt ?_
 intro s ca p cb D aN
 refine sv (HQ (d) g i) wN FH aN ?_
 intro aO E aq cc
 have au:=((ao.extk r).extk D).ext E (fun k hk=>by subst hk;exact nT (z3 t q r) p)
 refine n4 ?_
 have av:=(((ap.kp r).kp D).ch E (nN (nL S (nT (z2 q r) p))))
 refine lN (HQ d Y Z) wN Gj FH av ?_
 refine mw (vi e) ?_
 refine cl wN (OX aO _ d (JD (am.from0 au) an) e) ?_
 rintro _ ac ⟨A,rfl⟩
 have ax:=au.extk A
 refine pu (vb (!(GR d e))) wN ?_
 refine n2 ?_
 rcases bf (GR d e) with F|F
 ·refine ct (cA not F)<|sr ?_
  have aP:=(aq.kp A)
  refine lN (HQ (d) g i) wN Gj FH aP ?_
  have aQ:=((((V.kp r).kp D).ch E (nN (nL o (nT r.size p)))).kp A)
  refine sv (HQ (d) g i) wN FH aQ ?_
  intro ay az aR cd
  have aS:=ax.ext az (fun k hk=>by subst hk;exact nT t.size T)
  refine aw (vb false) ?_
  refine n1 ?_
  have aT:=(tC (gc (tC (gc m D) E (ne2 m (p))) A) az (ne1 m (o)))
  refine Jv (.inl rfl) (va (HQ (d) g i)) (vb false) rfl (HL (HQ (d) g i) rfl aR Gj FH) rfl ?_
  refine ⟨aS.keep0,?_⟩
  have aU:JZ d e=((d),false):=by simp only [JZ,F,cond_true,cond_false]
  rw [aU]
  exact ⟨_,_,rfl,(tA aT (z2 t q)),X,⟨trivial,trivial⟩⟩
 have ce:=Jy F
 refine cf (cA not F)<|y1<|aw (vi 0) ?_
 refine n4<|pu (vp P 0) wN ?_
 have ad:=(av.kp A)
 refine ld (vi d.Top) wN tE ad ?_
 refine ar (d.Top+1) wN ?_
 refine aw (vi (d.Top+1)) ?_
 refine uD<|rg<|uJ ?_
 have aV:=(gc (tC (gc m D) E (ne2 m (p))) A)
 have aW:((d).Bits:List Int)=HF d.Bits (d.Top+1) 0:=by rfl
 have aX:=(aq.kp A)
 refine Ge [(1,(vi e)),(2,(vp P 0)),(4,(vp ab 0)),(5,(vb false)),(6,(vp s 0)),(7,(vi ((0:Nat):Int))),(8,(vi ((d.Top+1)+((0:Nat):Int))))] ⟨rfl,rfl,rfl,rfl,rfl,(cA (Value.int .i64) (show (0:Int)=((0:Nat):Int) by omega)),(cA (Value.int .i64) (show ((d.Top+1):Int)=((d.Top+1)+((0:Nat):Int)) by omega)),trivial⟩ (fun e' I=>∃ (j:Nat) (a0:Env),e'=pt a0 [(1,(vi e)),(2,(vp P 0)),(4,(vp ab 0)),(5,(vb false)),(6,(vp s 0)),(7,(vi ((j:Nat):Int))),(8,(vi ((d.Top+1)+((j:Nat):Int))))]∧Ch (fun k=>H.heap.size≤k) H I∧Ch (fun k=>C.heap.size≤k) ac I∧j≤1024∧(d.Top+((j:Nat):Int)≤e∨j=0)∧World.ownsRow I C.heap.size 3 1 (.slice g ((d).Bits).length i) ((d).Bits).length ((HF d.Bits (d.Top+1) j).map iV)∧Blk I s 34 [(vi ((d).Top)),(vs g ((d).Bits).length i)]) (fun e' _=>(1024 - (intOf (e' 7))).toNat) ?_ ?_
 ·exact fun u=>⟨0,u,rfl,ax,(Ch.refl (fun k=>C.heap.size≤k) ac),(by omega),(by omega),(by rw [← aW];exact aV),aX⟩
 ·rintro _ ay ⟨j,a0,rfl,ae,J,cg,ci,G,B⟩
  have hwl:=IH d.Bits (d.Top+1) j
  have hwi:=Ki (JX (l:=d.Bits) (Jy (w:=d) (n:=e) (by assumption)).1 (d.Top+1) j) ((((d.Top+1)+((j:Nat):Int)) % 1024) / 32).toNat
  have hwn:=Ki (JX (l:=d.Bits) (Jy (w:=d) (n:=e) (by assumption)).1 (d.Top+1) j) ((e % 1024) / 32).toNat
  refine uK<|sr<|mw (vi ((d.Top+1)+((j:Nat):Int))) ?_
  refine mw (vi e) ?_
  refine pu (vb (decide (((d.Top+1)+((j:Nat):Int))≤e))) wN ?_
  refine mw (vb (decide (((d.Top+1)+((j:Nat):Int))≤e))) ?_
  rcases bf (decide (((d.Top+1)+((j:Nat):Int))≤e)) with y|y
  ·have cj:=dF y
   iterate 2 refine sk y ?_
   refine pf (vb false) wN y ?_
   refine n2<|cf F1<|Gn<|uA<|uA<|wr<|rg<|sr<|mw (vi e) ?_
   refine Ig e 1024 wN rfl rfl (by kernel_rfl) (by first|omega|assumption) ?_
   refine aw (vi (e % 1024)) ?_
   refine uD<|rg<|uK<|IM ([(51,[],[],(fun _ v _=>v=(vp s 1))),(52,[],[0],(fun _ v _=>v=(vs g ((d).Bits).length i))),(53,[],[],(fun _ v _=>v=(vi (e % 1024)))),(54,[],[2],(fun _ v _=>v=(vi ((e % 1024) / 32)))),(55,[],[],(fun _ v _=>v=(vp s 1))),(56,[],[4],(fun _ v _=>v=(vs g ((d).Bits).length i))),(57,[],[],(fun _ v _=>v=(vi (e % 1024)))),(58,[],[6],(fun _ v _=>v=(vi ((e % 1024) / 32)))),(59,[],[4,5,6,7],(fun _ v _=>v=(ve (vs g ((d).Bits).length i) ((((e % 1024) / 32)).toNat*1)))),(60,[],[4,5,6,7,8],(fun _ v _=>v=(vi ((HF d.Bits (d.Top+1) j).getD (((e % 1024) / 32)).toNat 0)))),(61,[],[],(fun _ v _=>v=(vi (e % 1024)))),(62,[],[10],(fun _ v _=>v=(vi ((e % 1024) % 32)))),(63,[],[10,11],(fun _ v _=>v=(vi (1*(2:Int) ^ (((e % 1024) % 32)).toNat)))),(64,[],[4,5,6,7,8,9,10,11,12],(fun _ v _=>v=(vi (orI ((HF d.Bits (d.Top+1) j).getD (((e % 1024) / 32)).toNat 0) (1*(2:Int) ^ (((e % 1024) % 32)).toNat)))))]:GV) GU rfl (by kernel_rfl) (by kernel_rfl) ?_ ?_ ?_
   ·exact ⟨hV,hE,⟨hV,hE,⟨hV,hE,⟨hV,hE,⟨hV,hE,⟨hV,hE,⟨hV,hE,⟨hV,hE,⟨hV,hE,⟨hV,hE,⟨hV,hE,⟨hV,hE,⟨hV,hE,⟨hV,hE,trivial⟩⟩⟩⟩⟩⟩⟩⟩⟩⟩⟩⟩⟩⟩
   ·refine ⟨?_,⟨?_,⟨?_,⟨?_,⟨?_,⟨?_,⟨?_,⟨?_,⟨?_,⟨?_,⟨?_,⟨?_,⟨?_,⟨?_,trivial⟩⟩⟩⟩⟩⟩⟩⟩⟩⟩⟩⟩⟩⟩
    ·intro f ck
     iterate 14 intro _
     refine sw<|pu (vp s 1) wN ?_
     exact f2
    ·intro f aY
     rintro _ rfl;iterate 13 intro _
     refine sw ?_
     have aZ:=(B.kp aY)
     refine ld (vs g ((d).Bits).length i) wN GO aZ ?_
     exact f2
    ·intro f cm
     iterate 14 intro _
     refine sw<|mw (vi (e % 1024)) ?_
     exact f2
    ·intro f cn
     rintro _ _ _ rfl _ _ _ _ _ _ _ _ _ _ _
     refine sw<|Kh (e % 1024) 32 wN rfl rfl (by kernel_rfl) (by omega) (by omega) (by omega) ?_
     exact f2
    ·intro f co
     iterate 14 intro _
     refine sw<|pu (vp s 1) wN ?_
     exact f2
    ·intro f ba
     rintro _ _ _ _ _ rfl _ _ _ _ _ _ _ _ _
     refine sw ?_
     have bb:=(B.kp ba)
     refine ld (vs g ((d).Bits).length i) wN GO bb ?_
     exact f2
    ·intro f cp
     iterate 14 intro _
     refine sw<|mw (vi (e % 1024)) ?_
     exact f2
    ·intro f cq
     rintro _ _ _ _ _ _ _ rfl _ _ _ _ _ _ _
     refine sw<|Kh (e % 1024) 32 wN rfl rfl (by kernel_rfl) (by omega) (by omega) (by omega) ?_
     exact f2
    ·intro f bc
     rintro _ _ _ _ _ rfl _ rfl _ rfl _ rfl _ _ _ _ _ _
     refine sw ?_
     have bd:=(gc G bc)
     refine ix wN ((e % 1024) / 32) uQ (Rd.of_own bd) ?_
     exact f2
    ·intro f be
     rintro _ _ _ _ _ rfl _ rfl _ rfl _ rfl _ rfl _ _ _ _ _
     refine sw ?_
     have bg:=(gc G be)
     refine ei (x:=(HF d.Bits (d.Top+1) j)) ((((e % 1024) / 32)).toNat) wN tE (Rd.of_own bg) ?_
     exact f2
    ·intro f cr
     iterate 14 intro _
     refine sw<|mw (vi (e % 1024)) ?_
     exact f2
    ·intro f cs
     rintro _ _ _ _ _ _ _ _ _ _ _ rfl _ _ _
     refine sw<|Ig (e % 1024) 32 wN rfl rfl (by kernel_rfl) (by first|omega|assumption) ?_
     exact f2
    ·intro f cu
     rintro _ _ _ _ _ _ _ _ _ _ _ rfl _ rfl _ _
     refine sw<|LD 1 ((e % 1024) % 32) wN rfl rfl rfl rfl rfl (by omega) (by omega) (by omega) (by omega) ?_
     have cv:=Jx (((e % 1024) % 32)).toNat (by omega)
     exact f2
    ·intro f cw
     rintro _ _ _ _
     iterate 9 rintro _ rfl
     have cx:=Jx (((e % 1024) % 32)).toNat (by omega)
     intro _
     refine sw<|NY ((HF d.Bits (d.Top+1) j).getD (((e % 1024) / 32)).toNat 0) (1*(2:Int) ^ (((e % 1024) % 32)).toNat) wN rfl rfl (by kernel_rfl) (by omega) (by omega) (by omega) (by omega) ?_
     have cy:=MP (a:=((HF d.Bits (d.Top+1) j).getD (((e % 1024) / 32)).toNat 0)) (b:=(1*(2:Int) ^ (((e % 1024) % 32)).toNat)) (by omega) (by omega)
     exact f2
   ·intro f K
    iterate 13 rintro _ rfl
    have cz:=Jx (((e % 1024) % 32)).toNat (by omega)
    rintro _ rfl
    have c0:=MP (a:=((HF d.Bits (d.Top+1) j).getD (((e % 1024) / 32)).toNat 0)) (b:=(1*(2:Int) ^ (((e % 1024) % 32)).toNat)) (by omega) (by omega)
    refine sw ?_
    have a1:=(gc G K)
    refine ix wN ((e % 1024) / 32) uQ (Rd.of_own a1) ?_
    refine Il (HF d.Bits (d.Top+1) j) ((((e % 1024) / 32)).toNat) ((orI ((HF d.Bits (d.Top+1) j).getD (((e % 1024) / 32)).toNat 0) (1*(2:Int) ^ (((e % 1024) % 32)).toNat))) wN rfl rfl rfl (by simp) rfl GI a1 (by first|omega|(simp only [List.length_append,List.length_replicate,List.length_take,List.length_set,List.length_map];omega)) ?_
    intro a2 Q a3
    have a4:=(ae.extk K).ext Q (fun k hk=>nT (z2 t q) (uI m k hk).1)
    refine n4<|mw (vi e) ?_
    refine pu (vp P 0) wN ?_
    have bh:=(((ad.ch J (Nat.not_le.2 (nL S q.size))).kp K).ch Q (fun h=>by have:=(uI m _ h).1;have:=nL S q.size;omega))
    refine ld (vi d.Top) wN tE bh ?_
    refine pu (vb (decide (d.Top < e))) wN ?_
    refine n2 ?_
    rcases bf (decide (d.Top < e)) with L|L
    ·have c1:=dF L
     refine cf L<|y1 ?_
     have bi:=((B.kp K).ch Q (fun h=>by have:=(uI m _ h).2;have:=nT (Nat.le_refl W.heap.size) p;omega))
     refine lN [(vi ((d).Top)),(vs g ((d).Bits).length i)] wN Gj FH bi ?_
     have bj:=(((((((V.kp r).kp D).ch E (nN (nL o (nT r.size p)))).kp A).ch J (Nat.not_le.2 (o))).kp K).ch Q (fun h=>by have:=(uI m _ h).1;have:=nL o (Nat.le_refl C.heap.size);omega))
     refine sv [(vi ((d).Top)),(vs g ((d).Bits).length i)] wN FH bj ?_
     intro af a5 bk c2
     have bl:=a4.ext a5 (fun k hk=>by subst hk;exact nT t.size T)
     refine aw (vb true) ?_
     refine n3 ?_
     have a6:=(tC a3 a5 (ne1 m (o)))
     refine Jv (.inl rfl) (va [(vi ((d).Top)),(vs g ((d).Bits).length i)]) (vb true) rfl (HL [(vi ((d).Top)),(vs g ((d).Bits).length i)] rfl bk Gj FH) rfl ?_
     refine ⟨bl.keep0,?_⟩
     have bm:JZ d e=({Top:=(d).Top,Bits:=((HF d.Bits (d.Top+1) j).set ((((e % 1024) / 32)).toNat) (orI ((HF d.Bits (d.Top+1) j).getD (((e % 1024) / 32)).toNat 0) (1*(2:Int) ^ (((e % 1024) % 32)).toNat))):PWin},true):=by have hz:=KR (l:=d.Bits) (top:=d.Top) (n:=e) (j:=j) (Jy (w:=d) (n:=e) (by assumption)).1 (Jy (w:=d) (n:=e) (by assumption)).2.1 (by omega) (by omega) (by omega) (by omega);simp only [JZ,F,y,L,cond_true,cond_false];rw [← hz];first|rfl|(rw [SG])|(rw [← SG])
     rw [bm]
     have a7:((d).Bits).length=(((HF d.Bits (d.Top+1) j).set ((((e % 1024) / 32)).toNat) (orI ((HF d.Bits (d.Top+1) j).getD (((e % 1024) / 32)).toNat 0) (1*(2:Int) ^ (((e % 1024) % 32)).toNat)))).length:=by first|(simp only [List.length_append,List.length_take,List.length_replicate,List.length_set,List.length_map];done)|(simp only [List.length_append,List.length_take,List.length_replicate,List.length_set,List.length_map];omega)
     rw [a7] at a6 ⊢
     exact ⟨_,_,rfl,(tA a6 (z2 t q)),(by rw [← a7];exact X),⟨trivial,trivial⟩⟩
    have c3:=dT L
    refine ct L<|uG ?_
    refine mw (vi e) ?_
    refine pu (vp s 0) wN ?_
    have bn:=((B.kp K).ch Q (fun h=>by have:=(uI m _ h).2;have:=nT (Nat.le_refl W.heap.size) p;omega))
    refine st (vi e) [(vi e)] [(vi e),(vs g ((d).Bits).length i)] wN GI bn ?_
    intro af ah bo c4
    have bp:=a4.ext ah (fun k hk=>by subst hk;exact nT (z3 t q r) p)
    refine nx<|lN [(vi e),(vs g ((d).Bits).length i)] wN Gj FH bo ?_
    have bq:=((((((((V.kp r).kp D).ch E (nN (nL o (nT r.size p)))).kp A).ch J (Nat.not_le.2 (o))).kp K).ch Q (fun h=>by have:=(uI m _ h).1;have:=nL o (Nat.le_refl C.heap.size);omega)).ch ah (nN (nL o (nT r.size p))))
    refine sv [(vi e),(vs g ((d).Bits).length i)] wN FH bq ?_
    intro br a8 bu c5
    have bv:=bp.ext a8 (fun k hk=>by subst hk;exact nT t.size T)
    refine aw (vb true) ?_
    refine n3 ?_
    have a9:=(tC (tC a3 ah (ne2 m (p))) a8 (ne1 m (o)))
    refine Jv (.inl rfl) (va [(vi e),(vs g ((d).Bits).length i)]) (vb true) rfl (HL [(vi e),(vs g ((d).Bits).length i)] rfl bu Gj FH) rfl ?_
    refine ⟨bv.keep0,?_⟩
    have bw:JZ d e=({Top:=e,Bits:=((HF d.Bits (d.Top+1) j).set ((((e % 1024) / 32)).toNat) (orI ((HF d.Bits (d.Top+1) j).getD (((e % 1024) / 32)).toNat 0) (1*(2:Int) ^ (((e % 1024) % 32)).toNat))):PWin},true):=by have hz:=KR (l:=d.Bits) (top:=d.Top) (n:=e) (j:=j) (Jy (w:=d) (n:=e) (by assumption)).1 (Jy (w:=d) (n:=e) (by assumption)).2.1 (by omega) (by omega) (by omega) (by omega);simp only [JZ,F,y,L,cond_true,cond_false];rw [← hz];first|rfl|(rw [SG])|(rw [← SG])
    rw [bw]
    have aA:((d).Bits).length=(((HF d.Bits (d.Top+1) j).set ((((e % 1024) / 32)).toNat) (orI ((HF d.Bits (d.Top+1) j).getD (((e % 1024) / 32)).toNat 0) (1*(2:Int) ^ (((e % 1024) % 32)).toNat)))).length:=by first|(simp only [List.length_append,List.length_take,List.length_replicate,List.length_set,List.length_map];done)|(simp only [List.length_append,List.length_take,List.length_replicate,List.length_set,List.length_map];omega)
    rw [aA] at a9 ⊢
    exact ⟨_,_,rfl,(tA a9 (z2 t q)),(by rw [← aA];exact X),⟨trivial,trivial⟩⟩
  have c6:=dT y
  refine mv (vi ((j:Nat):Int)) (wS y) ?_
  refine pu (vb (decide (((j:Nat):Int) < 1024))) (wS y) ?_
  refine pk (vb (decide (((j:Nat):Int) < 1024))) wN y ?_
  refine n2 ?_
  rcases bt (decide (((j:Nat):Int) < 1024)) with M|M
  ·have c7:=dT M
   refine ct M<|FR<|rg<|uK<|uJ<|sr<|mw (vi ((d.Top+1)+((j:Nat):Int))) ?_
   refine Ig ((d.Top+1)+((j:Nat):Int)) 1024 wN rfl rfl (by kernel_rfl) (by first|omega|assumption) ?_
   refine aw (vi (((d.Top+1)+((j:Nat):Int)) % 1024)) ?_
   refine uD<|rg<|uK<|IM ([(32,[],[],(fun _ v _=>v=(vp s 1))),(33,[],[0],(fun _ v _=>v=(vs g ((d).Bits).length i))),(34,[],[],(fun _ v _=>v=(vi (((d.Top+1)+((j:Nat):Int)) % 1024)))),(35,[],[2],(fun _ v _=>v=(vi ((((d.Top+1)+((j:Nat):Int)) % 1024) / 32)))),(36,[],[],(fun _ v _=>v=(vp s 1))),(37,[],[4],(fun _ v _=>v=(vs g ((d).Bits).length i))),(38,[],[],(fun _ v _=>v=(vi (((d.Top+1)+((j:Nat):Int)) % 1024)))),(39,[],[6],(fun _ v _=>v=(vi ((((d.Top+1)+((j:Nat):Int)) % 1024) / 32)))),(40,[],[4,5,6,7],(fun _ v _=>v=(ve (vs g ((d).Bits).length i) ((((((d.Top+1)+((j:Nat):Int)) % 1024) / 32)).toNat*1)))),(41,[],[4,5,6,7,8],(fun _ v _=>v=(vi ((HF d.Bits (d.Top+1) j).getD (((((d.Top+1)+((j:Nat):Int)) % 1024) / 32)).toNat 0)))),(42,[],[],(fun _ v _=>v=(vi (((d.Top+1)+((j:Nat):Int)) % 1024)))),(43,[],[10],(fun _ v _=>v=(vi ((((d.Top+1)+((j:Nat):Int)) % 1024) % 32)))),(44,[],[10,11],(fun _ v _=>v=(vi (1*(2:Int) ^ (((((d.Top+1)+((j:Nat):Int)) % 1024) % 32)).toNat)))),(45,[],[4,5,6,7,8,9,10,11,12],(fun _ v _=>v=(vi (Lj ((HF d.Bits (d.Top+1) j).getD (((((d.Top+1)+((j:Nat):Int)) % 1024) / 32)).toNat 0) (1*(2:Int) ^ (((((d.Top+1)+((j:Nat):Int)) % 1024) % 32)).toNat)))))]:GV) GU rfl (by kernel_rfl) (by kernel_rfl) ?_ ?_ ?_
   ·exact ⟨hV,hE,⟨hV,hE,⟨hV,hE,⟨hV,hE,⟨hV,hE,⟨hV,hE,⟨hV,hE,⟨hV,hE,⟨hV,hE,⟨hV,hE,⟨hV,hE,⟨hV,hE,⟨hV,hE,⟨hV,hE,trivial⟩⟩⟩⟩⟩⟩⟩⟩⟩⟩⟩⟩⟩⟩
   ·refine ⟨?_,⟨?_,⟨?_,⟨?_,⟨?_,⟨?_,⟨?_,⟨?_,⟨?_,⟨?_,⟨?_,⟨?_,⟨?_,⟨?_,trivial⟩⟩⟩⟩⟩⟩⟩⟩⟩⟩⟩⟩⟩⟩
    ·intro f c8
     iterate 14 intro _
     refine sw<|pu (vp s 1) wN ?_
     exact f2
    ·intro f bz
     rintro _ rfl;iterate 13 intro _
     refine sw ?_
     have b0:=(B.kp bz)
     refine ld (vs g ((d).Bits).length i) wN GO b0 ?_
     exact f2
    ·intro f c9
     iterate 14 intro _
     refine sw<|mw (vi (((d.Top+1)+((j:Nat):Int)) % 1024)) ?_
     exact f2
    ·intro f cC
     rintro _ _ _ rfl _ _ _ _ _ _ _ _ _ _ _
     refine sw<|Kh (((d.Top+1)+((j:Nat):Int)) % 1024) 32 wN rfl rfl (by kernel_rfl) (by omega) (by omega) (by omega) ?_
     exact f2
    ·intro f cD
     iterate 14 intro _
     refine sw<|pu (vp s 1) wN ?_
     exact f2
    ·intro f b1
     rintro _ _ _ _ _ rfl _ _ _ _ _ _ _ _ _
     refine sw ?_
     have b2:=(B.kp b1)
     refine ld (vs g ((d).Bits).length i) wN GO b2 ?_
     exact f2
    ·intro f cE
     iterate 14 intro _
     refine sw<|mw (vi (((d.Top+1)+((j:Nat):Int)) % 1024)) ?_
     exact f2
    ·intro f cF
     rintro _ _ _ _ _ _ _ rfl _ _ _ _ _ _ _
     refine sw<|Kh (((d.Top+1)+((j:Nat):Int)) % 1024) 32 wN rfl rfl (by kernel_rfl) (by omega) (by omega) (by omega) ?_
     exact f2
    ·intro f b3
     rintro _ _ _ _ _ rfl _ rfl _ rfl _ rfl _ _ _ _ _ _
     refine sw ?_
     have b4:=(gc G b3)
     refine ix wN ((((d.Top+1)+((j:Nat):Int)) % 1024) / 32) uQ (Rd.of_own b4) ?_
     exact f2
    ·intro f b5
     rintro _ _ _ _ _ rfl _ rfl _ rfl _ rfl _ rfl _ _ _ _ _
     refine sw ?_
     have b6:=(gc G b5)
     refine ei (x:=(HF d.Bits (d.Top+1) j)) ((((((d.Top+1)+((j:Nat):Int)) % 1024) / 32)).toNat) wN tE (Rd.of_own b6) ?_
     exact f2
    ·intro f cG
     iterate 14 intro _
     refine sw<|mw (vi (((d.Top+1)+((j:Nat):Int)) % 1024)) ?_
     exact f2
    ·intro f cH
     rintro _ _ _ _ _ _ _ _ _ _ _ rfl _ _ _
     refine sw<|Ig (((d.Top+1)+((j:Nat):Int)) % 1024) 32 wN rfl rfl (by kernel_rfl) (by first|omega|assumption) ?_
     exact f2
    ·intro f cI
     rintro _ _ _ _ _ _ _ _ _ _ _ rfl _ rfl _ _
     refine sw<|LD 1 ((((d.Top+1)+((j:Nat):Int)) % 1024) % 32) wN rfl rfl rfl rfl rfl (by omega) (by omega) (by omega) (by omega) ?_
     have cJ:=Jx (((((d.Top+1)+((j:Nat):Int)) % 1024) % 32)).toNat (by omega)
     exact f2
    ·intro f cK
     rintro _ _ _ _
     iterate 9 rintro _ rfl
     have cL:=Jx (((((d.Top+1)+((j:Nat):Int)) % 1024) % 32)).toNat (by omega)
     intro _
     refine sw<|Qc ((HF d.Bits (d.Top+1) j).getD (((((d.Top+1)+((j:Nat):Int)) % 1024) / 32)).toNat 0) (1*(2:Int) ^ (((((d.Top+1)+((j:Nat):Int)) % 1024) % 32)).toNat) wN rfl rfl (by kernel_rfl) (by omega) (by omega) (by omega) (by omega) ?_
     have cM:=Mc (a:=((HF d.Bits (d.Top+1) j).getD (((((d.Top+1)+((j:Nat):Int)) % 1024) / 32)).toNat 0)) (b:=(1*(2:Int) ^ (((((d.Top+1)+((j:Nat):Int)) % 1024) % 32)).toNat)) (by omega)
     exact f2
   ·intro f aa
    iterate 13 rintro _ rfl
    have cN:=Jx (((((d.Top+1)+((j:Nat):Int)) % 1024) % 32)).toNat (by omega)
    rintro _ rfl
    have cO:=Mc (a:=((HF d.Bits (d.Top+1) j).getD (((((d.Top+1)+((j:Nat):Int)) % 1024) / 32)).toNat 0)) (b:=(1*(2:Int) ^ (((((d.Top+1)+((j:Nat):Int)) % 1024) % 32)).toNat)) (by omega)
    refine sw ?_
    have aB:=(gc G aa)
    refine ix wN ((((d.Top+1)+((j:Nat):Int)) % 1024) / 32) uQ (Rd.of_own aB) ?_
    refine Il (HF d.Bits (d.Top+1) j) ((((((d.Top+1)+((j:Nat):Int)) % 1024) / 32)).toNat) ((Lj ((HF d.Bits (d.Top+1) j).getD (((((d.Top+1)+((j:Nat):Int)) % 1024) / 32)).toNat 0) (1*(2:Int) ^ (((((d.Top+1)+((j:Nat):Int)) % 1024) % 32)).toNat))) wN rfl rfl rfl (by simp) rfl GI aB (by first|omega|(simp only [List.length_append,List.length_replicate,List.length_take,List.length_set,List.length_map];omega)) ?_
    intro a2 ai b7
    have b8:=(ae.extk aa).ext ai (fun k hk=>nT (z2 t q) (uI m k hk).1)
    refine uD<|rg<|uG ?_
    refine mw (vi ((j:Nat):Int)) ?_
    refine ar (((j:Nat):Int)+1) wN ?_
    refine aw (vi (((j:Nat):Int)+1)) ?_
    refine uD<|uB<|rg<|uG ?_
    refine mw (vi ((d.Top+1)+((j:Nat):Int))) ?_
    refine ar (((d.Top+1)+((j:Nat):Int))+1) wN ?_
    refine aw (vi (((d.Top+1)+((j:Nat):Int))+1)) ?_
    refine uD ?_
    have b9:(((HF d.Bits (d.Top+1) j).set ((((((d.Top+1)+((j:Nat):Int)) % 1024) / 32)).toNat) (Lj ((HF d.Bits (d.Top+1) j).getD (((((d.Top+1)+((j:Nat):Int)) % 1024) / 32)).toNat 0) (1*(2:Int) ^ (((((d.Top+1)+((j:Nat):Int)) % 1024) % 32)).toNat))):List Int)=HF d.Bits (d.Top+1) (j+1):=by first|rfl|exact Vo _ _
    have bA:=((B.kp aa).ch ai (fun h=>by have:=(uI m _ h).2;have:=nT (Nat.le_refl W.heap.size) p;omega))
    refine FX (w0:=ay) [(1,(vi e)),(2,(vp P 0)),(4,(vp ab 0)),(5,(vb false)),(6,(vp s 0)),(7,(vi (((j+1):Nat):Int))),(8,(vi ((d.Top+1)+(((j+1):Nat):Int))))] ?_ ?_ ?_
    · exact ⟨rfl,rfl,rfl,rfl,rfl,(cA (Value.int .i64) (show ((((j:Nat):Int)+1):Int)=(((j+1):Nat):Int) by omega)),(cA (Value.int .i64) (show ((((d.Top+1)+((j:Nat):Int))+1):Int)=((d.Top+1)+(((j+1):Nat):Int)) by omega)),trivial⟩
    · exact fun u=>⟨(j+1),u,rfl,b8,((((Ch.refl (fun k=>C.heap.size≤k) ac).ext J (fun k hk=>hk)).extk aa).ext ai (fun k hk=>nT (Nat.le_refl C.heap.size) (uI m k hk).1)),(by omega),(by omega),(by rw [← b9];exact b7),bA⟩
    · show (1024 - (((j+1):Nat):Int)).toNat < (1024 - ((j:Nat):Int)).toNat;omega
  have cP:=dF M
  refine cf M<|Gn<|uA<|uA<|wr<|rg<|sr<|mw (vi e) ?_
  refine Ig e 1024 wN rfl rfl (by kernel_rfl) (by first|omega|assumption) ?_
  refine aw (vi (e % 1024)) ?_
  refine uD<|rg<|uK<|IM ([(51,[],[],(fun _ v _=>v=(vp s 1))),(52,[],[0],(fun _ v _=>v=(vs g ((d).Bits).length i))),(53,[],[],(fun _ v _=>v=(vi (e % 1024)))),(54,[],[2],(fun _ v _=>v=(vi ((e % 1024) / 32)))),(55,[],[],(fun _ v _=>v=(vp s 1))),(56,[],[4],(fun _ v _=>v=(vs g ((d).Bits).length i))),(57,[],[],(fun _ v _=>v=(vi (e % 1024)))),(58,[],[6],(fun _ v _=>v=(vi ((e % 1024) / 32)))),(59,[],[4,5,6,7],(fun _ v _=>v=(ve (vs g ((d).Bits).length i) ((((e % 1024) / 32)).toNat*1)))),(60,[],[4,5,6,7,8],(fun _ v _=>v=(vi ((HF d.Bits (d.Top+1) j).getD (((e % 1024) / 32)).toNat 0)))),(61,[],[],(fun _ v _=>v=(vi (e % 1024)))),(62,[],[10],(fun _ v _=>v=(vi ((e % 1024) % 32)))),(63,[],[10,11],(fun _ v _=>v=(vi (1*(2:Int) ^ (((e % 1024) % 32)).toNat)))),(64,[],[4,5,6,7,8,9,10,11,12],(fun _ v _=>v=(vi (orI ((HF d.Bits (d.Top+1) j).getD (((e % 1024) / 32)).toNat 0) (1*(2:Int) ^ (((e % 1024) % 32)).toNat)))))]:GV) GU rfl (by kernel_rfl) (by kernel_rfl) ?_ ?_ ?_
  ·exact ⟨hV,hE,⟨hV,hE,⟨hV,hE,⟨hV,hE,⟨hV,hE,⟨hV,hE,⟨hV,hE,⟨hV,hE,⟨hV,hE,⟨hV,hE,⟨hV,hE,⟨hV,hE,⟨hV,hE,⟨hV,hE,trivial⟩⟩⟩⟩⟩⟩⟩⟩⟩⟩⟩⟩⟩⟩
  ·refine ⟨?_,⟨?_,⟨?_,⟨?_,⟨?_,⟨?_,⟨?_,⟨?_,⟨?_,⟨?_,⟨?_,⟨?_,⟨?_,⟨?_,trivial⟩⟩⟩⟩⟩⟩⟩⟩⟩⟩⟩⟩⟩⟩
   ·intro f cQ
    iterate 14 intro _
    refine sw<|pu (vp s 1) wN ?_
    exact f2
   ·intro f bB
    rintro _ rfl;iterate 13 intro _
    refine sw ?_
    have bC:=(B.kp bB)
    refine ld (vs g ((d).Bits).length i) wN GO bC ?_
    exact f2
   ·intro f cR
    iterate 14 intro _
    refine sw<|mw (vi (e % 1024)) ?_
    exact f2
   ·intro f cS
    rintro _ _ _ rfl _ _ _ _ _ _ _ _ _ _ _
    refine sw<|Kh (e % 1024) 32 wN rfl rfl (by kernel_rfl) (by omega) (by omega) (by omega) ?_
    exact f2
   ·intro f cT
    iterate 14 intro _
    refine sw<|pu (vp s 1) wN ?_
    exact f2
   ·intro f bD
    rintro _ _ _ _ _ rfl _ _ _ _ _ _ _ _ _
    refine sw ?_
    have bE:=(B.kp bD)
    refine ld (vs g ((d).Bits).length i) wN GO bE ?_
    exact f2
   ·intro f cU
    iterate 14 intro _
    refine sw<|mw (vi (e % 1024)) ?_
    exact f2
   ·intro f cV
    rintro _ _ _ _ _ _ _ rfl _ _ _ _ _ _ _
    refine sw<|Kh (e % 1024) 32 wN rfl rfl (by kernel_rfl) (by omega) (by omega) (by omega) ?_
    exact f2
   ·intro f bF
    rintro _ _ _ _ _ rfl _ rfl _ rfl _ rfl _ _ _ _ _ _
    refine sw ?_
    have bG:=(gc G bF)
    refine ix wN ((e % 1024) / 32) uQ (Rd.of_own bG) ?_
    exact f2
   ·intro f bH
    rintro _ _ _ _ _ rfl _ rfl _ rfl _ rfl _ rfl _ _ _ _ _
    refine sw ?_
    have bI:=(gc G bH)
    refine ei (x:=(HF d.Bits (d.Top+1) j)) ((((e % 1024) / 32)).toNat) wN tE (Rd.of_own bI) ?_
    exact f2
   ·intro f cW
    iterate 14 intro _
    refine sw<|mw (vi (e % 1024)) ?_
    exact f2
   ·intro f cX
    rintro _ _ _ _ _ _ _ _ _ _ _ rfl _ _ _
    refine sw<|Ig (e % 1024) 32 wN rfl rfl (by kernel_rfl) (by first|omega|assumption) ?_
    exact f2
   ·intro f cY
    rintro _ _ _ _ _ _ _ _ _ _ _ rfl _ rfl _ _
    refine sw<|LD 1 ((e % 1024) % 32) wN rfl rfl rfl rfl rfl (by omega) (by omega) (by omega) (by omega) ?_
    have cZ:=Jx (((e % 1024) % 32)).toNat (by omega)
    exact f2
   ·intro f da
    rintro _ _ _ _
    iterate 9 rintro _ rfl
    have db:=Jx (((e % 1024) % 32)).toNat (by omega)
    intro _
    refine sw<|NY ((HF d.Bits (d.Top+1) j).getD (((e % 1024) / 32)).toNat 0) (1*(2:Int) ^ (((e % 1024) % 32)).toNat) wN rfl rfl (by kernel_rfl) (by omega) (by omega) (by omega) (by omega) ?_
    have dc:=MP (a:=((HF d.Bits (d.Top+1) j).getD (((e % 1024) / 32)).toNat 0)) (b:=(1*(2:Int) ^ (((e % 1024) % 32)).toNat)) (by omega) (by omega)
    exact f2
  ·intro f N
   iterate 13 rintro _ rfl
   have dd:=Jx (((e % 1024) % 32)).toNat (by omega)
   rintro _ rfl
   have de:=MP (a:=((HF d.Bits (d.Top+1) j).getD (((e % 1024) / 32)).toNat 0)) (b:=(1*(2:Int) ^ (((e % 1024) % 32)).toNat)) (by omega) (by omega)
   refine sw ?_
   have aC:=(gc G N)
   refine ix wN ((e % 1024) / 32) uQ (Rd.of_own aC) ?_
   refine Il (HF d.Bits (d.Top+1) j) ((((e % 1024) / 32)).toNat) ((orI ((HF d.Bits (d.Top+1) j).getD (((e % 1024) / 32)).toNat 0) (1*(2:Int) ^ (((e % 1024) % 32)).toNat))) wN rfl rfl rfl (by simp) rfl GI aC (by first|omega|(simp only [List.length_append,List.length_replicate,List.length_take,List.length_set,List.length_map];omega)) ?_
   intro a2 R aD
   have aE:=(ae.extk N).ext R (fun k hk=>nT (z2 t q) (uI m k hk).1)
   refine n4<|mw (vi e) ?_
   refine pu (vp P 0) wN ?_
   have bJ:=(((ad.ch J (Nat.not_le.2 (nL S q.size))).kp N).ch R (fun h=>by have:=(uI m _ h).1;have:=nL S q.size;omega))
   refine ld (vi d.Top) wN tE bJ ?_
   refine pu (vb (decide (d.Top < e))) wN ?_
   refine n2 ?_
   rcases bf (decide (d.Top < e)) with O|O
   ·have df:=dF O
    refine cf O<|y1 ?_
    have bK:=((B.kp N).ch R (fun h=>by have:=(uI m _ h).2;have:=nT (Nat.le_refl W.heap.size) p;omega))
    refine lN [(vi ((d).Top)),(vs g ((d).Bits).length i)] wN Gj FH bK ?_
    have bL:=(((((((V.kp r).kp D).ch E (nN (nL o (nT r.size p)))).kp A).ch J (Nat.not_le.2 (o))).kp N).ch R (fun h=>by have:=(uI m _ h).1;have:=nL o (Nat.le_refl C.heap.size);omega))
    refine sv [(vi ((d).Top)),(vs g ((d).Bits).length i)] wN FH bL ?_
    intro af aF bM dg
    have bN:=aE.ext aF (fun k hk=>by subst hk;exact nT t.size T)
    refine aw (vb true) ?_
    refine n3 ?_
    have aG:=(tC aD aF (ne1 m (o)))
    refine Jv (.inl rfl) (va [(vi ((d).Top)),(vs g ((d).Bits).length i)]) (vb true) rfl (HL [(vi ((d).Top)),(vs g ((d).Bits).length i)] rfl bM Gj FH) rfl ?_
    refine ⟨bN.keep0,?_⟩
    have bO:JZ d e=({Top:=(d).Top,Bits:=((HF d.Bits (d.Top+1) j).set ((((e % 1024) / 32)).toNat) (orI ((HF d.Bits (d.Top+1) j).getD (((e % 1024) / 32)).toNat 0) (1*(2:Int) ^ (((e % 1024) % 32)).toNat))):PWin},true):=by have hz:=KR (l:=d.Bits) (top:=d.Top) (n:=e) (j:=j) (Jy (w:=d) (n:=e) (by assumption)).1 (Jy (w:=d) (n:=e) (by assumption)).2.1 (by omega) (by omega) (by omega) (by omega);simp only [JZ,F,y,M,O,cond_true,cond_false];rw [← hz];first|rfl|(rw [SG])|(rw [← SG])
    rw [bO]
    have aH:((d).Bits).length=(((HF d.Bits (d.Top+1) j).set ((((e % 1024) / 32)).toNat) (orI ((HF d.Bits (d.Top+1) j).getD (((e % 1024) / 32)).toNat 0) (1*(2:Int) ^ (((e % 1024) % 32)).toNat)))).length:=by first|(simp only [List.length_append,List.length_take,List.length_replicate,List.length_set,List.length_map];done)|(simp only [List.length_append,List.length_take,List.length_replicate,List.length_set,List.length_map];omega)
    rw [aH] at aG ⊢
    exact ⟨_,_,rfl,(tA aG (z2 t q)),(by rw [← aH];exact X),⟨trivial,trivial⟩⟩
   have dh:=dT O
   refine ct O<|uG ?_
   refine mw (vi e) ?_
   refine pu (vp s 0) wN ?_
   have bP:=((B.kp N).ch R (fun h=>by have:=(uI m _ h).2;have:=nT (Nat.le_refl W.heap.size) p;omega))
   refine st (vi e) [(vi e)] [(vi e),(vs g ((d).Bits).length i)] wN GI bP ?_
   intro af aj bQ di
   have bR:=aE.ext aj (fun k hk=>by subst hk;exact nT (z3 t q r) p)
   refine nx<|lN [(vi e),(vs g ((d).Bits).length i)] wN Gj FH bQ ?_
   have bS:=((((((((V.kp r).kp D).ch E (nN (nL o (nT r.size p)))).kp A).ch J (Nat.not_le.2 (o))).kp N).ch R (fun h=>by have:=(uI m _ h).1;have:=nL o (Nat.le_refl C.heap.size);omega)).ch aj (nN (nL o (nT r.size p))))
   refine sv [(vi e),(vs g ((d).Bits).length i)] wN FH bS ?_
   intro br aI bT dj
   have bU:=bR.ext aI (fun k hk=>by subst hk;exact nT t.size T)
   refine aw (vb true) ?_
   refine n3 ?_
   have aJ:=(tC (tC aD aj (ne2 m (p))) aI (ne1 m (o)))
   refine Jv (.inl rfl) (va [(vi e),(vs g ((d).Bits).length i)]) (vb true) rfl (HL [(vi e),(vs g ((d).Bits).length i)] rfl bT Gj FH) rfl ?_
   refine ⟨bU.keep0,?_⟩
   have bW:JZ d e=({Top:=e,Bits:=((HF d.Bits (d.Top+1) j).set ((((e % 1024) / 32)).toNat) (orI ((HF d.Bits (d.Top+1) j).getD (((e % 1024) / 32)).toNat 0) (1*(2:Int) ^ (((e % 1024) % 32)).toNat))):PWin},true):=by have hz:=KR (l:=d.Bits) (top:=d.Top) (n:=e) (j:=j) (Jy (w:=d) (n:=e) (by assumption)).1 (Jy (w:=d) (n:=e) (by assumption)).2.1 (by omega) (by omega) (by omega) (by omega);simp only [JZ,F,y,M,O,cond_true,cond_false];rw [← hz];first|rfl|(rw [SG])|(rw [← SG])
   rw [bW]
   have aK:((d).Bits).length=(((HF d.Bits (d.Top+1) j).set ((((e % 1024) / 32)).toNat) (orI ((HF d.Bits (d.Top+1) j).getD (((e % 1024) / 32)).toNat 0) (1*(2:Int) ^ (((e % 1024) % 32)).toNat)))).length:=by first|(simp only [List.length_append,List.length_take,List.length_replicate,List.length_set,List.length_map];done)|(simp only [List.length_append,List.length_take,List.length_replicate,List.length_set,List.length_map];omega)
   rw [aK] at aJ ⊢
   exact ⟨_,_,rfl,(tA aJ (z2 t q)),(by rw [← aK];exact X),⟨trivial,trivial⟩⟩
theorem sAdd_len (w:PWin) (n:Int):(JZ w n).1.Bits.length=w.Bits.length:=by
  unfold JZ
  cases h:GR w n
  · rfl
  · have a:=Jy h
    show (NX w.Bits w.Top n).length=w.Bits.length
    rw [NX,Lt,IH]

def tB (a:PEp) (d:Int) (b:PFrame):(PEp)×(List UInt8)×(Int):=bif (HB a) then (bif (decide (((FJ d b).length:Int)=0)) then (((a),[],1)) else (bif (decide (b.Epoch=a.N)) then (bif (GR a.Win b.Seq) then (bif ((GZ a.Key d b).2) then (({N:=(a).N,Key:=(a).Key,Seq:=(a).Seq,Win:=((JZ a.Win b.Seq).1):PEp},(GZ a.Key d b).1,0)) else (((a),[],2))) else (((a),[],3))) else (((a),[],1)))) else (((a),[],1))
theorem Nc (R:World) (aP:Value) (a:PEp) (b1:Pn R aP a) (h:Int) (aQ:Value) (b:PFrame) (b2:MH R aQ b) :Fn Tryz.prog 37 #[aP,(vi h),aQ] R (fun v aR=>Keep R aR∧NU aR R.heap.size v (tB a h b)):=by
 obtain ⟨X,Y,S,T,rfl,a9,aA,af,ah⟩:=b1
 obtain ⟨ai,aj,ak,am,an,ao,ap,aq,au,av,ax,ay,rfl,aS,aT,aU,aV,aW,aX,aY,aZ,ba,bb,bc,bd⟩:=b2
 refine FI (n:=64) [(va (Gx a X Y S T)),(vi h),(va (HH b ai aj ak am an ao ap aq au av ax ay))] Tryz.func37 rfl rfl ?_
 refine sr<|bx (Gx a X Y S T) wN ?_
 intro Z cu cv b3 m b4
 refine bx (HH b ai aj ak am an ao ap aq au av ax ay) wN ?_
 intro az cw cx b5 l b6
 refine al Ks wN Hy ?_
 intro b7 G a0 x p a1
 have aB:=(((Ch.base R).extk m).extk l).extk p
 refine aw (vs none 0 0) ?_
 refine aw (vi 0) ?_
 refine nx ?_
 have be:=((b4.kp l).kp p)
 refine lN (Gx a X Y S T) wN FE uE be ?_
 refine cl wN (MZ G _ a (IP (a9.from0 aB) aA (af.from0 aB) ah)) ?_
 rintro _ M ⟨j,⟨q,r,A,B,rfl,C,a2,H,aC,aD⟩⟩
 refine al Ks wN Hy ?_
 intro bg cy y bh g b8
 refine sv (Gx (a) q r A B) wN uE b8 ?_
 intro b9 d a3 cz
 have a4:=((aB.extk j).extk g).ext d (fun k hk=>by subst hk;exact nT (z4 m l p j) y)
 refine n4<|jT1 [(1,(vi h)),(3,(vp Z 0)),(5,(vp az 0)),(6,(vp b7 0)),(7,(vs none 0 0)),(8,(vi 0)),(9,(vp bg 0))] (tB a h b=((a),[],1)) ?_ fun aE=>?_
 ·intro bA bi O c0
  refine sr ?_
  have bB:=(a3.kp O)
  refine lN (Gx (a) q r A B) wN FE uE bB ?_
  refine Gc wN rfl rfl tD (fun w=>by kernel_rfl) ?_
  intro bj bk aF a5
  have bC:=(((((a1.kp j).kp g).ch d (nN (nL x (nT j.size y)))).kp O).kp aF)
  refine sv (Gx (a) q r A B) wN uE bC ?_
  intro bl aG bD c1
  have bE:=((a4.extk O).extk aF).ext aG (fun k hk=>by subst hk;exact nT (z2 m l) a0)
  refine aw (vs (some bj) 0 0) ?_
  refine aw (vi 1) ?_
  refine n1 ?_
  have bm:=fun (E sz n:Nat) (v:Value) (F:List Value) (o:World.ownsRow M G.heap.size E sz v n F) (D:World.ownsRow M G.heap.size E sz v n F)=>(tC (gc (gc (tC (gc o g) d (ne2 D (y))) O) aF) aG (ne1 D (x)))
  have bF:=(bm _ _ _ _ _ C C)
  have bG:=(bm _ _ _ _ _ H H)
  have bH:=(tC a5 aG (ne1 a5 (nL x (z4 j g d O))))
  refine Hu (.inl rfl) (va (Gx (a) q r A B)) (vs (some bj) 0 0) (vi 1) rfl (HL (Gx (a) q r A B) rfl bD FE uE) rfl rfl ?_
  refine ⟨bE.keep0,?_⟩
  rw [bA]
  exact ⟨_,_,_,_,_,_,rfl,(tA bF (z3 m l p)),a2,(tA bG (z3 m l p)),aC,(tA bH (z7 m l p j g d O)),(by simp),⟨⟨(aD.1.1),⟨(Ap.lt C a5 (z3 g d O)),trivial⟩⟩,⟨⟨(Ap.lt H a5 (z3 g d O)),trivial⟩,⟨trivial,trivial⟩⟩⟩⟩
 have bn:=(((be.kp j).kp g).ch d (nN (nL b3 (nT (z3 l p j) y))))
 refine lN (Gx a X Y S T) wN FE uE bn ?_
 refine cl wN (OZ b9 _ a (IP (a9.from0 a4) aA (af.from0 a4) ah)) ?_
 rintro _ bi ⟨e,rfl⟩
 have P:=a4.extk e
 refine pu (vb (!(HB a))) wN ?_
 refine mw (vb (!(HB a))) ?_
 rcases bf (HB a) with t|t
 ·iterate 5 refine sk (cA not t) ?_
  refine pk (vb true) wN (cA not t) ?_
  refine mw (vb true) ?_
  iterate 5 refine sk T1 ?_
  refine pk (vb true) wN T1 ?_
  refine n2<|ct T1 ?_
  have bI:tB a h b=((a),[],1):=by simp only [tB,t,cond_true,cond_false]
  exact wj (aE bI _ e)
 have c2:=Jg t
 refine mv (vi h) (wS (cA not t)) ?_
 have bo:=(((((b6.kp p).kp j).kp g).ch d (nN (nL b5 (nT (z2 p j) y)))).kp e)
 refine lN (HH b ai aj ak am an ao ap aq au av ax ay) (wS (cA not t)) Gg FD bo ?_
 refine cl (wS (cA not t)) (MB bi h _ b (IN (aS.from0 P) aT (aU.from0 P) aV (aW.from0 P) aX (aY.from0 P) aZ (ba.from0 P) bb (bc.from0 P) bd)) ?_
 rintro _ bk ⟨f,⟨c3,c4,rfl,bJ,_⟩⟩
 have bp:=P.extk f
 refine ln (wS (cA not t)) tD (Rd.of_own bJ) ?_
 refine pu (vb (decide (((FJ h b).length:Int)=0))) (wS (cA not t)) ?_
 refine pf (vb (decide (((FJ h b).length:Int)=0))) wN (cA not t) ?_
 refine mw (vb (decide (((FJ h b).length:Int)=0))) ?_
 rcases bt (decide (((FJ h b).length:Int)=0)) with u|u
 ·have c5:=dT u
  iterate 5 refine sk u ?_
  refine pk (vb true) wN u ?_
  refine n2<|ct T1 ?_
  have bK:tB a h b=((a),[],1):=by simp only [tB,t,u,cond_true,cond_false]
  exact wj (aE bK _ (e.trans f))
 have c6:=dF u
 refine pu (vp az 7) (wS u) ?_
 have aH:=(bo.kp f)
 refine ld (vi b.Epoch) (wS u) tE aH ?_
 refine pu (vp Z 0) (wS u) ?_
 have aI:=((bn.kp e).kp f)
 refine ld (vi a.N) (wS u) tE aI ?_
 refine pu (vb (!(decide (b.Epoch=a.N)))) (wS u) ?_
 refine pf (vb (!(decide (b.Epoch=a.N)))) wN u ?_
 refine n2 ?_
 rcases bf (decide (b.Epoch=a.N)) with I|I
 ·have c7:=dF I
  refine ct (cA not I) ?_
  have bL:tB a h b=((a),[],1):=by simp only [tB,t,u,I,cond_true,cond_false]
  exact wj (aE bL _ (e.trans f))
 have c8:=dT I
 refine cf (cA not I)<|y2<|pu (vp Z 3) wN ?_
 refine lN (HQ a.Win S T) wN Gj FH aI ?_
 refine pu (vp az 8) wN ?_
 refine ld (vi b.Seq) wN tE aH ?_
 refine cl wN (OX bk _ a.Win (JD (af.from0 bp) ah) b.Seq) ?_
 rintro _ bl ⟨i,rfl⟩
 have J:=bp.extk i
 refine pu (vb (!(GR a.Win b.Seq))) wN ?_
 refine n2 ?_
 rcases bf (GR a.Win b.Seq) with Q|Q
 ·refine ct (cA not Q)<|sr ?_
  have bM:=(((a3.kp e).kp f).kp i)
  refine lN (Gx (a) q r A B) wN FE uE bM ?_
  refine Gc wN rfl rfl tD (fun w=>by kernel_rfl) ?_
  intro bq aJ aK a6
  have bN:=(((((((a1.kp j).kp g).ch d (nN (nL x (nT j.size y)))).kp e).kp f).kp i).kp aK)
  refine sv (Gx (a) q r A B) wN uE bN ?_
  intro br aL bO c9
  have bP:=(J.extk aK).ext aL (fun k hk=>by subst hk;exact nT (z2 m l) a0)
  refine aw (vs (some bq) 0 0) ?_
  refine aw (vi 3) ?_
  refine n1 ?_
  have bu:=fun (E sz n:Nat) (v:Value) (F:List Value) (o:World.ownsRow M G.heap.size E sz v n F) (D:World.ownsRow M G.heap.size E sz v n F)=>(tC (gc (gc (gc (gc (tC (gc o g) d (ne2 D (y))) e) f) i) aK) aL (ne1 D (x)))
  have bQ:=(bu _ _ _ _ _ C C)
  have bR:=(bu _ _ _ _ _ H H)
  have bS:=(tC a6 aL (ne1 a6 (nL x (z6 j g d e f i))))
  refine Hu (.inl rfl) (va (Gx (a) q r A B)) (vs (some bq) 0 0) (vi 3) rfl (HL (Gx (a) q r A B) rfl bO FE uE) rfl rfl ?_
  refine ⟨bP.keep0,?_⟩
  simp only [tB,t,u,I,Q,cond_true,cond_false]
  exact ⟨_,_,_,_,_,_,rfl,(tA bQ (z3 m l p)),a2,(tA bR (z3 m l p)),aC,(tA bS (z9 m l p j g d e f i)),(by simp),⟨⟨(aD.1.1),⟨(Ap.lt C a6 (z5 g d e f i)),trivial⟩⟩,⟨⟨(Ap.lt H a6 (z5 g d e f i)),trivial⟩,⟨trivial,trivial⟩⟩⟩⟩
 have cC:=Jy Q
 refine cf (cA not Q)<|y1<|pu (vp Z 1) wN ?_
 have bv:=(aI.kp i)
 refine ld (vs X a.Key.length Y) wN uH bv ?_
 refine mw (vi h) ?_
 have bw:=(aH.kp i)
 refine lN (HH b ai aj ak am an ao ap aq au av ax ay) wN Gg FD bw ?_
 refine cl wN (Sg bl _ a.Key (FV (a9.from0 J) aA) h _ b (IN (aS.from0 J) aT (aU.from0 J) aV (aW.from0 J) aX (aY.from0 J) aZ (ba.from0 J) bb (bc.from0 J) bd)) ?_
 rintro _ aJ ⟨s,⟨V,W,rfl,aa,bT,cD⟩⟩
 have aM:=J.extk s
 refine mw (.tuple #[(vs V ((GZ a.Key h b).1).length W),(vb ((GZ a.Key h b).2))]) ?_
 refine pu (vs V ((GZ a.Key h b).1).length W) wN ?_
 refine pu (vb ((GZ a.Key h b).2)) wN ?_
 refine aw (vs V ((GZ a.Key h b).1).length W) ?_
 refine aw (vb ((GZ a.Key h b).2)) ?_
 refine n4<|mw (vb ((GZ a.Key h b).2)) ?_
 refine pu (vb (!((GZ a.Key h b).2))) wN ?_
 refine n2 ?_
 rcases bf ((GZ a.Key h b).2) with ab|ab
 ·refine ct (cA not ab)<|sr ?_
  have bU:=((((a3.kp e).kp f).kp i).kp s)
  refine lN (Gx (a) q r A B) wN FE uE bU ?_
  refine Gc wN rfl rfl tD (fun w=>by kernel_rfl) ?_
  intro bz br aN a7
  have bW:=((((((((a1.kp j).kp g).ch d (nN (nL x (nT j.size y)))).kp e).kp f).kp i).kp s).kp aN)
  refine sv (Gx (a) q r A B) wN uE bW ?_
  intro bX aO bY cE
  have bZ:=(aM.extk aN).ext aO (fun k hk=>by subst hk;exact nT (z2 m l) a0)
  refine aw (vs (some bz) 0 0) ?_
  refine aw (vi 2) ?_
  refine n1 ?_
  have b0:=fun (E sz n:Nat) (v:Value) (F:List Value) (o:World.ownsRow M G.heap.size E sz v n F) (D:World.ownsRow M G.heap.size E sz v n F)=>(tC (gc (gc (gc (gc (gc (tC (gc o g) d (ne2 D (y))) e) f) i) s) aN) aO (ne1 D (x)))
  have ca:=(b0 _ _ _ _ _ C C)
  have cb:=(b0 _ _ _ _ _ H H)
  have cc:=(tC a7 aO (ne1 a7 (nL x (z7 j g d e f i s))))
  refine Hu (.inl rfl) (va (Gx (a) q r A B)) (vs (some bz) 0 0) (vi 2) rfl (HL (Gx (a) q r A B) rfl bY FE uE) rfl rfl ?_
  refine ⟨bZ.keep0,?_⟩
  simp only [tB,t,u,I,Q,ab,cond_true,cond_false]
  exact ⟨_,_,_,_,_,_,rfl,(tA ca (z3 m l p)),a2,(tA cb (z3 m l p)),aC,(tA cc (z10 m l p j g d e f i s)),(by simp),⟨⟨(aD.1.1),⟨(Ap.lt C a7 (z6 g d e f i s)),trivial⟩⟩,⟨⟨(Ap.lt H a7 (z6 g d e f i s)),trivial⟩,⟨trivial,trivial⟩⟩⟩⟩
 refine cf (cA not ab)<|y1<|pu (vp Z 3) wN ?_
 have cd:=(bv.kp s)
 refine lN (HQ a.Win S T) wN Gj FH cd ?_
 refine pu (vp az 8) wN ?_
 have ce:=(bw.kp s)
 refine ld (vi b.Seq) wN tE ce ?_
 refine cl wN (Sf aJ _ a.Win (JD (af.from0 aM) ah) b.Seq) ?_
 rintro _ br ⟨ac,⟨K,L,rfl,ad,cg,cF⟩⟩
 refine mw (.tuple #[(va (HQ ((JZ a.Win b.Seq).1) K L)),(vb ((JZ a.Win b.Seq).2))]) ?_
 refine pu (va (HQ ((JZ a.Win b.Seq).1) K L)) wN ?_
 refine pu (vb ((JZ a.Win b.Seq).2)) wN ?_
 refine pu (vp bg 3) wN ?_
 have ci:=(((((a3.kp e).kp f).kp i).kp s).kp ac)
 refine st (va (HQ ((JZ a.Win b.Seq).1) K L)) (HQ ((JZ a.Win b.Seq).1) K L) [(vi ((a).N)),(vs q ((a).Key).length r),(vi ((a).Seq)),(vi (((JZ a.Win b.Seq).1).Top)),(vs K (((JZ a.Win b.Seq).1).Bits).length L)] wN FH ci ?_
 intro bX ae cj cG
 have ck:=(aM.extk ac).ext ae (fun k hk=>by subst hk;exact nT (z4 m l p j) y)
 refine nx<|lN [(vi ((a).N)),(vs q ((a).Key).length r),(vi ((a).Seq)),(vi (((JZ a.Win b.Seq).1).Top)),(vs K (((JZ a.Win b.Seq).1).Bits).length L)] wN FE uE cj ?_
 refine mw (vs V ((GZ a.Key h b).1).length W) ?_
 have cm:=(((((((((a1.kp j).kp g).ch d (nN (nL x (nT j.size y)))).kp e).kp f).kp i).kp s).kp ac).ch ae (nN (nL x (nT j.size y))))
 refine sv [(vi ((a).N)),(vs q ((a).Key).length r),(vi ((a).Seq)),(vi (((JZ a.Win b.Seq).1).Top)),(vs K (((JZ a.Win b.Seq).1).Bits).length L)] wN uE cm ?_
 intro cH a8 cn cI
 have co:=ck.ext a8 (fun k hk=>by subst hk;exact nT (z2 m l) a0)
 refine aw (vs V ((GZ a.Key h b).1).length W) ?_
 refine aw (vi 0) ?_
 refine n3 ?_
 have cp:=fun (E sz n:Nat) (v:Value) (F:List Value) (o:World.ownsRow M G.heap.size E sz v n F) (D:World.ownsRow M G.heap.size E sz v n F)=>(tC (tC (gc (gc (gc (gc (gc (tC (gc o g) d (ne2 D (y))) e) f) i) s) ac) ae (ne2 D (y))) a8 (ne1 D (x)))
 have cq:=(cp _ _ _ _ _ C C)
 have cr:=(tC (tC ad ae (ne1 ad (nL bh (z5 d e f i s)))) a8 (ne1 ad (nL x (z7 j g d e f i s))))
 have cs:=(tC (tC (gc aa ac) ae (ne1 aa (nL bh (z4 d e f i)))) a8 (ne1 aa (nL x (z6 j g d e f i))))
 refine Hu (.inl rfl) (va [(vi ((a).N)),(vs q ((a).Key).length r),(vi ((a).Seq)),(vi (((JZ a.Win b.Seq).1).Top)),(vs K (((JZ a.Win b.Seq).1).Bits).length L)]) (vs V ((GZ a.Key h b).1).length W) (vi 0) rfl (HL [(vi ((a).N)),(vs q ((a).Key).length r),(vi ((a).Seq)),(vi (((JZ a.Win b.Seq).1).Top)),(vs K (((JZ a.Win b.Seq).1).Bits).length L)] rfl cn FE uE) rfl rfl ?_
 refine ⟨co.keep0,?_⟩
 simp only [tB,t,u,I,Q,ab,cond_true,cond_false]
 exact ⟨_,_,_,_,_,_,rfl,(tA cq (z3 m l p)),a2,(tA cr (z10 m l p j g d e f i s)),cg,(tA cs (z9 m l p j g d e f i)),bT,⟨⟨(Ap.lt C ad (z6 g d e f i s)),⟨(Ap.lt C aa (z5 g d e f i)),trivial⟩⟩,⟨⟨(Ap.lt aa ad (Nat.le_refl aJ.heap.size)).symm,trivial⟩,⟨trivial,trivial⟩⟩⟩⟩

theorem Qg:∀ w,(sizeOf 23).run Tryz.prog w=.ok 1 w:=fun w=>by kernel_rfl
def JP:PWin:={Top:=(-1),Bits:=List.replicate 32 0}
theorem Se (b:World)  :Fn Tryz.prog 76 #[] b (fun v d=>Keep b d∧UO d b.heap.size v (JP)):=by
 refine FI (n:=14) [] Tryz.func76 rfl rfl ?_
 refine sr<|al [(vi 0),(vs none 0 0)] wN Jt ?_
 intro r s H t i I
 refine nx<|pu (va [(vi (-1)),(vs none 0 0)]) wN ?_
 refine al [(vi 0),(vs none 0 0)] wN Jt ?_
 intro e ae m B f J
 refine sv [(vi (-1)),(vs none 0 0)] wN FH J ?_
 intro o a K af
 have L:=(((Ch.base b).extk i).extk f).ext a (fun k hk=>by subst hk;exact nT i.size m)
 refine n4<|aw (vi 0) ?_
 refine uD<|rg<|uJ ?_
 have M:(([]:List Int):List Int)=List.replicate 0 (0:Int):=by first|rfl|exact List.replicate_succ'.symm
 refine Ge [(0,(vp r 0)),(1,(vp e 0)),(2,(vi ((0:Nat):Int)))] ⟨rfl,rfl,(cA (Value.int .i64) (show (0:Int)=((0:Nat):Int) by omega)),trivial⟩ (fun e' d=>∃ (k:Nat) (C:Env) (ab1_1x:Option Addr) (cb1_1x:Nat),e'=pt C [(0,(vp r 0)),(1,(vp e 0)),(2,(vi ((k:Nat):Int)))]∧Ch (fun k=>b.heap.size≤k) b d∧Ch (fun k=>s.heap.size≤k) o d∧k≤32∧(World.ownsRow d o.heap.size 3 1 (.slice ab1_1x (List.replicate k (0:Int)).length cb1_1x) (List.replicate k (0:Int)).length ((List.replicate k (0:Int)).map iV)∧(List.replicate k (0:Int)).length≤1073741824)∧Blk d e 34 [(vi (-1)),(.slice ab1_1x (List.replicate k (0:Int)).length cb1_1x)]) (fun e' _=>(32 - (intOf (e' 2))).toNat) ?_ ?_
 ·exact fun u=>⟨0,u,none,0,rfl,L,(Ch.refl (fun k=>s.heap.size≤k) o),(by omega),(M ▸ ⟨(FL _ _ _ _),(by simp)⟩),K⟩
 ·rintro _ N ⟨k,C,ab1_1x,cb1_1x,rfl,D,w,ah,⟨g,O⟩,x⟩
  have hpl:(List.replicate k (0:Int)).length=k:=List.length_replicate
  refine uK<|sr<|mw (vi ((k:Nat):Int)) ?_
  refine pu (vb (decide (((k:Nat):Int) < 32))) wN ?_
  refine n2 ?_
  rcases bf (decide (((k:Nat):Int) < 32)) with j|j
  ·have ai:=dF j
   refine cf j<|Gn<|uA<|uA<|wr<|rg<|sr<|lN [(vi (-1)),(vs ab1_1x (List.replicate k (0:Int)).length cb1_1x)] wN Gj FH x ?_
   have P:=(((I.kp f).ch a (nN (nL t (m)))).ch w (Nat.not_le.2 (t)))
   refine sv [(vi (-1)),(vs ab1_1x (List.replicate k (0:Int)).length cb1_1x)] wN FH P ?_
   intro Q E R aj
   have S:=D.ext E (fun k hk=>by subst hk;exact H)
   refine n3 ?_
   have T:=(tC g E (ne1 g (nL t (z2 f a))))
   refine Jz (.inl rfl) (va [(vi (-1)),(vs ab1_1x (List.replicate k (0:Int)).length cb1_1x)]) rfl (HL [(vi (-1)),(vs ab1_1x (List.replicate k (0:Int)).length cb1_1x)] rfl R Gj FH) ?_
   refine ⟨S.keep0,?_⟩
   have V:JP={Top:=(-1),Bits:=(List.replicate k (0:Int)):PWin}:=by (obtain rfl:k=32:=by omega);rfl
   rw [V]
   exact ⟨_,_,rfl,(tA T (z3 i f a)),O,⟨trivial,trivial⟩⟩
  have ak:=dT j
  refine ct j<|FR<|rg<|uK<|uJ<|uG ?_
  refine pu (vp e 1) wN ?_
  refine ld (vs ab1_1x (List.replicate k (0:Int)).length cb1_1x) wN GO x ?_
  refine ltI ([0]:List Int) wN uQ ?_
  intro am an Q l W
  have X:=(gc g l)
  refine apI (List.replicate k (0:Int)) ([0]:List Int) wN uQ X (Rd.of_own W) (z2 w l) ?_
  intro p q ao y F ap Y
  have Z:=(D.extk l).ext y (fun k hk=>nT (z3 i f a) (uI g k hk).1)
  refine pu (vp e 1) wN ?_
  have aa:=((x.kp l).ch y (fun h=>by have:=(uI g _ h).1;have:=nL B a.size;omega))
  refine st (vs p ((List.replicate k (0:Int))++([0]:List Int)).length q) [(vs p ((List.replicate k (0:Int))++([0]:List Int)).length q)] [(vi (-1)),(vs p ((List.replicate k (0:Int))++([0]:List Int)).length q)] wN Qg aa ?_
  intro aq A ab au
  have ac:=Z.ext A (fun k hk=>by subst hk;exact nT i.size m)
  refine uD<|uB<|rg<|uG ?_
  refine mw (vi ((k:Nat):Int)) ?_
  refine ar (((k:Nat):Int)+1) wN ?_
  refine aw (vi (((k:Nat):Int)+1)) ?_
  refine uD ?_
  have ad:=(tC F A (ne1 F (nL B a.size)))
  have G:(((List.replicate k (0:Int))++([0]:List Int)):List Int)=List.replicate (k+1) (0:Int):=by first|rfl|exact List.replicate_succ'.symm
  refine FX (w0:=N) [(0,(vp r 0)),(1,(vp e 0)),(2,(vi (((k+1):Nat):Int)))] ?_ ?_ ?_
  · exact ⟨rfl,rfl,(cA (Value.int .i64) (show ((((k:Nat):Int)+1):Int)=(((k+1):Nat):Int) by omega)),trivial⟩
  · exact fun u=>⟨(k+1),u,p,q,rfl,ac,(((((Ch.refl (fun k=>s.heap.size≤k) o).ext w (fun k hk=>hk)).extk l).ext y (fun k hk=>nT (z2 f a) (uI g k hk).1)).ext A (fun k hk=>by subst hk;exact m)),(by omega),(G ▸ ⟨ad,Y⟩),(by have hb:=ab;first|exact hb|(rw [G] at hb;exact hb))⟩
  · show (32 - (((k+1):Nat):Int)).toNat < (32 - ((k:Nat):Int)).toNat;omega

def FM (a:Int) (b:List UInt8):(PEp):=bif (FP a 0 4294967295) then (bif (decide ((b.length:Int)=32)) then ({N:=a,Key:=b,Seq:=0,Win:=(JP):PEp}) else ({N:=0,Key:=[],Seq:=0,Win:={Top:=0,Bits:=[]:PWin}:PEp})) else ({N:=0,Key:=[],Seq:=0,Win:={Top:=0,Bits:=[]:PWin}:PEp})
theorem TD (g:World) (a:Int) (y:Value) (b:List UInt8) (L:HP g y b) :Fn Tryz.prog 38 #[(vi a),y] g (fun v A=>Keep g A∧TP A g.heap.size v (FM a b)):=by
 obtain ⟨i,j,rfl,B,M⟩:=L
 refine FI (n:=20) [(vi a),(vs i b.length j)] Tryz.func38 rfl rfl ?_
 refine sr<|al Ks wN Hy ?_
 intro O P C D r E
 have F:=(Ch.base g).extk r
 refine n4<|jT1 [(0,(vi a)),(1,(vs i b.length j)),(4,(vp O 0))] (FM a b={N:=0,Key:=[],Seq:=0,Win:={Top:=0,Bits:=[]:PWin}:PEp}) ?_ fun G=>?_
 ·intro Q R H ai
  refine sr<|pu (va Ks) wN ?_
  have S:=(E.kp H)
  refine sv Ks wN uE S ?_
  intro T V W aj
  have X:=(F.extk H).ext V (fun k hk=>by subst hk;exact C)
  refine n1<|Jz (.inl rfl) (va Ks) rfl (HL Ks rfl W FE uE) ?_
  refine ⟨X.keep0,?_⟩
  rw [Q]
  exact ⟨_,_,_,_,rfl,(by first|exact FL _ _ _ _|exact OLv.nil _ _ _ _),(by simp),(by first|exact FL _ _ _ _|exact OLv.nil _ _ _ _),(by simp),⟨⟨(Ap.nl _),trivial⟩,⟨trivial,trivial⟩⟩⟩
 refine mw (vi a) ?_
 refine cl wN (HO P a 0 4294967295) ?_
 rintro _ R ⟨e,rfl⟩
 have I:=F.extk e
 refine pu (vb (!(FP a 0 4294967295))) wN ?_
 refine mw (vb (!(FP a 0 4294967295))) ?_
 rcases bf (FP a 0 4294967295) with d|d
 ·have ak:=Gp d
  iterate 3 refine sk (cA not d) ?_
  refine pk (vb true) wN (cA not d) ?_
  refine n2<|ct T1 ?_
  have Y:FM a b={N:=0,Key:=[],Seq:=0,Win:={Top:=0,Bits:=[]:PWin}:PEp}:=by simp only [FM,d,cond_true,cond_false]
  exact wj (G Y _ e)
 have am:=FZ d
 refine mv (vs i b.length j) (wS (cA not d)) ?_
 refine ln (wS (cA not d)) tD (B.from0 I) ?_
 refine pu (vb (!(decide ((b.length:Int)=32)))) (wS (cA not d)) ?_
 refine pf (vb (!(decide ((b.length:Int)=32)))) wN (cA not d) ?_
 refine n2 ?_
 rcases bf (decide ((b.length:Int)=32)) with f|f
 ·have an:=dF f
  refine ct (cA not f) ?_
  have Z:FM a b={N:=0,Key:=[],Seq:=0,Win:={Top:=0,Bits:=[]:PWin}:PEp}:=by simp only [FM,d,f,cond_true,cond_false]
  exact wj (G Z _ e)
 have ao:=dT f
 refine cf (cA not f)<|y1<|mw (vi a) ?_
 refine Gc wN rfl rfl tD (fun w=>by kernel_rfl) ?_
 intro ap T h aa
 have J:=I.extk h
 refine mw (vs i b.length j) ?_
 refine ap0 b wN tD aa (B.from0 J) h.size ?_
 intro l m K o s aq
 refine cl wN (Se K ) ?_
 rintro _ au ⟨t,⟨p,q,rfl,u,ab,av⟩⟩
 refine pu (va [(vi a),(vs l b.length m),(vi 0),(vi ((JP).Top)),(vs p ((JP).Bits).length q)]) wN ?_
 have ac:=((((E.kp e).kp h).kp o).kp t)
 refine sv [(vi a),(vs l b.length m),(vi 0),(vi ((JP).Top)),(vs p ((JP).Bits).length q)] wN uE ac ?_
 intro ax x ad ay
 have ae:=((J.extk o).extk t).ext x (fun k hk=>by subst hk;exact C)
 refine n3 ?_
 have af:=(tC (gc s t) x (ne1 s (nL D e.size)))
 have ah:=(tC u x (ne1 u (nL D (z3 e h o))))
 refine Jz (.inl rfl) (va [(vi a),(vs l b.length m),(vi 0),(vi ((JP).Top)),(vs p ((JP).Bits).length q)]) rfl (HL [(vi a),(vs l b.length m),(vi 0),(vi ((JP).Top)),(vs p ((JP).Bits).length q)] rfl ad FE uE) ?_
 refine ⟨ae.keep0,?_⟩
 simp only [FM,d,f,cond_true,cond_false]
 exact ⟨_,_,_,_,rfl,(tA af (z2 r e)),M,(tA ah (z4 r e h o)),ab,⟨⟨(Ap.lt s u (Nat.le_refl K.heap.size)),trivial⟩,⟨trivial,trivial⟩⟩⟩
theorem epNew_N (n:Int) (k:List UInt8):0≤(FM n k).N∧(FM n k).N≤4294967295:=by
  unfold FM
  cases h1:FP n 0 4294967295 with
  | false=>exact ⟨Int.le_refl _,(show (0:Int)≤4294967295 by decide)⟩
  | true =>
    cases decide ((k.length:Int)=32) with
    | false=>exact ⟨Int.le_refl _,(show (0:Int)≤4294967295 by decide)⟩
    | true=>exact FZ h1

def PQ (w:World) (lo:Nat) (v:Value) (x:(PEp)×(List UInt8)×(Int)) (k:Option Addr×Nat→Option Addr×Nat→Option Addr×Nat→Prop):Prop:=∃ (a:Option Addr) (b:Nat) (d:Option Addr) (e:Nat) (f:Option Addr) (g:Nat),v=.tuple #[.agg #[.int .i64 x.1.N,.slice a x.1.Key.length b,.int .i64 x.1.Seq,.int .i64 x.1.Win.Top,.slice d x.1.Win.Bits.length e],.slice f x.2.1.length g,.int .i64 x.2.2]∧w.ownsRow lo 5 1 (.slice a x.1.Key.length b) x.1.Key.length (x.1.Key.map bV)∧x.1.Key.length≤1073741824∧w.ownsRow lo 3 1 (.slice d x.1.Win.Bits.length e) x.1.Win.Bits.length (x.1.Win.Bits.map iV)∧x.1.Win.Bits.length≤1073741824∧w.ownsRow lo 5 1 (.slice f x.2.1.length g) x.2.1.length (x.2.1.map bV)∧x.2.1.length≤1073741824∧Aps [(a,b),(d,e),(f,g)]∧k (a,b) (d,e) (f,g)
def Ha (a:PChan) (d:Int) (b:PFrame):(PChan)×(List UInt8)×(Int):=bif (decide (0 < (a.Next.length:Int))) then (bif (decide (b.Epoch=(a.Cur.N+1))) then (bif (decide ((tB (FM (a.Cur.N+1) a.Next) (1 - a.Role) b).2.2=0)) then (({Role:=(a).Role,Sn:=(a).Sn,Cur:=((tB (FM (a.Cur.N+1) a.Next) (1 - a.Role) b).1),Old:=((a).Cur),HasOld:=true,Until:=(d+5),Next:=[]:PChan},(tB (FM (a.Cur.N+1) a.Next) (1 - a.Role) b).2.1,0)) else (((a),[],(tB (FM (a.Cur.N+1) a.Next) (1 - a.Role) b).2.2))) else (((a),[],8))) else (((a),[],8))
def Hr (a:PChan) (d:Int) (b:PFrame):(PChan)×(List UInt8)×(Int):=bif (decide ((tB a.Old (1 - a.Role) b).2.2=0)) then (({Role:=(a).Role,Sn:=(a).Sn,Cur:=((a).Cur),Old:=((tB a.Old (1 - a.Role) b).1),HasOld:=(a).HasOld,Until:=(a).Until,Next:=(a).Next:PChan},(tB a.Old (1 - a.Role) b).2.1,0)) else (((a),[],(tB a.Old (1 - a.Role) b).2.2))
def FF (a:PChan) (d:Int) (b:PFrame):(PChan)×(List UInt8)×(Int):=bif (Gf a) then (bif (FP d 0 1000000) then (bif (FO b) then (bif (Hz b.Kind) then (bif (Jp b.Sn a.Sn) then (bif (decide (b.Epoch=a.Cur.N)) then (bif (decide ((tB a.Cur (1 - a.Role) b).2.2=0)) then (bif a.HasOld then (bif (decide (a.Until=(-1))) then (({Role:=(a).Role,Sn:=(a).Sn,Cur:=((tB a.Cur (1 - a.Role) b).1),Old:=((a).Old),HasOld:=(a).HasOld,Until:=(d+5),Next:=(a).Next:PChan},(tB a.Cur (1 - a.Role) b).2.1,0)) else (({Role:=(a).Role,Sn:=(a).Sn,Cur:=((tB a.Cur (1 - a.Role) b).1),Old:=((a).Old),HasOld:=(a).HasOld,Until:=(a).Until,Next:=(a).Next:PChan},(tB a.Cur (1 - a.Role) b).2.1,0))) else (({Role:=(a).Role,Sn:=(a).Sn,Cur:=((tB a.Cur (1 - a.Role) b).1),Old:=((a).Old),HasOld:=(a).HasOld,Until:=(a).Until,Next:=(a).Next:PChan},(tB a.Cur (1 - a.Role) b).2.1,0))) else (((a),[],(tB a.Cur (1 - a.Role) b).2.2))) else (bif a.HasOld then (bif (decide (b.Epoch=a.Old.N)) then (bif (decide (a.Until=(-1))) then ((Hr a d b)) else (bif (decide (a.Until < d)) then (((a),[],9)) else ((Hr a d b)))) else ((Ha a d b))) else ((Ha a d b)))) else (((a),[],8))) else (((a),[],1))) else (((a),[],1))) else (((a),[],1))) else (((a),[],1))
theorem PF (cg:World) (ey:Value) (a:PChan) (fc:Ro cg ey a) (A:Int) (ez:Value) (b:PFrame) (fd:MH cg ez b) :Fn Tryz.prog 8 #[ey,(vi A),ez] cg (fun v bo=>Keep cg bo∧KT bo cg.heap.size v (FF a A b)):=by
 obtain ⟨c8,c9,cC,cD,cE,cF,cG,cH,cI,cJ,b7,b8,rfl,dz,d0,d1,d2,d3,d4,d5,d6,d7,d8,cY,d9⟩:=fc
 obtain ⟨b9,bA,bp,bq,bB,bC,bD,bE,bF,bG,bH,bI,rfl,cZ,da,cK,cL,db,dc,dd,de,df,dg,dh,di⟩:=fd
 refine FI (n:=174) [(va (GH a c8 c9 cC cD cE cF cG cH cI cJ b7 b8)),(vi A),(va (HH b b9 bA bp bq bB bC bD bE bF bG bH bI))] Tryz.func8 rfl rfl ?_
 refine sr<|bx (GH a c8 c9 cC cD cE cF cG cH cI cJ b7 b8) wN ?_
 intro aa dj iY dA j fe
 refine bx (HH b b9 bA bp bq bB bC bD bE bF bG bH bI) wN ?_
 intro aY iZ ja ff f fg
 refine al Mf wN HR ?_
 intro cM ac aH O s aI
 have bJ:=(((Ch.base cg).extk j).extk f).extk s
 refine aw (vs none 0 0) ?_
 refine aw (vi 0) ?_
 refine nx ?_
 have e0:=((fe.kp f).kp s)
 refine lN (GH a c8 c9 cC cD cE cF cG cH cI cJ b7 b8) wN wb uC e0 ?_
 refine cl wN (QQ ac _ a (KI (dz.from0 bJ) d0 (d1.from0 bJ) d2 (d3.from0 bJ) d4 (d5.from0 bJ) d6 (d7.from0 bJ) d8 (cY.from0 bJ) d9)) ?_
 rintro _ af ⟨x,⟨B,C,D,F,G,H,P,Q,R,S,I,J,rfl,M,aJ,V,aZ,W,ba,X,bb,Y,bc,T,aS,d⟩⟩
 refine al Mf wN HR ?_
 intro az jb K aK u fh
 refine sv (GH (a) B C D F G H P Q R S I J) wN uC fh ?_
 intro fi p aT jc
 have br:=((bJ.extk x).extk u).ext p (fun k hk=>by subst hk;exact nT (z4 j f s x) K)
 refine n4<|jT1 [(1,(vi A)),(3,(vp aa 0)),(5,(vp aY 0)),(6,(vp cM 0)),(7,(vs none 0 0)),(8,(vi 0)),(9,(vp az 0))] (FF a A b=((a),[],1)) ?_ fun dk=>?_
 ·intro fj e1 a6 jd
  refine sr ?_
  have fk:=(aT.kp a6)
  refine lN (GH (a) B C D F G H P Q R S I J) wN wb uC fk ?_
  refine Gc wN rfl rfl tD (fun w=>by kernel_rfl) ?_
  intro e2 e3 dB bu
  have fl:=(((((aI.kp x).kp u).ch p (nN (nL O (nT x.size K)))).kp a6).kp dB)
  refine sv (GH (a) B C D F G H P Q R S I J) wN uC fl ?_
  intro e4 dC fm je
  have fo:=((br.extk a6).extk dB).ext dC (fun k hk=>by subst hk;exact nT (z2 j f) aH)
  refine aw (vs (some e2) 0 0) ?_
  refine aw (vi 1) ?_
  refine n1 ?_
  have ci:=fun (E sz n:Nat) (v:Value) (L:List Value) (o:World.ownsRow af ac.heap.size E sz v n L) (y:World.ownsRow af ac.heap.size E sz v n L)=>(tC (gc (gc (tC (gc o u) p (ne2 y (K))) a6) dB) dC (ne1 y (O)))
  have fp:=(ci _ _ _ _ _ M M)
  have fq:=(ci _ _ _ _ _ V V)
  have fr:=(ci _ _ _ _ _ W W)
  have fs:=(ci _ _ _ _ _ X X)
  have ft:=(ci _ _ _ _ _ Y Y)
  have fu:=(ci _ _ _ _ _ T T)
  have fv:=(tC bu dC (ne1 bu (nL O (z4 x u p a6))))
  refine Hu (.inl rfl) (va (GH (a) B C D F G H P Q R S I J)) (vs (some e2) 0 0) (vi 1) rfl (HL (GH (a) B C D F G H P Q R S I J) rfl fm wb uC) rfl rfl ?_
  refine ⟨fo.keep0,?_⟩
  rw [fj]
  exact ⟨_,_,_,_,_,_,_,_,_,_,_,_,_,_,rfl,(tA fp (z3 j f s)),aJ,(tA fq (z3 j f s)),aZ,(tA fr (z3 j f s)),ba,(tA fs (z3 j f s)),bb,(tA ft (z3 j f s)),bc,(tA fu (z3 j f s)),aS,(tA fv (z7 j f s x u p a6)),(by simp),⟨⟨(d.1.1),⟨(d.1.2.1),⟨(d.1.2.2.1),⟨(d.1.2.2.2.1),⟨(d.1.2.2.2.2.1),⟨(Ap.lt M bu (z3 u p a6)),trivial⟩⟩⟩⟩⟩⟩,⟨⟨(d.2.1.1),⟨(d.2.1.2.1),⟨(d.2.1.2.2.1),⟨(d.2.1.2.2.2.1),⟨(Ap.lt V bu (z3 u p a6)),trivial⟩⟩⟩⟩⟩,⟨⟨(d.2.2.1.1),⟨(d.2.2.1.2.1),⟨(d.2.2.1.2.2.1),⟨(Ap.lt W bu (z3 u p a6)),trivial⟩⟩⟩⟩,⟨⟨(d.2.2.2.1.1),⟨(d.2.2.2.1.2.1),⟨(Ap.lt X bu (z3 u p a6)),trivial⟩⟩⟩,⟨⟨(d.2.2.2.2.1.1),⟨(Ap.lt Y bu (z3 u p a6)),trivial⟩⟩,⟨⟨(Ap.lt T bu (z3 u p a6)),trivial⟩,⟨trivial,trivial⟩⟩⟩⟩⟩⟩⟩⟩
 have e5:=(((e0.kp x).kp u).ch p (nN (nL dA (nT (z3 f s x) K))))
 refine lN (GH a c8 c9 cC cD cE cF cG cH cI cJ b7 b8) wN wb uC e5 ?_
 refine cl wN (Si fi _ a (KI (dz.from0 br) d0 (d1.from0 br) d2 (d3.from0 br) d4 (d5.from0 br) d6 (d7.from0 br) d8 (cY.from0 br) d9)) ?_
 rintro _ e1 ⟨i,rfl⟩
 refine pu (vb (!(Gf a))) wN ?_
 refine mw (vb (!(Gf a))) ?_
 rcases bf (Gf a) with ah|ah
 ·iterate 3 refine sk (cA not ah) ?_
  refine pk (vb true) wN (cA not ah) ?_
  refine mw (vb true) ?_
  iterate 3 refine sk T1 ?_
  refine pk (vb true) wN T1 ?_
  refine mw (vb true) ?_
  iterate 4 refine sk T1 ?_
  refine pk (vb true) wN T1 ?_
  refine n2<|ct T1 ?_
  have fw:FF a A b=((a),[],1):=by simp only [FF,ah,cond_true,cond_false]
  exact wj (dk fw _ i)
 have jf:=ML ah
 refine mv (vi A) (wS (cA not ah)) ?_
 refine cl (wS (cA not ah)) (HO e1 A 0 1000000) ?_
 rintro _ e3 ⟨l,rfl⟩
 have bK:=(br.extk i).extk l
 refine pu (vb (!(FP A 0 1000000))) (wS (cA not ah)) ?_
 refine pf (vb (!(FP A 0 1000000))) wN (cA not ah) ?_
 refine mw (vb (!(FP A 0 1000000))) ?_
 rcases bf (FP A 0 1000000) with ai|ai
 ·have jg:=Gp ai
  iterate 3 refine sk (cA not ai) ?_
  refine pk (vb true) wN (cA not ai) ?_
  refine mw (vb true) ?_
  iterate 4 refine sk T1 ?_
  refine pk (vb true) wN T1 ?_
  refine n2<|ct T1 ?_
  have fx:FF a A b=((a),[],1):=by simp only [FF,ah,ai,cond_true,cond_false]
  exact wj (dk fx _ (i.trans l))
 have jh:=FZ ai
 have e6:=((((((fg.kp s).kp x).kp u).ch p (nN (nL ff (nT (z2 s x) K)))).kp i).kp l)
 refine lN (HH b b9 bA bp bq bB bC bD bE bF bG bH bI) (wS (cA not ai)) Gg FD e6 ?_
 refine cl (wS (cA not ai)) (NO e3 _ b (IN (cZ.from0 bK) da (cK.from0 bK) cL (db.from0 bK) dc (dd.from0 bK) de (df.from0 bK) dg (dh.from0 bK) di)) ?_
 rintro _ e4 ⟨m,rfl⟩
 refine pu (vb (!(FO b))) (wS (cA not ai)) ?_
 refine pf (vb (!(FO b))) wN (cA not ai) ?_
 refine mw (vb (!(FO b))) ?_
 rcases bf (FO b) with aj|aj
 ·iterate 4 refine sk (cA not aj) ?_
  refine pk (vb true) wN (cA not aj) ?_
  refine n2<|ct T1 ?_
  have fy:FF a A b=((a),[],1):=by simp only [FF,ah,ai,aj,cond_true,cond_false]
  exact wj (dk fy _ ((i.trans l).trans m))
 have ji:=NI aj
 refine pu (vp aY 0) (wS (cA not aj)) ?_
 have e7:=(e6.kp m)
 refine ld (vi b.Kind) (wS (cA not aj)) tE e7 ?_
 refine cl (wS (cA not aj)) (Nb e4 b.Kind) ?_
 rintro _ fz ⟨q,rfl⟩
 have dD:=(bK.extk m).extk q
 refine pu (vb (!(Hz b.Kind))) (wS (cA not aj)) ?_
 refine pf (vb (!(Hz b.Kind))) wN (cA not aj) ?_
 refine n2 ?_
 rcases bf (Hz b.Kind) with a0|a0
 ·refine ct (cA not a0) ?_
  have f0:FF a A b=((a),[],1):=by simp only [FF,ah,ai,aj,a0,cond_true,cond_false]
  exact wj (dk f0 _ (((i.trans l).trans m).trans q))
 refine cf (cA not a0)<|y2<|pu (vp aY 3) wN ?_
 have e8:=(e7.kp q)
 refine ld (vs bp b.Sn.length bq) wN uH e8 ?_
 refine pu (vp aa 1) wN ?_
 have e9:=((((e5.kp i).kp l).kp m).kp q)
 refine ld (vs c8 a.Sn.length c9) wN uH e9 ?_
 refine cl wN (Sc fz _ b.Sn (FV (cK.from0 dD) cL) _ a.Sn (FV (dz.from0 dD) d0)) ?_
 rintro _ cN ⟨r,rfl⟩
 have a3:=dD.extk r
 refine pu (vb (!(Jp b.Sn a.Sn))) wN ?_
 refine n2 ?_
 rcases bf (Jp b.Sn a.Sn) with a4|a4
 ·refine ct (cA not a4)<|sr ?_
  have f3:=(((((aT.kp i).kp l).kp m).kp q).kp r)
  refine lN (GH (a) B C D F G H P Q R S I J) wN wb uC f3 ?_
  refine Gc wN rfl rfl tD (fun w=>by kernel_rfl) ?_
  intro eA ak dE bv
  have f4:=(((((((((aI.kp x).kp u).ch p (nN (nL O (nT x.size K)))).kp i).kp l).kp m).kp q).kp r).kp dE)
  refine sv (GH (a) B C D F G H P Q R S I J) wN uC f4 ?_
  intro Z dG f5 jj
  have f6:=(a3.extk dE).ext dG (fun k hk=>by subst hk;exact nT (z2 j f) aH)
  refine aw (vs (some eA) 0 0) ?_
  refine aw (vi 8) ?_
  refine n1 ?_
  have cj:=fun (E sz n:Nat) (v:Value) (L:List Value) (o:World.ownsRow af ac.heap.size E sz v n L) (y:World.ownsRow af ac.heap.size E sz v n L)=>(tC (gc (gc (gc (gc (gc (gc (tC (gc o u) p (ne2 y (K))) i) l) m) q) r) dE) dG (ne1 y (O)))
  have f7:=(cj _ _ _ _ _ M M)
  have f8:=(cj _ _ _ _ _ V V)
  have f9:=(cj _ _ _ _ _ W W)
  have fA:=(cj _ _ _ _ _ X X)
  have fB:=(cj _ _ _ _ _ Y Y)
  have fC:=(cj _ _ _ _ _ T T)
  have fD:=(tC bv dG (ne1 bv (nL O (z8 x u p i l m q r))))
  refine Hu (.inl rfl) (va (GH (a) B C D F G H P Q R S I J)) (vs (some eA) 0 0) (vi 8) rfl (HL (GH (a) B C D F G H P Q R S I J) rfl f5 wb uC) rfl rfl ?_
  refine ⟨f6.keep0,?_⟩
  simp only [FF,ah,ai,aj,a0,a4,cond_true,cond_false]
  have ck:=z7 u p i l m q r
  exact ⟨_,_,_,_,_,_,_,_,_,_,_,_,_,_,rfl,(tA f7 (z3 j f s)),aJ,(tA f8 (z3 j f s)),aZ,(tA f9 (z3 j f s)),ba,(tA fA (z3 j f s)),bb,(tA fB (z3 j f s)),bc,(tA fC (z3 j f s)),aS,(tA fD (z11 j f s x u p i l m q r)),(by simp),⟨⟨(d.1.1),⟨(d.1.2.1),⟨(d.1.2.2.1),⟨(d.1.2.2.2.1),⟨(d.1.2.2.2.2.1),⟨(Ap.lt M bv ck),trivial⟩⟩⟩⟩⟩⟩,⟨⟨(d.2.1.1),⟨(d.2.1.2.1),⟨(d.2.1.2.2.1),⟨(d.2.1.2.2.2.1),⟨(Ap.lt V bv ck),trivial⟩⟩⟩⟩⟩,⟨⟨(d.2.2.1.1),⟨(d.2.2.1.2.1),⟨(d.2.2.1.2.2.1),⟨(Ap.lt W bv ck),trivial⟩⟩⟩⟩,⟨⟨(d.2.2.2.1.1),⟨(d.2.2.2.1.2.1),⟨(Ap.lt X bv ck),trivial⟩⟩⟩,⟨⟨(d.2.2.2.2.1.1),⟨(Ap.lt Y bv ck),trivial⟩⟩,⟨⟨(Ap.lt T bv ck),trivial⟩,⟨trivial,trivial⟩⟩⟩⟩⟩⟩⟩⟩
 refine cf (cA not a4)<|y1<|pu (vp aa 0) wN ?_
 have aU:=(e9.kp r)
 refine ld (vi a.Role) wN tE aU ?_
 refine ar (1 - a.Role) wN ?_
 refine aw (vi (1 - a.Role)) ?_
 refine n4<|pu (vp aY 7) wN ?_
 have cO:=(e8.kp r)
 refine ld (vi b.Epoch) wN tE cO ?_
 refine pu (vp aa 2) wN ?_
 refine pu (vp aa 2) wN ?_
 refine ld (vi a.Cur.N) wN tE aU ?_
 refine pu (vb (decide (b.Epoch=a.Cur.N))) wN ?_
 refine n2 ?_
 rcases bt (decide (b.Epoch=a.Cur.N)) with a1|a1
 ·have jk:=dT a1
  refine ct a1<|sr<|pu (vp aa 2) wN ?_
  refine lN (Gx a.Cur cC cD cE cF) wN FE uE aU ?_
  refine mw (vi (1 - a.Role)) ?_
  refine lN (HH b b9 bA bp bq bB bC bD bE bF bG bH bI) wN Gg FD cO ?_
  refine cl wN (Nc cN _ a.Cur (IP (d1.from0 a3) d2 (d3.from0 a3) d4) (1 - a.Role) _ b (IN (cZ.from0 a3) da (cK.from0 a3) cL (db.from0 a3) dc (dd.from0 a3) de (df.from0 a3) dg (dh.from0 a3) di)) ?_
  rintro _ ak ⟨ad,⟨ao,ap,aq,au,aV,aW,rfl,a7,eB,a8,eC,a9,eD,cm⟩⟩
  refine mw (.tuple #[(va (Gx ((tB a.Cur (1 - a.Role) b).1) ao ap aq au)),(vs aV ((tB a.Cur (1 - a.Role) b).2.1).length aW),(vi ((tB a.Cur (1 - a.Role) b).2.2))]) ?_
  refine pu (va (Gx ((tB a.Cur (1 - a.Role) b).1) ao ap aq au)) wN ?_
  refine pu (vs aV ((tB a.Cur (1 - a.Role) b).2.1).length aW) wN ?_
  refine pu (vi ((tB a.Cur (1 - a.Role) b).2.2)) wN ?_
  refine al Ks wN Hy ?_
  intro jl Z aA jm av fE
  refine sv (Gx ((tB a.Cur (1 - a.Role) b).1) ao ap aq au) wN uE fE ?_
  intro bw ax fF jn
  have eE:=((a3.extk ad).extk av).ext ax (fun k hk=>by subst hk;exact nT (z12 j f s x u p i l m q r ad) aA)
  refine aw (vs aV ((tB a.Cur (1 - a.Role) b).2.1).length aW) ?_
  refine aw (vi ((tB a.Cur (1 - a.Role) b).2.2)) ?_
  refine n4<|mw (vi ((tB a.Cur (1 - a.Role) b).2.2)) ?_
  refine pu (vb (!(decide ((tB a.Cur (1 - a.Role) b).2.2=0)))) wN ?_
  refine n2 ?_
  rcases bf (decide ((tB a.Cur (1 - a.Role) b).2.2=0)) with bd|bd
  ·have jo:=dF bd
   refine ct (cA not bd)<|sr ?_
   have fG:=((((((((aT.kp i).kp l).kp m).kp q).kp r).kp ad).kp av).ch ax (nN (nL aK (nT (z7 p i l m q r ad) aA))))
   refine lN (GH (a) B C D F G H P Q R S I J) wN wb uC fG ?_
   refine Gc wN rfl rfl tD (fun w=>by kernel_rfl) ?_
   intro eF cP dH bz
   refine mw (vi ((tB a.Cur (1 - a.Role) b).2.2)) ?_
   have fH:=((((((((((((aI.kp x).kp u).ch p (nN (nL O (nT x.size K)))).kp i).kp l).kp m).kp q).kp r).kp ad).kp av).ch ax (nN (nL O (nT (z9 x u p i l m q r ad) aA)))).kp dH)
   refine sv (GH (a) B C D F G H P Q R S I J) wN uC fH ?_
   intro cQ dI fI jp
   have fJ:=(eE.extk dH).ext dI (fun k hk=>by subst hk;exact nT (z2 j f) aH)
   refine aw (vs (some eF) 0 0) ?_
   refine aw (vi ((tB a.Cur (1 - a.Role) b).2.2)) ?_
   refine uD<|rg<|Hn<|uP<|uP ?_
   have cn:=fun (E sz n:Nat) (v:Value) (L:List Value) (o:World.ownsRow af ac.heap.size E sz v n L) (y:World.ownsRow af ac.heap.size E sz v n L)=>(tC (gc (tC (gc (gc (gc (gc (gc (gc (gc (tC (gc o u) p (ne2 y (K))) i) l) m) q) r) ad) av) ax (ne2 y (nT (z8 u p i l m q r ad) aA))) dH) dI (ne1 y (O)))
   have fK:=(cn _ _ _ _ _ M M)
   have fL:=(cn _ _ _ _ _ V V)
   have fM:=(cn _ _ _ _ _ W W)
   have fN:=(cn _ _ _ _ _ X X)
   have fO:=(cn _ _ _ _ _ Y Y)
   have fP:=(cn _ _ _ _ _ T T)
   have fQ:=(tC bz dI (ne1 bz (nL O (z11 x u p i l m q r ad av ax))))
   refine Hu (.inl rfl) (va (GH (a) B C D F G H P Q R S I J)) (vs (some eF) 0 0) (vi ((tB a.Cur (1 - a.Role) b).2.2)) rfl (HL (GH (a) B C D F G H P Q R S I J) rfl fI wb uC) rfl rfl ?_
   refine ⟨fJ.keep0,?_⟩
   simp only [FF,ah,ai,aj,a0,a4,a1,bd,cond_true,cond_false]
   have co:=z10 u p i l m q r ad av ax
   exact ⟨_,_,_,_,_,_,_,_,_,_,_,_,_,_,rfl,(tA fK (z3 j f s)),aJ,(tA fL (z3 j f s)),aZ,(tA fM (z3 j f s)),ba,(tA fN (z3 j f s)),bb,(tA fO (z3 j f s)),bc,(tA fP (z3 j f s)),aS,(tA fQ (t3 (z12 j f s x u p i l m q r ad) av.size ax.size)),(by simp),⟨⟨(d.1.1),⟨(d.1.2.1),⟨(d.1.2.2.1),⟨(d.1.2.2.2.1),⟨(d.1.2.2.2.2.1),⟨(Ap.lt M bz co),trivial⟩⟩⟩⟩⟩⟩,⟨⟨(d.2.1.1),⟨(d.2.1.2.1),⟨(d.2.1.2.2.1),⟨(d.2.1.2.2.2.1),⟨(Ap.lt V bz co),trivial⟩⟩⟩⟩⟩,⟨⟨(d.2.2.1.1),⟨(d.2.2.1.2.1),⟨(d.2.2.1.2.2.1),⟨(Ap.lt W bz co),trivial⟩⟩⟩⟩,⟨⟨(d.2.2.2.1.1),⟨(d.2.2.2.1.2.1),⟨(Ap.lt X bz co),trivial⟩⟩⟩,⟨⟨(d.2.2.2.2.1.1),⟨(Ap.lt Y bz co),trivial⟩⟩,⟨⟨(Ap.lt T bz co),trivial⟩,⟨trivial,trivial⟩⟩⟩⟩⟩⟩⟩⟩
  have jq:=dT bd
  refine cf (cA not bd)<|y1<|lN (Gx ((tB a.Cur (1 - a.Role) b).1) ao ap aq au) wN FE uE fF ?_
  refine pu (vp az 2) wN ?_
  have fR:=((((((((aT.kp i).kp l).kp m).kp q).kp r).kp ad).kp av).ch ax (nN (nL aK (nT (z7 p i l m q r ad) aA))))
  refine st (va (Gx ((tB a.Cur (1 - a.Role) b).1) ao ap aq au)) (Gx ((tB a.Cur (1 - a.Role) b).1) ao ap aq au) [(vi ((a).Role)),(vs B ((a).Sn).length C),(vi (((tB a.Cur (1 - a.Role) b).1).N)),(vs ao (((tB a.Cur (1 - a.Role) b).1).Key).length ap),(vi (((tB a.Cur (1 - a.Role) b).1).Seq)),(vi ((((tB a.Cur (1 - a.Role) b).1).Win).Top)),(vs aq ((((tB a.Cur (1 - a.Role) b).1).Win).Bits).length au),(vi (((a).Old).N)),(vs P (((a).Old).Key).length Q),(vi (((a).Old).Seq)),(vi ((((a).Old).Win).Top)),(vs R ((((a).Old).Win).Bits).length S),(vb ((a).HasOld)),(vi ((a).Until)),(vs I ((a).Next).length J)] wN uE fR ?_
  intro cP b0 eG jr
  have eH:=eE.ext b0 (fun k hk=>by subst hk;exact nT (z4 j f s x) K)
  refine n4<|jF1 [(1,(vi A)),(3,(vp aa 0)),(5,(vp aY 0)),(6,(vp cM 0)),(7,(vs none 0 0)),(8,(vi 0)),(9,(vp az 0)),(10,(vi (1 - a.Role))),(12,(vs aV ((tB a.Cur (1 - a.Role) b).2.1).length aW))] (FF a A b=({Role:=(a).Role,Sn:=(a).Sn,Cur:=((tB a.Cur (1 - a.Role) b).1),Old:=((a).Old),HasOld:=(a).HasOld,Until:=(a).Until,Next:=(a).Next:PChan},(tB a.Cur (1 - a.Role) b).2.1,0)) ?_ fun eI=>?_
  ·intro fS cQ cR js
   refine y1 ?_
   have fT:=(eG.kp cR)
   refine lN [(vi ((a).Role)),(vs B ((a).Sn).length C),(vi (((tB a.Cur (1 - a.Role) b).1).N)),(vs ao (((tB a.Cur (1 - a.Role) b).1).Key).length ap),(vi (((tB a.Cur (1 - a.Role) b).1).Seq)),(vi ((((tB a.Cur (1 - a.Role) b).1).Win).Top)),(vs aq ((((tB a.Cur (1 - a.Role) b).1).Win).Bits).length au),(vi (((a).Old).N)),(vs P (((a).Old).Key).length Q),(vi (((a).Old).Seq)),(vi ((((a).Old).Win).Top)),(vs R ((((a).Old).Win).Bits).length S),(vb ((a).HasOld)),(vi ((a).Until)),(vs I ((a).Next).length J)] wN wb uC fT ?_
   refine mw (vs aV ((tB a.Cur (1 - a.Role) b).2.1).length aW) ?_
   have fU:=(((((((((((((aI.kp x).kp u).ch p (nN (nL O (nT x.size K)))).kp i).kp l).kp m).kp q).kp r).kp ad).kp av).ch ax (nN (nL O (nT (z9 x u p i l m q r ad) aA)))).ch b0 (nN (nL O (nT x.size K)))).kp cR)
   refine sv [(vi ((a).Role)),(vs B ((a).Sn).length C),(vi (((tB a.Cur (1 - a.Role) b).1).N)),(vs ao (((tB a.Cur (1 - a.Role) b).1).Key).length ap),(vi (((tB a.Cur (1 - a.Role) b).1).Seq)),(vi ((((tB a.Cur (1 - a.Role) b).1).Win).Top)),(vs aq ((((tB a.Cur (1 - a.Role) b).1).Win).Bits).length au),(vi (((a).Old).N)),(vs P (((a).Old).Key).length Q),(vi (((a).Old).Seq)),(vi ((((a).Old).Win).Top)),(vs R ((((a).Old).Win).Bits).length S),(vb ((a).HasOld)),(vi ((a).Until)),(vs I ((a).Next).length J)] wN uC fU ?_
   intro dl dJ fV jt
   have fW:=(eH.extk cR).ext dJ (fun k hk=>by subst hk;exact nT (z2 j f) aH)
   refine aw (vs aV ((tB a.Cur (1 - a.Role) b).2.1).length aW) ?_
   refine aw (vi 0) ?_
   refine n1 ?_
   have dm:=fun (E sz n:Nat) (v:Value) (L:List Value) (o:World.ownsRow af ac.heap.size E sz v n L) (y:World.ownsRow af ac.heap.size E sz v n L)=>(tC (gc (tC (tC (gc (gc (gc (gc (gc (gc (gc (tC (gc o u) p (ne2 y (K))) i) l) m) q) r) ad) av) ax (ne2 y (nT (z8 u p i l m q r ad) aA))) b0 (ne2 y (K))) cR) dJ (ne1 y (O)))
   have fX:=(dm _ _ _ _ _ M M)
   have dK:=fun (E sz n:Nat) (v:Value) (L:List Value) (o:World.ownsRow ak cN.heap.size E sz v n L) (y:World.ownsRow ak cN.heap.size E sz v n L)=>(tC (gc (tC (tC (gc o av) ax (ne2 y (aA))) b0 (ne1 y (nL aK (z6 p i l m q r)))) cR) dJ (ne1 y (nL O (z8 x u p i l m q r))))
   have fY:=(dK _ _ _ _ _ a7 a7)
   have fZ:=(dK _ _ _ _ _ a8 a8)
   have ga:=(dm _ _ _ _ _ X X)
   have gb:=(dm _ _ _ _ _ Y Y)
   have gd:=(dm _ _ _ _ _ T T)
   have ge:=(dK _ _ _ _ _ a9 a9)
   refine Hu (.inl rfl) (va [(vi ((a).Role)),(vs B ((a).Sn).length C),(vi (((tB a.Cur (1 - a.Role) b).1).N)),(vs ao (((tB a.Cur (1 - a.Role) b).1).Key).length ap),(vi (((tB a.Cur (1 - a.Role) b).1).Seq)),(vi ((((tB a.Cur (1 - a.Role) b).1).Win).Top)),(vs aq ((((tB a.Cur (1 - a.Role) b).1).Win).Bits).length au),(vi (((a).Old).N)),(vs P (((a).Old).Key).length Q),(vi (((a).Old).Seq)),(vi ((((a).Old).Win).Top)),(vs R ((((a).Old).Win).Bits).length S),(vb ((a).HasOld)),(vi ((a).Until)),(vs I ((a).Next).length J)]) (vs aV ((tB a.Cur (1 - a.Role) b).2.1).length aW) (vi 0) rfl (HL [(vi ((a).Role)),(vs B ((a).Sn).length C),(vi (((tB a.Cur (1 - a.Role) b).1).N)),(vs ao (((tB a.Cur (1 - a.Role) b).1).Key).length ap),(vi (((tB a.Cur (1 - a.Role) b).1).Seq)),(vi ((((tB a.Cur (1 - a.Role) b).1).Win).Top)),(vs aq ((((tB a.Cur (1 - a.Role) b).1).Win).Bits).length au),(vi (((a).Old).N)),(vs P (((a).Old).Key).length Q),(vi (((a).Old).Seq)),(vi ((((a).Old).Win).Top)),(vs R ((((a).Old).Win).Bits).length S),(vb ((a).HasOld)),(vi ((a).Until)),(vs I ((a).Next).length J)] rfl fV wb uC) rfl rfl ?_
   refine ⟨fW.keep0,?_⟩
   rw [fS]
   have dL:=z11 j f s x u p i l m q r
   have aB:=z7 u p i l m q r
   exact ⟨_,_,_,_,_,_,_,_,_,_,_,_,_,_,rfl,(tA fX (z3 j f s)),aJ,(tA fY dL),eB,(tA fZ dL),eC,(tA ga (z3 j f s)),bb,(tA gb (z3 j f s)),bc,(tA gd (z3 j f s)),aS,(tA ge dL),eD,⟨⟨(Ap.lt M a7 aB),⟨(Ap.lt M a8 aB),⟨(d.1.2.2.1),⟨(d.1.2.2.2.1),⟨(d.1.2.2.2.2.1),⟨(Ap.lt M a9 aB),trivial⟩⟩⟩⟩⟩⟩,⟨⟨(cm.1.1),⟨(Ap.lt X a7 aB).symm,⟨(Ap.lt Y a7 aB).symm,⟨(Ap.lt T a7 aB).symm,⟨(cm.1.2.1),trivial⟩⟩⟩⟩⟩,⟨⟨(Ap.lt X a8 aB).symm,⟨(Ap.lt Y a8 aB).symm,⟨(Ap.lt T a8 aB).symm,⟨(cm.2.1.1),trivial⟩⟩⟩⟩,⟨⟨(d.2.2.2.1.1),⟨(d.2.2.2.1.2.1),⟨(Ap.lt X a9 aB),trivial⟩⟩⟩,⟨⟨(d.2.2.2.2.1.1),⟨(Ap.lt Y a9 aB),trivial⟩⟩,⟨⟨(Ap.lt T a9 aB),trivial⟩,⟨trivial,trivial⟩⟩⟩⟩⟩⟩⟩⟩
  refine pu (vp aa 12) wN ?_
  have eJ:=((((aU.kp ad).kp av).ch ax (nN (nL dA (nT (z11 f s x u p i l m q r ad) aA)))).ch b0 (nN (nL dA (nT (z3 f s x) K))))
  refine ld (vb a.HasOld) wN HX eJ ?_
  refine mw (vb a.HasOld) ?_
  rcases bf a.HasOld with aX|aX
  ·iterate 3 refine sk aX ?_
   refine pf (vb false) wN aX ?_
   refine n2<|cf F1 ?_
   have gf:FF a A b=({Role:=(a).Role,Sn:=(a).Sn,Cur:=((tB a.Cur (1 - a.Role) b).1),Old:=((a).Old),HasOld:=(a).HasOld,Until:=(a).Until,Next:=(a).Next:PChan},(tB a.Cur (1 - a.Role) b).2.1,0):=by simp only [FF,ah,ai,aj,a0,a4,a1,bd,aX,cond_true,cond_false]
   exact wj (eI gf _ (Ch.refl _ _))
  refine pu (vp aa 13) (wS aX) ?_
  refine ld (vi a.Until) (wS aX) tE eJ ?_
  refine pu (vb (decide (a.Until=(-1)))) (wS aX) ?_
  refine pk (vb (decide (a.Until=(-1)))) wN aX ?_
  refine n2 ?_
  rcases bf (decide (a.Until=(-1))) with bL|bL
  ·have ju:=dF bL
   refine cf bL ?_
   have gg:FF a A b=({Role:=(a).Role,Sn:=(a).Sn,Cur:=((tB a.Cur (1 - a.Role) b).1),Old:=((a).Old),HasOld:=(a).HasOld,Until:=(a).Until,Next:=(a).Next:PChan},(tB a.Cur (1 - a.Role) b).2.1,0):=by simp only [FF,ah,ai,aj,a0,a4,a1,bd,aX,bL,cond_true,cond_false]
   exact wj (eI gg _ (Ch.refl _ _))
  have jv:=dT bL
  refine ct bL<|uG ?_
  refine mw (vi A) ?_
  refine ar (A+5) wN ?_
  refine pu (vp az 13) wN ?_
  refine st (vi (A+5)) [(vi (A+5))] [(vi ((a).Role)),(vs B ((a).Sn).length C),(vi (((tB a.Cur (1 - a.Role) b).1).N)),(vs ao (((tB a.Cur (1 - a.Role) b).1).Key).length ap),(vi (((tB a.Cur (1 - a.Role) b).1).Seq)),(vi ((((tB a.Cur (1 - a.Role) b).1).Win).Top)),(vs aq ((((tB a.Cur (1 - a.Role) b).1).Win).Bits).length au),(vi (((a).Old).N)),(vs P (((a).Old).Key).length Q),(vi (((a).Old).Seq)),(vi ((((a).Old).Win).Top)),(vs R ((((a).Old).Win).Bits).length S),(vb ((a).HasOld)),(vi (A+5)),(vs I ((a).Next).length J)] wN GI eG ?_
  intro cQ dn gh jw
  have gi:=eH.ext dn (fun k hk=>by subst hk;exact nT (z4 j f s x) K)
  refine nx<|lN [(vi ((a).Role)),(vs B ((a).Sn).length C),(vi (((tB a.Cur (1 - a.Role) b).1).N)),(vs ao (((tB a.Cur (1 - a.Role) b).1).Key).length ap),(vi (((tB a.Cur (1 - a.Role) b).1).Seq)),(vi ((((tB a.Cur (1 - a.Role) b).1).Win).Top)),(vs aq ((((tB a.Cur (1 - a.Role) b).1).Win).Bits).length au),(vi (((a).Old).N)),(vs P (((a).Old).Key).length Q),(vi (((a).Old).Seq)),(vi ((((a).Old).Win).Top)),(vs R ((((a).Old).Win).Bits).length S),(vb ((a).HasOld)),(vi (A+5)),(vs I ((a).Next).length J)] wN wb uC gh ?_
  refine mw (vs aV ((tB a.Cur (1 - a.Role) b).2.1).length aW) ?_
  have dM:=nL O (nT x.size K)
  have gj:=(((((((((((((aI.kp x).kp u).ch p (nN dM)).kp i).kp l).kp m).kp q).kp r).kp ad).kp av).ch ax (nN (nL O (nT (z9 x u p i l m q r ad) aA)))).ch b0 (nN dM)).ch dn (nN dM))
  refine sv [(vi ((a).Role)),(vs B ((a).Sn).length C),(vi (((tB a.Cur (1 - a.Role) b).1).N)),(vs ao (((tB a.Cur (1 - a.Role) b).1).Key).length ap),(vi (((tB a.Cur (1 - a.Role) b).1).Seq)),(vi ((((tB a.Cur (1 - a.Role) b).1).Win).Top)),(vs aq ((((tB a.Cur (1 - a.Role) b).1).Win).Bits).length au),(vi (((a).Old).N)),(vs P (((a).Old).Key).length Q),(vi (((a).Old).Seq)),(vi ((((a).Old).Win).Top)),(vs R ((((a).Old).Win).Bits).length S),(vb ((a).HasOld)),(vi (A+5)),(vs I ((a).Next).length J)] wN uC gj ?_
  intro dl dN gk jx
  have gl:=gi.ext dN (fun k hk=>by subst hk;exact nT (z2 j f) aH)
  refine aw (vs aV ((tB a.Cur (1 - a.Role) b).2.1).length aW) ?_
  refine aw (vi 0) ?_
  refine n1 ?_
  have dp:=fun (E sz n:Nat) (v:Value) (L:List Value) (o:World.ownsRow af ac.heap.size E sz v n L) (y:World.ownsRow af ac.heap.size E sz v n L)=>(tC (tC (tC (tC (gc (gc (gc (gc (gc (gc (gc (tC (gc o u) p (ne2 y (K))) i) l) m) q) r) ad) av) ax (ne2 y (nT (z8 u p i l m q r ad) aA))) b0 (ne2 y (K))) dn (ne2 y (K))) dN (ne1 y (O)))
  have gm:=(dp _ _ _ _ _ M M)
  have dO:=fun (E sz n:Nat) (v:Value) (L:List Value) (o:World.ownsRow ak cN.heap.size E sz v n L) (y:World.ownsRow ak cN.heap.size E sz v n L)=>(tC (tC (tC (tC (gc o av) ax (ne2 y (aA))) b0 (ne1 y (nL aK (z6 p i l m q r)))) dn (ne1 y (nL aK (z6 p i l m q r)))) dN (ne1 y (nL O (z8 x u p i l m q r))))
  have gn:=(dO _ _ _ _ _ a7 a7)
  have gp:=(dO _ _ _ _ _ a8 a8)
  have gq:=(dp _ _ _ _ _ X X)
  have gr:=(dp _ _ _ _ _ Y Y)
  have gs:=(dp _ _ _ _ _ T T)
  have gu:=(dO _ _ _ _ _ a9 a9)
  refine Hu (.inl rfl) (va [(vi ((a).Role)),(vs B ((a).Sn).length C),(vi (((tB a.Cur (1 - a.Role) b).1).N)),(vs ao (((tB a.Cur (1 - a.Role) b).1).Key).length ap),(vi (((tB a.Cur (1 - a.Role) b).1).Seq)),(vi ((((tB a.Cur (1 - a.Role) b).1).Win).Top)),(vs aq ((((tB a.Cur (1 - a.Role) b).1).Win).Bits).length au),(vi (((a).Old).N)),(vs P (((a).Old).Key).length Q),(vi (((a).Old).Seq)),(vi ((((a).Old).Win).Top)),(vs R ((((a).Old).Win).Bits).length S),(vb ((a).HasOld)),(vi (A+5)),(vs I ((a).Next).length J)]) (vs aV ((tB a.Cur (1 - a.Role) b).2.1).length aW) (vi 0) rfl (HL [(vi ((a).Role)),(vs B ((a).Sn).length C),(vi (((tB a.Cur (1 - a.Role) b).1).N)),(vs ao (((tB a.Cur (1 - a.Role) b).1).Key).length ap),(vi (((tB a.Cur (1 - a.Role) b).1).Seq)),(vi ((((tB a.Cur (1 - a.Role) b).1).Win).Top)),(vs aq ((((tB a.Cur (1 - a.Role) b).1).Win).Bits).length au),(vi (((a).Old).N)),(vs P (((a).Old).Key).length Q),(vi (((a).Old).Seq)),(vi ((((a).Old).Win).Top)),(vs R ((((a).Old).Win).Bits).length S),(vb ((a).HasOld)),(vi (A+5)),(vs I ((a).Next).length J)] rfl gk wb uC) rfl rfl ?_
  refine ⟨gl.keep0,?_⟩
  simp only [FF,ah,ai,aj,a0,a4,a1,bd,aX,bL,cond_true,cond_false]
  have dP:=z11 j f s x u p i l m q r
  have aC:=z7 u p i l m q r
  exact ⟨_,_,_,_,_,_,_,_,_,_,_,_,_,_,rfl,(tA gm (z3 j f s)),aJ,(tA gn dP),eB,(tA gp dP),eC,(tA gq (z3 j f s)),bb,(tA gr (z3 j f s)),bc,(tA gs (z3 j f s)),aS,(tA gu dP),eD,⟨⟨(Ap.lt M a7 aC),⟨(Ap.lt M a8 aC),⟨(d.1.2.2.1),⟨(d.1.2.2.2.1),⟨(d.1.2.2.2.2.1),⟨(Ap.lt M a9 aC),trivial⟩⟩⟩⟩⟩⟩,⟨⟨(cm.1.1),⟨(Ap.lt X a7 aC).symm,⟨(Ap.lt Y a7 aC).symm,⟨(Ap.lt T a7 aC).symm,⟨(cm.1.2.1),trivial⟩⟩⟩⟩⟩,⟨⟨(Ap.lt X a8 aC).symm,⟨(Ap.lt Y a8 aC).symm,⟨(Ap.lt T a8 aC).symm,⟨(cm.2.1.1),trivial⟩⟩⟩⟩,⟨⟨(d.2.2.2.1.1),⟨(d.2.2.2.1.2.1),⟨(Ap.lt X a9 aC),trivial⟩⟩⟩,⟨⟨(d.2.2.2.2.1.1),⟨(Ap.lt Y a9 aC),trivial⟩⟩,⟨⟨(Ap.lt T a9 aC),trivial⟩,⟨trivial,trivial⟩⟩⟩⟩⟩⟩⟩⟩
 have jy:=dF a1
 refine cf a1<|y2<|jF1 [(1,(vi A)),(3,(vp aa 0)),(5,(vp aY 0)),(6,(vp cM 0)),(7,(vs none 0 0)),(8,(vi 0)),(9,(vp az 0)),(10,(vi (1 - a.Role)))] (FF a A b=(Ha a A b)) ?_ fun eK=>?_
 ·intro dq ak ab jz
  have cS:=a3.extk ab
  refine y2<|jF1 [(6,(vp cM 0)),(7,(vs none 0 0)),(8,(vi 0)),(9,(vp az 0))] (FF a A b=((a),[],8)) ?_ fun eL=>?_
  ·intro gv Z bM j0
   refine y1 ?_
   have gw:=(((((((aT.kp i).kp l).kp m).kp q).kp r).kp ab).kp bM)
   refine lN (GH (a) B C D F G H P Q R S I J) wN wb uC gw ?_
   refine Gc wN rfl rfl tD (fun w=>by kernel_rfl) ?_
   intro eM bw dQ b1
   have gx:=(((((((((((aI.kp x).kp u).ch p (nN (nL O (nT x.size K)))).kp i).kp l).kp m).kp q).kp r).kp ab).kp bM).kp dQ)
   refine sv (GH (a) B C D F G H P Q R S I J) wN uC gx ?_
   intro cP dR gy j1
   have gz:=((cS.extk bM).extk dQ).ext dR (fun k hk=>by subst hk;exact nT (z2 j f) aH)
   refine aw (vs (some eM) 0 0) ?_
   refine aw (vi 8) ?_
   refine n3 ?_
   have cp:=fun (E sz n:Nat) (v:Value) (L:List Value) (o:World.ownsRow af ac.heap.size E sz v n L) (y:World.ownsRow af ac.heap.size E sz v n L)=>(tC (gc (gc (gc (gc (gc (gc (gc (gc (tC (gc o u) p (ne2 y (K))) i) l) m) q) r) ab) bM) dQ) dR (ne1 y (O)))
   have g0:=(cp _ _ _ _ _ M M)
   have g1:=(cp _ _ _ _ _ V V)
   have g2:=(cp _ _ _ _ _ W W)
   have g3:=(cp _ _ _ _ _ X X)
   have g4:=(cp _ _ _ _ _ Y Y)
   have g5:=(cp _ _ _ _ _ T T)
   have g6:=(tC b1 dR (ne1 b1 (nL O (z10 x u p i l m q r ab bM))))
   refine Hu (.inl rfl) (va (GH (a) B C D F G H P Q R S I J)) (vs (some eM) 0 0) (vi 8) rfl (HL (GH (a) B C D F G H P Q R S I J) rfl gy wb uC) rfl rfl ?_
   refine ⟨gz.keep0,?_⟩
   rw [gv]
   have cq:=z9 u p i l m q r ab bM
   exact ⟨_,_,_,_,_,_,_,_,_,_,_,_,_,_,rfl,(tA g0 (z3 j f s)),aJ,(tA g1 (z3 j f s)),aZ,(tA g2 (z3 j f s)),ba,(tA g3 (z3 j f s)),bb,(tA g4 (z3 j f s)),bc,(tA g5 (z3 j f s)),aS,(tA g6 (nT (z12 j f s x u p i l m q r ab) bM.size)),(by simp),⟨⟨(d.1.1),⟨(d.1.2.1),⟨(d.1.2.2.1),⟨(d.1.2.2.2.1),⟨(d.1.2.2.2.2.1),⟨(Ap.lt M b1 cq),trivial⟩⟩⟩⟩⟩⟩,⟨⟨(d.2.1.1),⟨(d.2.1.2.1),⟨(d.2.1.2.2.1),⟨(d.2.1.2.2.2.1),⟨(Ap.lt V b1 cq),trivial⟩⟩⟩⟩⟩,⟨⟨(d.2.2.1.1),⟨(d.2.2.1.2.1),⟨(d.2.2.1.2.2.1),⟨(Ap.lt W b1 cq),trivial⟩⟩⟩⟩,⟨⟨(d.2.2.2.1.1),⟨(d.2.2.2.1.2.1),⟨(Ap.lt X b1 cq),trivial⟩⟩⟩,⟨⟨(d.2.2.2.2.1.1),⟨(Ap.lt Y b1 cq),trivial⟩⟩,⟨⟨(Ap.lt T b1 cq),trivial⟩,⟨trivial,trivial⟩⟩⟩⟩⟩⟩⟩⟩
  refine pu (vp aa 14) wN ?_
  have dr:=(aU.kp ab)
  refine ld (vs b7 a.Next.length b8) wN uH dr ?_
  refine ln wN tD (cY.from0 cS) ?_
  refine pu (vb (decide (0 < (a.Next.length:Int)))) wN ?_
  refine mw (vb (decide (0 < (a.Next.length:Int)))) ?_
  rcases bf (decide (0 < (a.Next.length:Int))) with am|am
  ·have j2:=dF am
   iterate 7 refine sk am ?_
   refine pf (vb false) wN am ?_
   refine n2<|cf F1 ?_
   have g7:FF a A b=((a),[],8):=by rw [dq];simp only [Ha,am,cond_true,cond_false]
   exact wj (eL g7 _ (Ch.refl _ _))
  have j3:=dT am
  refine pu (vp aY 7) (wS am) ?_
  have eN:=(cO.kp ab)
  refine ld (vi b.Epoch) (wS am) tE eN ?_
  refine pu (vp aa 2) (wS am) ?_
  refine pu (vp aa 2) (wS am) ?_
  refine ld (vi a.Cur.N) (wS am) tE dr ?_
  refine ar (a.Cur.N+1) (wS am) ?_
  refine pu (vb (decide (b.Epoch=(a.Cur.N+1)))) (wS am) ?_
  refine pk (vb (decide (b.Epoch=(a.Cur.N+1)))) wN am ?_
  refine n2 ?_
  rcases bf (decide (b.Epoch=(a.Cur.N+1))) with b2|b2
  ·have j4:=dF b2
   refine cf b2 ?_
   have g8:FF a A b=((a),[],8):=by rw [dq];simp only [Ha,am,b2,cond_true,cond_false]
   exact wj (eL g8 _ (Ch.refl _ _))
  have j5:=dT b2
  refine ct b2<|uK<|Ga ([(141,[],[],(fun _ v _=>v=(vp aa 2))),(142,[],[0],(fun _ v _=>v=(vp aa 2))),(143,[],[0,1],(fun _ v _=>v=(vi a.Cur.N))),(144,[],[0,1,2],(fun _ v _=>v=(vi (a.Cur.N+1)))),(145,[],[],(fun _ v _=>v=(vp aa 14))),(146,[],[4],(fun _ v _=>v=(vs b7 a.Next.length b8))),(147,[],[0,1,2,3,4,5],(fun _ v w=>TP w ak.heap.size v (FM (a.Cur.N+1) a.Next))),(148,[],[],(fun _ v _=>v=(vi (1 - a.Role)))),(149,[],[],(fun _ v _=>v=(va (HH b b9 bA bp bq bB bC bD bE bF bG bH bI)))),(150,[147],[0,1,2,3,4,5,6,7,8],(fun e v w=>PQ w ak.heap.size v (tB (FM (a.Cur.N+1) a.Next) (1 - a.Role) b) (fun eO eP eQ=>Ap (sp (FS (e 147) 1)) eO∧Ap (sp (FS (e 147) 1)) eP∧Ap (sp (FS (e 147) 1)) eQ∧Ap (sp (FS (e 147) 4)) eO∧Ap (sp (FS (e 147) 4)) eP∧Ap (sp (FS (e 147) 4)) eQ))),(140,[150],[0,1,2,3,4,5,6,7,8,9],(fun e v _=>v=(.tuple #[(.agg #[(vi (((tB (FM (a.Cur.N+1) a.Next) (1 - a.Role) b).1).N)),(FS (Gl (e 150) 0) 1),(vi (((tB (FM (a.Cur.N+1) a.Next) (1 - a.Role) b).1).Seq)),(vi ((((tB (FM (a.Cur.N+1) a.Next) (1 - a.Role) b).1).Win).Top)),(FS (Gl (e 150) 0) 4)]),(Gl (e 150) 1),(vi ((tB (FM (a.Cur.N+1) a.Next) (1 - a.Role) b).2.2))]))),(151,[150],[0,1,2,3,4,5,6,7,8,9,10],(fun e v _=>v=(.agg #[(vi (((tB (FM (a.Cur.N+1) a.Next) (1 - a.Role) b).1).N)),(FS (Gl (e 150) 0) 1),(vi (((tB (FM (a.Cur.N+1) a.Next) (1 - a.Role) b).1).Seq)),(vi ((((tB (FM (a.Cur.N+1) a.Next) (1 - a.Role) b).1).Win).Top)),(FS (Gl (e 150) 0) 4)]))),(152,[150],[0,1,2,3,4,5,6,7,8,9,10],(fun e v _=>v=(Gl (e 150) 1))),(153,[],[0,1,2,3,4,5,6,7,8,9,10],(fun _ v _=>v=(vi ((tB (FM (a.Cur.N+1) a.Next) (1 - a.Role) b).2.2)))),(17,[],[],(fun _ v w=>∃ (g:Nat) (bN bO bP bQ bR:Value),v=vp g 0∧ak.heap.size≤g∧Blk w g 36 [bN,bO,bP,bQ,bR])),(189,[17,150],[0,1,2,3,4,5,6,7,8,9,10,11,14],(fun e _ w=>∃ g:Nat,e 17=vp g 0∧ak.heap.size≤g∧Blk w g 36 [(vi (((tB (FM (a.Cur.N+1) a.Next) (1 - a.Role) b).1).N)),(FS (Gl (e 150) 0) 1),(vi (((tB (FM (a.Cur.N+1) a.Next) (1 - a.Role) b).1).Seq)),(vi ((((tB (FM (a.Cur.N+1) a.Next) (1 - a.Role) b).1).Win).Top)),(FS (Gl (e 150) 0) 4)])),(18,[150],[0,1,2,3,4,5,6,7,8,9,10,11,12,14,15],(fun e v _=>v=(Gl (e 150) 1)))]:GV) (fun _ bo=>Keep ak bo) [(15,fun w bo=>∃ g:Nat,ak.heap.size≤g∧(∃ bN bO bP bQ bR:Value,Blk w g 36 [bN,bO,bP,bQ,bR])∧Ch (fun k=>k=g) w bo∧∃ bN bO bP bQ bR:Value,Blk bo g 36 [bN,bO,bP,bQ,bR])] GU rfl (by kernel_rfl) (by kernel_rfl) ?_ (fun _ _ h=>h) (fun _ _ _ _ h _ k=>h.trans k) ⟨(fun _ _ w bo h _ _ t=>by obtain ⟨g,hle,-,g9,-⟩:=t;exact h.new g9 (fun k hk=>by have j6:k=g:=hk;omega)),trivial⟩ ?_ ?_ ?_
  ·exact ⟨hV,hE,⟨hV,hE,⟨hV,hE,⟨hV,hE,⟨hV,hE,⟨hV,hE,⟨(fun e v w dj h hk=>by obtain ⟨bS,bT,bU,bW,he,bX,bY,bZ,ca,hap⟩:=h;exact ⟨bS,bT,bU,bW,he,gc bX hk,bY,gc bZ hk,ca,hap⟩),hE,⟨hV,hE,⟨hV,hE,⟨(fun e v w dj h hk=>by obtain ⟨bS,bT,bU,bW,dS,dU,he,bX,bY,bZ,ca,dV,dW,hap,hx⟩:=h;exact ⟨bS,bT,bU,bW,dS,dU,he,gc bX hk,bY,gc bZ hk,ca,gc dV hk,dW,hap,hx⟩),(fun cT cU v w hx h=>by have gA:=hx 147 (by simp);simp only [gA] at h;exact h),⟨hV,(fun cT cU v w hx h=>by have be:=hx 150 (by simp);simp only [be] at h;exact h),⟨hV,(fun cT cU v w hx h=>by have be:=hx 150 (by simp);simp only [be] at h;exact h),⟨hV,(fun cT cU v w hx h=>by have be:=hx 150 (by simp);simp only [be] at h;exact h),⟨hV,hE,⟨(fun e v w dj h hk=>by obtain ⟨g,bN,bO,bP,bQ,bR,he,hle,hb⟩:=h;exact ⟨g,_,_,_,_,_,he,hle,hb.kp hk⟩),hE,⟨(fun e v w dj h hk=>by obtain ⟨g,he,hle,hb⟩:=h;exact ⟨g,he,hle,hb.kp hk⟩),(fun cT cU v w hx h=>by have gB:=hx 17 (by simp);have be:=hx 150 (by simp);simp only [gB,be] at h;exact h),⟨hV,(fun cT cU v w hx h=>by have be:=hx 150 (by simp);simp only [be] at h;exact h),trivial⟩⟩⟩⟩⟩⟩⟩⟩⟩⟩⟩⟩⟩⟩⟩⟩⟩
  ·exact ⟨⟨.inr hV,⟨.inr hV,⟨.inr hV,⟨.inr hV,⟨.inr hV,⟨.inr hV,⟨.inr (fun e v wX wY h ht=>by obtain ⟨bS,bT,bU,bW,he,bX,bY,bZ,ca,hap⟩:=h;obtain ⟨gt,hlt,⟨_,_,_,_,_,hbt⟩,hct,⟨_,_,_,_,_,dX⟩⟩:=ht;exact ⟨bS,bT,bU,bW,he,FN bX hbt (by decide) hct,bY,FN bZ hbt (by decide) hct,ca,hap⟩),⟨.inr hV,⟨.inr hV,⟨.inr (fun e v wX wY h ht=>by obtain ⟨bS,bT,bU,bW,dS,dU,he,bX,bY,bZ,ca,dV,dW,hap,hx⟩:=h;obtain ⟨gt,hlt,⟨_,_,_,_,_,hbt⟩,hct,⟨_,_,_,_,_,dX⟩⟩:=ht;exact ⟨bS,bT,bU,bW,dS,dU,he,FN bX hbt (by decide) hct,bY,FN bZ hbt (by decide) hct,ca,FN dV hbt (by decide) hct,dW,hap,hx⟩),⟨.inr hV,⟨.inr hV,⟨.inr hV,⟨.inr hV,⟨.inr (fun e v wX wY h ht=>by obtain ⟨g,bN,bO,bP,bQ,bR,he,hle,hb⟩:=h;obtain ⟨gt,hlt,⟨_,_,_,_,_,hbt⟩,hct,⟨_,_,_,_,_,dX⟩⟩:=ht;by_cases hg:g=gt;(· subst hg;exact ⟨g,_,_,_,_,_,he,hle,dX⟩);(· exact ⟨g,_,_,_,_,_,he,hle,hb.ch hct hg⟩)),⟨.inl rfl,⟨.inr hV,trivial⟩⟩⟩⟩⟩⟩⟩⟩⟩⟩⟩⟩⟩⟩⟩⟩⟩,trivial⟩
  ·refine ⟨?_,⟨?_,⟨?_,⟨?_,⟨?_,⟨?_,⟨?_,⟨?_,⟨?_,⟨?_,⟨?_,⟨?_,⟨?_,⟨?_,⟨?_,⟨?_,⟨?_,trivial⟩⟩⟩⟩⟩⟩⟩⟩⟩⟩⟩⟩⟩⟩⟩⟩⟩
   ·intro _ Z j7 _
    iterate 17 intro _
    refine sw<|pu (vp aa 2) wN ?_
    exact f1
   ·intro _ Z j8 _
    rintro _ rfl;iterate 16 intro _
    refine sw<|pu (vp aa 2) wN ?_
    exact f1
   ·intro _ Z gC _
    rintro _ rfl _ rfl;iterate 15 intro _
    refine sw ?_
    have gD:=(dr.kp gC)
    refine ld (vi a.Cur.N) wN tE gD ?_
    exact f1
   ·intro _ Z j9 _
    rintro _ rfl _ rfl _ rfl;iterate 14 intro _
    refine sw<|ar (a.Cur.N+1) wN ?_
    exact f1
   ·intro _ Z jA _
    iterate 17 intro _
    refine sw<|pu (vp aa 14) wN ?_
    exact f1
   ·intro _ Z gE _
    rintro _ _ _ _ _ rfl _ _ _ _ _ _ _ _ _ _ _ _
    refine sw ?_
    have gF:=(dr.kp gE)
    refine ld (vs b7 a.Next.length b8) wN uH gF ?_
    exact f1
   ·intro _ Z dY _
    have gG:=cS.extk dY
    rintro _ rfl _ rfl _ rfl _ rfl _ rfl _ rfl _ _ _ _ _ _ _ _ _ _ _
    refine sw<|cl wN (TD Z (a.Cur.N+1) _ a.Next (FV (cY.from0 gG) d9)) ?_
    rintro _ bw ⟨gH,⟨jC,jD,jE,jF,rfl,gI,gJ,gK,gL,gM⟩⟩
    exact FY gH ⟨_,_,_,_,rfl,(tA gI dY.size),gJ,(tA gK dY.size),gL,gM⟩
   ·intro _ Z jG _
    iterate 17 intro _
    refine sw<|mw (vi (1 - a.Role)) ?_
    exact f1
   ·intro _ Z gN _
    iterate 17 intro _
    refine sw ?_
    have gO:=(eN.kp gN)
    refine lN (HH b b9 bA bp bq bB bC bD bE bF bG bH bI) wN Gg FD gO ?_
    exact f1
   ·intro _ Z ds _
    have cr:=cS.extk ds
    rintro _ rfl _ rfl _ rfl _ rfl _ rfl _ rfl _ ⟨jH,jI,jJ,jK,rfl,dt,gP,du,gQ,jL⟩ _ rfl _ rfl _ _ _ _ _ _ _ _
    refine sw<|cl wN (Nc Z _ (FM (a.Cur.N+1) a.Next) (IP (Rd.of_own dt) gP (Rd.of_own du) gQ) (1 - a.Role) _ b (IN (cZ.from0 cr) da (cK.from0 cr) cL (db.from0 cr) dc (dd.from0 cr) de (df.from0 cr) dg (dh.from0 cr) di)) ?_
    rintro _ bw ⟨gR,⟨jM,jN,jO,jP,jQ,jR,rfl,dZ,gS,ea,gT,ec,gU,gV⟩⟩
    exact FY gR ⟨_,_,_,_,_,_,rfl,(tA dZ ds.size),gS,(tA ea ds.size),gT,(tA ec ds.size),gU,gV,⟨(Ap.lt dt dZ (Nat.le_refl _)),(Ap.lt dt ea (Nat.le_refl _)),(Ap.lt dt ec (Nat.le_refl _)),(Ap.lt du dZ (Nat.le_refl _)),(Ap.lt du ea (Nat.le_refl _)),(Ap.lt du ec (Nat.le_refl _))⟩⟩
   ·intro _ Z jS _
    rintro _ rfl _ rfl _ rfl _ rfl _ rfl _ rfl _ ⟨jT,jU,jV,jW,rfl,_⟩ _ rfl _ rfl _ ⟨gW,gX,gY,gZ,ha,hc,rfl,_⟩ _ _ _ _ _ _ _
    refine sw<|mw (.tuple #[(va (Gx ((tB (FM (a.Cur.N+1) a.Next) (1 - a.Role) b).1) gW gX gY gZ)),(vs ha ((tB (FM (a.Cur.N+1) a.Next) (1 - a.Role) b).2.1).length hc),(vi ((tB (FM (a.Cur.N+1) a.Next) (1 - a.Role) b).2.2))]) ?_
    exact f1
   ·intro _ Z jX _
    rintro _ rfl _ rfl _ rfl _ rfl _ rfl _ rfl _ ⟨jY,jZ,ka,kb,rfl,_⟩ _ rfl _ rfl _ ⟨hd,hf,hh,hi,kc,kd,rfl,_⟩ _ rfl _ _ _ _ _ _
    refine sw<|pu (va (Gx ((tB (FM (a.Cur.N+1) a.Next) (1 - a.Role) b).1) hd hf hh hi)) wN ?_
    exact f1
   ·intro _ Z ke _
    rintro _ rfl _ rfl _ rfl _ rfl _ rfl _ rfl _ ⟨kf,kg,kh,ki,rfl,_⟩ _ rfl _ rfl _ ⟨kj,kk,kl,km,hj,hl,rfl,_⟩ _ rfl _ _ _ _ _ _
    refine sw<|pu (vs hj ((tB (FM (a.Cur.N+1) a.Next) (1 - a.Role) b).2.1).length hl) wN ?_
    exact f1
   ·intro _ Z kn _
    rintro _ rfl _ rfl _ rfl _ rfl _ rfl _ rfl _ ⟨ko,kq,kr,ks,rfl,_⟩ _ rfl _ rfl _ ⟨kt,ku,kv,kx,ky,kz,rfl,_⟩ _ rfl _ _ _ _ _ _
    refine sw<|pu (vi ((tB (FM (a.Cur.N+1) a.Next) (1 - a.Role) b).2.2)) wN ?_
    exact f1
   ·intro _ Z hm _
    iterate 17 intro _
    refine sw<|al Ks wN Hy ?_
    intro k1 bw hn k2 ho hp
    exact FY ho ⟨_,_,_,_,_,_,rfl,(nT hm.size hn),hp⟩
   ·intro _ Z k3 _
    rintro _ rfl _ rfl _ rfl _ rfl _ rfl _ rfl _ ⟨k4,k5,k6,k7,rfl,_⟩ _ rfl _ rfl _ ⟨hq,hr,hs,hu,k8,k9,rfl,_⟩ _ rfl _ rfl _ _ _ ⟨kA,kB,kC,kD,kE,kF,rfl,eR,eS⟩ _ _
    refine sw<|sv (Gx ((tB (FM (a.Cur.N+1) a.Next) (1 - a.Role) b).1) hq hr hs hu) wN uE eS ?_
    intro bw hv eT kG
    exact KW (by decide) ⟨_,eR,⟨_,_,_,_,_,eS⟩,hv,⟨_,_,_,_,_,eT⟩⟩ ⟨_,rfl,eR,eT⟩
   ·intro _ Z kH _
    rintro _ rfl _ rfl _ rfl _ rfl _ rfl _ rfl _ ⟨kI,kJ,kK,kL,rfl,_⟩ _ rfl _ rfl _ ⟨kM,kN,kO,kP,hw,hy,rfl,_⟩ _ rfl _ rfl _ rfl _ _ ⟨kQ,kR,kS,kT,kU,kV,rfl,kW,kX⟩ _ ⟨h0,h1,-,kY⟩
    have hz:=Kx h1
    subst h0
    intro _
    refine sw<|aw (vs hw ((tB (FM (a.Cur.N+1) a.Next) (1 - a.Role) b).2.1).length hy) ?_
    exact f1
  ·intro _ Z a2
   have eU:=cS.extk a2
   rintro _ rfl _ rfl _ rfl _ rfl _ rfl _ rfl _ ⟨kZ,la,lb,lc,rfl,_⟩ _ rfl _ rfl _ ⟨bg,bh,bi,bj,ed,ee,rfl,cs,h2,cu,h3,cv,h4,ef,lf⟩ _ rfl _ rfl _ rfl _ rfl _ ⟨lg,lh,li,lj,lk,ll,rfl,h5,lm⟩ _ ⟨h6,h7,-,h8⟩
   have hz:=Kx h7
   subst h6
   rintro _ rfl
   refine sw<|aw (vi ((tB (FM (a.Cur.N+1) a.Next) (1 - a.Role) b).2.2)) ?_
   refine n4<|mw (vi ((tB (FM (a.Cur.N+1) a.Next) (1 - a.Role) b).2.2)) ?_
   refine pu (vb (!(decide ((tB (FM (a.Cur.N+1) a.Next) (1 - a.Role) b).2.2=0)))) wN ?_
   refine n2 ?_
   rcases bf (decide ((tB (FM (a.Cur.N+1) a.Next) (1 - a.Role) b).2.2=0)) with cb|cb
   ·have lo:=dF cb
    refine ct (cA not cb)<|sr ?_
    have h9:=(((((((aT.kp i).kp l).kp m).kp q).kp r).kp ab).kp a2)
    refine lN (GH (a) B C D F G H P Q R S I J) wN wb uC h9 ?_
    refine Gc wN rfl rfl tD (fun w=>by kernel_rfl) ?_
    intro eV bw eg b3
    refine mw (vi ((tB (FM (a.Cur.N+1) a.Next) (1 - a.Role) b).2.2)) ?_
    have hA:=(((((((((((aI.kp x).kp u).ch p (nN (nL O (nT x.size K)))).kp i).kp l).kp m).kp q).kp r).kp ab).kp a2).kp eg)
    refine sv (GH (a) B C D F G H P Q R S I J) wN uC hA ?_
    intro cP eh hB lp
    have hC:=(eU.extk eg).ext eh (fun k hk=>by subst hk;exact nT (z2 j f) aH)
    refine aw (vs (some eV) 0 0) ?_
    refine aw (vi ((tB (FM (a.Cur.N+1) a.Next) (1 - a.Role) b).2.2)) ?_
    refine uD<|rg<|Hn<|uP<|uP ?_
    have cw:=fun (E sz n:Nat) (v:Value) (L:List Value) (o:World.ownsRow af ac.heap.size E sz v n L) (y:World.ownsRow af ac.heap.size E sz v n L)=>(tC (gc (gc (gc (gc (gc (gc (gc (gc (tC (gc o u) p (ne2 y (K))) i) l) m) q) r) ab) a2) eg) eh (ne1 y (O)))
    have hD:=(cw _ _ _ _ _ M M)
    have hF:=(cw _ _ _ _ _ V V)
    have hG:=(cw _ _ _ _ _ W W)
    have hH:=(cw _ _ _ _ _ X X)
    have hI:=(cw _ _ _ _ _ Y Y)
    have hJ:=(cw _ _ _ _ _ T T)
    have hK:=(tC b3 eh (ne1 b3 (nL O (z10 x u p i l m q r ab a2))))
    refine Hu (.inl rfl) (va (GH (a) B C D F G H P Q R S I J)) (vs (some eV) 0 0) (vi ((tB (FM (a.Cur.N+1) a.Next) (1 - a.Role) b).2.2)) rfl (HL (GH (a) B C D F G H P Q R S I J) rfl hB wb uC) rfl rfl ?_
    refine ⟨hC.keep0,?_⟩
    rw [dq];simp only [Ha,am,b2,cb,cond_true,cond_false]
    have cx:=z9 u p i l m q r ab a2
    exact ⟨_,_,_,_,_,_,_,_,_,_,_,_,_,_,rfl,(tA hD (z3 j f s)),aJ,(tA hF (z3 j f s)),aZ,(tA hG (z3 j f s)),ba,(tA hH (z3 j f s)),bb,(tA hI (z3 j f s)),bc,(tA hJ (z3 j f s)),aS,(tA hK (nT (z12 j f s x u p i l m q r ab) a2.size)),(by simp),⟨⟨(d.1.1),⟨(d.1.2.1),⟨(d.1.2.2.1),⟨(d.1.2.2.2.1),⟨(d.1.2.2.2.2.1),⟨(Ap.lt M b3 cx),trivial⟩⟩⟩⟩⟩⟩,⟨⟨(d.2.1.1),⟨(d.2.1.2.1),⟨(d.2.1.2.2.1),⟨(d.2.1.2.2.2.1),⟨(Ap.lt V b3 cx),trivial⟩⟩⟩⟩⟩,⟨⟨(d.2.2.1.1),⟨(d.2.2.1.2.1),⟨(d.2.2.1.2.2.1),⟨(Ap.lt W b3 cx),trivial⟩⟩⟩⟩,⟨⟨(d.2.2.2.1.1),⟨(d.2.2.2.1.2.1),⟨(Ap.lt X b3 cx),trivial⟩⟩⟩,⟨⟨(d.2.2.2.2.1.1),⟨(Ap.lt Y b3 cx),trivial⟩⟩,⟨⟨(Ap.lt T b3 cx),trivial⟩,⟨trivial,trivial⟩⟩⟩⟩⟩⟩⟩⟩
   have lq:=dT cb
   refine cf (cA not cb)<|y1<|pu (vp az 2) wN ?_
   have eW:=(((((((aT.kp i).kp l).kp m).kp q).kp r).kp ab).kp a2)
   refine lN (Gx ((a).Cur) D F G H) wN FE uE eW ?_
   refine pu (vp az 7) wN ?_
   refine st (va (Gx ((a).Cur) D F G H)) (Gx ((a).Cur) D F G H) [(vi ((a).Role)),(vs B ((a).Sn).length C),(vi (((a).Cur).N)),(vs D (((a).Cur).Key).length F),(vi (((a).Cur).Seq)),(vi ((((a).Cur).Win).Top)),(vs G ((((a).Cur).Win).Bits).length H),(vi (((a).Cur).N)),(vs D (((a).Cur).Key).length F),(vi (((a).Cur).Seq)),(vi ((((a).Cur).Win).Top)),(vs G ((((a).Cur).Win).Bits).length H),(vb ((a).HasOld)),(vi ((a).Until)),(vs I ((a).Next).length J)] wN uE eW ?_
   intro bw aD hL lr
   have hM:=eU.ext aD (fun k hk=>by subst hk;exact nT (z4 j f s x) K)
   refine nx<|pu (vp az 12) wN ?_
   refine st (vb true) [(vb true)] [(vi ((a).Role)),(vs B ((a).Sn).length C),(vi (((a).Cur).N)),(vs D (((a).Cur).Key).length F),(vi (((a).Cur).Seq)),(vi ((((a).Cur).Win).Top)),(vs G ((((a).Cur).Win).Bits).length H),(vi (((a).Cur).N)),(vs D (((a).Cur).Key).length F),(vi (((a).Cur).Seq)),(vi ((((a).Cur).Win).Top)),(vs G ((((a).Cur).Win).Bits).length H),(vb true),(vi ((a).Until)),(vs I ((a).Next).length J)] wN JH hL ?_
   intro cP aE hN ls
   have hO:=hM.ext aE (fun k hk=>by subst hk;exact nT (z4 j f s x) K)
   refine nx<|mw (vi A) ?_
   refine ar (A+5) wN ?_
   refine pu (vp az 13) wN ?_
   refine st (vi (A+5)) [(vi (A+5))] [(vi ((a).Role)),(vs B ((a).Sn).length C),(vi (((a).Cur).N)),(vs D (((a).Cur).Key).length F),(vi (((a).Cur).Seq)),(vi ((((a).Cur).Win).Top)),(vs G ((((a).Cur).Win).Bits).length H),(vi (((a).Cur).N)),(vs D (((a).Cur).Key).length F),(vi (((a).Cur).Seq)),(vi ((((a).Cur).Win).Top)),(vs G ((((a).Cur).Win).Bits).length H),(vb true),(vi (A+5)),(vs I ((a).Next).length J)] wN GI hN ?_
   intro cQ aF hP lu
   have hQ:=hO.ext aF (fun k hk=>by subst hk;exact nT (z4 j f s x) K)
   refine nx ?_
   have ej:=nL aK (nT (z7 p i l m q r ab) h5)
   have hR:=(((h8.ch aD (Ne.symm (nN ej))).ch aE (Ne.symm (nN ej))).ch aF (Ne.symm (nN ej)))
   refine lN (Gx ((tB (FM (a.Cur.N+1) a.Next) (1 - a.Role) b).1) bg bh bi bj) wN FE uE hR ?_
   refine pu (vp az 2) wN ?_
   refine st (va (Gx ((tB (FM (a.Cur.N+1) a.Next) (1 - a.Role) b).1) bg bh bi bj)) (Gx ((tB (FM (a.Cur.N+1) a.Next) (1 - a.Role) b).1) bg bh bi bj) [(vi ((a).Role)),(vs B ((a).Sn).length C),(vi (((tB (FM (a.Cur.N+1) a.Next) (1 - a.Role) b).1).N)),(vs bg (((tB (FM (a.Cur.N+1) a.Next) (1 - a.Role) b).1).Key).length bh),(vi (((tB (FM (a.Cur.N+1) a.Next) (1 - a.Role) b).1).Seq)),(vi ((((tB (FM (a.Cur.N+1) a.Next) (1 - a.Role) b).1).Win).Top)),(vs bi ((((tB (FM (a.Cur.N+1) a.Next) (1 - a.Role) b).1).Win).Bits).length bj),(vi (((a).Cur).N)),(vs D (((a).Cur).Key).length F),(vi (((a).Cur).Seq)),(vi ((((a).Cur).Win).Top)),(vs G ((((a).Cur).Win).Bits).length H),(vb true),(vi (A+5)),(vs I ((a).Next).length J)] wN uE hP ?_
   intro dl aL hS lv
   have hT:=hQ.ext aL (fun k hk=>by subst hk;exact nT (z4 j f s x) K)
   refine nx<|Gc wN rfl rfl tD (fun w=>by kernel_rfl) ?_
   intro cc lw cV bk
   refine pu (vp az 14) wN ?_
   have hU:=(hS.kp cV)
   refine st (vs (some cc) 0 0) [(vs (some cc) 0 0)] [(vi ((a).Role)),(vs B ((a).Sn).length C),(vi (((tB (FM (a.Cur.N+1) a.Next) (1 - a.Role) b).1).N)),(vs bg (((tB (FM (a.Cur.N+1) a.Next) (1 - a.Role) b).1).Key).length bh),(vi (((tB (FM (a.Cur.N+1) a.Next) (1 - a.Role) b).1).Seq)),(vi ((((tB (FM (a.Cur.N+1) a.Next) (1 - a.Role) b).1).Win).Top)),(vs bi ((((tB (FM (a.Cur.N+1) a.Next) (1 - a.Role) b).1).Win).Bits).length bj),(vi (((a).Cur).N)),(vs D (((a).Cur).Key).length F),(vi (((a).Cur).Seq)),(vi ((((a).Cur).Win).Top)),(vs G ((((a).Cur).Win).Bits).length H),(vb true),(vi (A+5)),(vs (some cc) 0 0)] wN GY hU ?_
   intro lx cW hW ly
   have hX:=(hT.extk cV).ext cW (fun k hk=>by subst hk;exact nT (z4 j f s x) K)
   refine nx<|lN [(vi ((a).Role)),(vs B ((a).Sn).length C),(vi (((tB (FM (a.Cur.N+1) a.Next) (1 - a.Role) b).1).N)),(vs bg (((tB (FM (a.Cur.N+1) a.Next) (1 - a.Role) b).1).Key).length bh),(vi (((tB (FM (a.Cur.N+1) a.Next) (1 - a.Role) b).1).Seq)),(vi ((((tB (FM (a.Cur.N+1) a.Next) (1 - a.Role) b).1).Win).Top)),(vs bi ((((tB (FM (a.Cur.N+1) a.Next) (1 - a.Role) b).1).Win).Bits).length bj),(vi (((a).Cur).N)),(vs D (((a).Cur).Key).length F),(vi (((a).Cur).Seq)),(vi ((((a).Cur).Win).Top)),(vs G ((((a).Cur).Win).Bits).length H),(vb true),(vi (A+5)),(vs (some cc) 0 0)] wN wb uC hW ?_
   refine mw (vs ed ((tB (FM (a.Cur.N+1) a.Next) (1 - a.Role) b).2.1).length ee) ?_
   have cy:=nL O (nT x.size K)
   have hY:=((((((((((((((((aI.kp x).kp u).ch p (nN cy)).kp i).kp l).kp m).kp q).kp r).kp ab).kp a2).ch aD (nN cy)).ch aE (nN cy)).ch aF (nN cy)).ch aL (nN cy)).kp cV).ch cW (nN cy))
   refine sv [(vi ((a).Role)),(vs B ((a).Sn).length C),(vi (((tB (FM (a.Cur.N+1) a.Next) (1 - a.Role) b).1).N)),(vs bg (((tB (FM (a.Cur.N+1) a.Next) (1 - a.Role) b).1).Key).length bh),(vi (((tB (FM (a.Cur.N+1) a.Next) (1 - a.Role) b).1).Seq)),(vi ((((tB (FM (a.Cur.N+1) a.Next) (1 - a.Role) b).1).Win).Top)),(vs bi ((((tB (FM (a.Cur.N+1) a.Next) (1 - a.Role) b).1).Win).Bits).length bj),(vi (((a).Cur).N)),(vs D (((a).Cur).Key).length F),(vi (((a).Cur).Seq)),(vi ((((a).Cur).Win).Top)),(vs G ((((a).Cur).Win).Bits).length H),(vb true),(vi (A+5)),(vs (some cc) 0 0)] wN uC hY ?_
   intro lz dv hZ l0
   have ia:=hX.ext dv (fun k hk=>by subst hk;exact nT (z2 j f) aH)
   refine aw (vs ed ((tB (FM (a.Cur.N+1) a.Next) (1 - a.Role) b).2.1).length ee) ?_
   refine aw (vi 0) ?_
   refine n1 ?_
   have ek:=fun (E sz n:Nat) (v:Value) (L:List Value) (o:World.ownsRow af ac.heap.size E sz v n L) (y:World.ownsRow af ac.heap.size E sz v n L)=>(tC (tC (gc (tC (tC (tC (tC (gc (gc (gc (gc (gc (gc (gc (tC (gc o u) p (ne2 y (K))) i) l) m) q) r) ab) a2) aD (ne2 y (K))) aE (ne2 y (K))) aF (ne2 y (K))) aL (ne2 y (K))) cV) cW (ne2 y (K))) dv (ne1 y (O)))
   have ib:=(ek _ _ _ _ _ M M)
   have cX:=nL aK (z7 p i l m q r ab)
   have em:=fun (E sz n:Nat) (v:Value) (L:List Value) (o:World.ownsRow Z ak.heap.size E sz v n L) (y:World.ownsRow Z ak.heap.size E sz v n L)=>(tC (tC (gc (tC (tC (tC (tC o aD (ne1 y cX)) aE (ne1 y cX)) aF (ne1 y cX)) aL (ne1 y cX)) cV) cW (ne1 y cX)) dv (ne1 y (nL O (z9 x u p i l m q r ab))))
   have ic:=(em _ _ _ _ _ cs cs)
   have ie:=(em _ _ _ _ _ cu cu)
   have ig:=(ek _ _ _ _ _ V V)
   have ih:=(ek _ _ _ _ _ W W)
   have ii:=(tC (tC bk cW (ne1 bk (nL aK (z12 p i l m q r ab a2 aD aE aF aL)))) dv (ne1 bk (nL O (t3 (z12 x u p i l m q r ab a2 aD aE) aF.size aL.size))))
   have ij:=(em _ _ _ _ _ cv cv)
   refine Hu (.inl rfl) (va [(vi ((a).Role)),(vs B ((a).Sn).length C),(vi (((tB (FM (a.Cur.N+1) a.Next) (1 - a.Role) b).1).N)),(vs bg (((tB (FM (a.Cur.N+1) a.Next) (1 - a.Role) b).1).Key).length bh),(vi (((tB (FM (a.Cur.N+1) a.Next) (1 - a.Role) b).1).Seq)),(vi ((((tB (FM (a.Cur.N+1) a.Next) (1 - a.Role) b).1).Win).Top)),(vs bi ((((tB (FM (a.Cur.N+1) a.Next) (1 - a.Role) b).1).Win).Bits).length bj),(vi (((a).Cur).N)),(vs D (((a).Cur).Key).length F),(vi (((a).Cur).Seq)),(vi ((((a).Cur).Win).Top)),(vs G ((((a).Cur).Win).Bits).length H),(vb true),(vi (A+5)),(vs (some cc) 0 0)]) (vs ed ((tB (FM (a.Cur.N+1) a.Next) (1 - a.Role) b).2.1).length ee) (vi 0) rfl (HL [(vi ((a).Role)),(vs B ((a).Sn).length C),(vi (((tB (FM (a.Cur.N+1) a.Next) (1 - a.Role) b).1).N)),(vs bg (((tB (FM (a.Cur.N+1) a.Next) (1 - a.Role) b).1).Key).length bh),(vi (((tB (FM (a.Cur.N+1) a.Next) (1 - a.Role) b).1).Seq)),(vi ((((tB (FM (a.Cur.N+1) a.Next) (1 - a.Role) b).1).Win).Top)),(vs bi ((((tB (FM (a.Cur.N+1) a.Next) (1 - a.Role) b).1).Win).Bits).length bj),(vi (((a).Cur).N)),(vs D (((a).Cur).Key).length F),(vi (((a).Cur).Seq)),(vi ((((a).Cur).Win).Top)),(vs G ((((a).Cur).Win).Bits).length H),(vb true),(vi (A+5)),(vs (some cc) 0 0)] rfl hZ wb uC) rfl rfl ?_
   refine ⟨ia.keep0,?_⟩
   rw [dq];simp only [Ha,am,b2,cb,cond_true,cond_false]
   have en:=nT (z12 u p i l m q r ab a2 aD aE aF) aL.size
   have dw:=z12 j f s x u p i l m q r ab
   have bl:=z8 u p i l m q r ab
   exact ⟨_,_,_,_,_,_,_,_,_,_,_,_,_,_,rfl,(tA ib (z3 j f s)),aJ,(tA ic dw),h2,(tA ie dw),h3,(tA ig (z3 j f s)),aZ,(tA ih (z3 j f s)),ba,(tA ii (t6 dw a2.size aD.size aE.size aF.size aL.size)),(by simp),(tA ij dw),h4,⟨⟨(Ap.lt M cs bl),⟨(Ap.lt M cu bl),⟨(d.1.1),⟨(d.1.2.1),⟨(Ap.lt M bk en),⟨(Ap.lt M cv bl),trivial⟩⟩⟩⟩⟩⟩,⟨⟨(ef.1.1),⟨(Ap.lt V cs bl).symm,⟨(Ap.lt W cs bl).symm,⟨(Ap.lt cs bk (z4 aD aE aF aL)),⟨(ef.1.2.1),trivial⟩⟩⟩⟩⟩,⟨⟨(Ap.lt V cu bl).symm,⟨(Ap.lt W cu bl).symm,⟨(Ap.lt cu bk (z4 aD aE aF aL)),⟨(ef.2.1.1),trivial⟩⟩⟩⟩,⟨⟨(d.2.1.1),⟨(Ap.lt V bk en),⟨(Ap.lt V cv bl),trivial⟩⟩⟩,⟨⟨(Ap.lt W bk en),⟨(Ap.lt W cv bl),trivial⟩⟩,⟨⟨(Ap.lt cv bk (z4 aD aE aF aL)).symm,trivial⟩,⟨trivial,trivial⟩⟩⟩⟩⟩⟩⟩⟩
 refine pu (vp aa 12) wN ?_
 refine ld (vb a.HasOld) wN HX aU ?_
 refine mw (vb a.HasOld) ?_
 rcases bf a.HasOld with ay|ay
 ·iterate 6 refine sk ay ?_
  refine pf (vb false) wN ay ?_
  refine n2<|cf F1 ?_
  have ik:FF a A b=(Ha a A b):=by simp only [FF,ah,ai,aj,a0,a4,a1,ay,cond_true,cond_false]
  exact wj (eK ik _ (Ch.refl _ _))
 refine pu (vp aY 7) (wS ay) ?_
 refine ld (vi b.Epoch) (wS ay) tE cO ?_
 refine pu (vp aa 7) (wS ay) ?_
 refine pu (vp aa 7) (wS ay) ?_
 refine ld (vi a.Old.N) (wS ay) tE aU ?_
 refine pu (vb (decide (b.Epoch=a.Old.N))) (wS ay) ?_
 refine pk (vb (decide (b.Epoch=a.Old.N))) wN ay ?_
 refine n2 ?_
 rcases bf (decide (b.Epoch=a.Old.N)) with bm|bm
 ·have l1:=dF bm
  refine cf bm ?_
  have il:FF a A b=(Ha a A b):=by simp only [FF,ah,ai,aj,a0,a4,a1,ay,bm,cond_true,cond_false]
  exact wj (eK il _ (Ch.refl _ _))
 have l2:=dT bm
 refine ct bm<|uK<|sr<|jF1 [(1,(vi A)),(3,(vp aa 0)),(5,(vp aY 0)),(6,(vp cM 0)),(7,(vs none 0 0)),(8,(vi 0)),(9,(vp az 0)),(10,(vi (1 - a.Role)))] (FF a A b=(Hr a A b)) ?_ fun eX=>?_
 ·intro eY ak ae l3
  have bn:=a3.extk ae
  refine y1<|pu (vp aa 7) wN ?_
  have im:=(aU.kp ae)
  refine lN (Gx a.Old cG cH cI cJ) wN FE uE im ?_
  refine mw (vi (1 - a.Role)) ?_
  have io:=(cO.kp ae)
  refine lN (HH b b9 bA bp bq bB bC bD bE bF bG bH bI) wN Gg FD io ?_
  refine cl wN (Nc ak _ a.Old (IP (d5.from0 bn) d6 (d7.from0 bn) d8) (1 - a.Role) _ b (IN (cZ.from0 bn) da (cK.from0 bn) cL (db.from0 bn) dc (dd.from0 bn) de (df.from0 bn) dg (dh.from0 bn) di)) ?_
  rintro _ Z ⟨an,⟨aM,aN,aO,aP,cz,c0,rfl,c1,ip,c2,iq,c3,ir,eo⟩⟩
  refine mw (.tuple #[(va (Gx ((tB a.Old (1 - a.Role) b).1) aM aN aO aP)),(vs cz ((tB a.Old (1 - a.Role) b).2.1).length c0),(vi ((tB a.Old (1 - a.Role) b).2.2))]) ?_
  refine pu (va (Gx ((tB a.Old (1 - a.Role) b).1) aM aN aO aP)) wN ?_
  refine pu (vs cz ((tB a.Old (1 - a.Role) b).2.1).length c0) wN ?_
  refine pu (vi ((tB a.Old (1 - a.Role) b).2.2)) wN ?_
  refine al Ks wN Hy ?_
  intro l4 bw b4 l5 aQ it
  refine sv (Gx ((tB a.Old (1 - a.Role) b).1) aM aN aO aP) wN uE it ?_
  intro cP aR iu l6
  have eZ:=((bn.extk an).extk aQ).ext aR (fun k hk=>by subst hk;exact nT (nT (z12 j f s x u p i l m q r ae) an.size) b4)
  refine aw (vs cz ((tB a.Old (1 - a.Role) b).2.1).length c0) ?_
  refine aw (vi ((tB a.Old (1 - a.Role) b).2.2)) ?_
  refine n4<|mw (vi ((tB a.Old (1 - a.Role) b).2.2)) ?_
  refine pu (vb (!(decide ((tB a.Old (1 - a.Role) b).2.2=0)))) wN ?_
  refine n2 ?_
  rcases bf (decide ((tB a.Old (1 - a.Role) b).2.2=0)) with cd|cd
  ·have l7:=dF cd
   refine ct (cA not cd)<|sr ?_
   have iv:=(((((((((aT.kp i).kp l).kp m).kp q).kp r).kp ae).kp an).kp aQ).ch aR (nN (nL aK (nT (z8 p i l m q r ae an) b4))))
   refine lN (GH (a) B C D F G H P Q R S I J) wN wb uC iv ?_
   refine Gc wN rfl rfl tD (fun w=>by kernel_rfl) ?_
   intro fa cQ ep b5
   refine mw (vi ((tB a.Old (1 - a.Role) b).2.2)) ?_
   have iw:=(((((((((((((aI.kp x).kp u).ch p (nN (nL O (nT x.size K)))).kp i).kp l).kp m).kp q).kp r).kp ae).kp an).kp aQ).ch aR (nN (nL O (nT (z10 x u p i l m q r ae an) b4)))).kp ep)
   refine sv (GH (a) B C D F G H P Q R S I J) wN uC iw ?_
   intro dl er iy l8
   have iz:=(eZ.extk ep).ext er (fun k hk=>by subst hk;exact nT (z2 j f) aH)
   refine aw (vs (some fa) 0 0) ?_
   refine aw (vi ((tB a.Old (1 - a.Role) b).2.2)) ?_
   refine uD<|rg<|Hn<|uP<|uP ?_
   have c4:=fun (E sz n:Nat) (v:Value) (L:List Value) (o:World.ownsRow af ac.heap.size E sz v n L) (y:World.ownsRow af ac.heap.size E sz v n L)=>(tC (gc (tC (gc (gc (gc (gc (gc (gc (gc (gc (tC (gc o u) p (ne2 y (K))) i) l) m) q) r) ae) an) aQ) aR (ne2 y (nT (z9 u p i l m q r ae an) b4))) ep) er (ne1 y (O)))
   have i0:=(c4 _ _ _ _ _ M M)
   have i1:=(c4 _ _ _ _ _ V V)
   have i2:=(c4 _ _ _ _ _ W W)
   have i3:=(c4 _ _ _ _ _ X X)
   have i4:=(c4 _ _ _ _ _ Y Y)
   have i5:=(c4 _ _ _ _ _ T T)
   have i6:=(tC b5 er (ne1 b5 (nL O (z12 x u p i l m q r ae an aQ aR))))
   refine Hu (.inl rfl) (va (GH (a) B C D F G H P Q R S I J)) (vs (some fa) 0 0) (vi ((tB a.Old (1 - a.Role) b).2.2)) rfl (HL (GH (a) B C D F G H P Q R S I J) rfl iy wb uC) rfl rfl ?_
   refine ⟨iz.keep0,?_⟩
   rw [eY];simp only [Hr,cd,cond_true,cond_false]
   have c5:=z11 u p i l m q r ae an aQ aR
   exact ⟨_,_,_,_,_,_,_,_,_,_,_,_,_,_,rfl,(tA i0 (z3 j f s)),aJ,(tA i1 (z3 j f s)),aZ,(tA i2 (z3 j f s)),ba,(tA i3 (z3 j f s)),bb,(tA i4 (z3 j f s)),bc,(tA i5 (z3 j f s)),aS,(tA i6 (t4 (z12 j f s x u p i l m q r ae) an.size aQ.size aR.size)),(by simp),⟨⟨(d.1.1),⟨(d.1.2.1),⟨(d.1.2.2.1),⟨(d.1.2.2.2.1),⟨(d.1.2.2.2.2.1),⟨(Ap.lt M b5 c5),trivial⟩⟩⟩⟩⟩⟩,⟨⟨(d.2.1.1),⟨(d.2.1.2.1),⟨(d.2.1.2.2.1),⟨(d.2.1.2.2.2.1),⟨(Ap.lt V b5 c5),trivial⟩⟩⟩⟩⟩,⟨⟨(d.2.2.1.1),⟨(d.2.2.1.2.1),⟨(d.2.2.1.2.2.1),⟨(Ap.lt W b5 c5),trivial⟩⟩⟩⟩,⟨⟨(d.2.2.2.1.1),⟨(d.2.2.2.1.2.1),⟨(Ap.lt X b5 c5),trivial⟩⟩⟩,⟨⟨(d.2.2.2.2.1.1),⟨(Ap.lt Y b5 c5),trivial⟩⟩,⟨⟨(Ap.lt T b5 c5),trivial⟩,⟨trivial,trivial⟩⟩⟩⟩⟩⟩⟩⟩
  have l9:=dT cd
  refine cf (cA not cd)<|y1<|lN (Gx ((tB a.Old (1 - a.Role) b).1) aM aN aO aP) wN FE uE iu ?_
  refine pu (vp az 7) wN ?_
  have i7:=(((((((((aT.kp i).kp l).kp m).kp q).kp r).kp ae).kp an).kp aQ).ch aR (nN (nL aK (nT (z8 p i l m q r ae an) b4))))
  refine st (va (Gx ((tB a.Old (1 - a.Role) b).1) aM aN aO aP)) (Gx ((tB a.Old (1 - a.Role) b).1) aM aN aO aP) [(vi ((a).Role)),(vs B ((a).Sn).length C),(vi (((a).Cur).N)),(vs D (((a).Cur).Key).length F),(vi (((a).Cur).Seq)),(vi ((((a).Cur).Win).Top)),(vs G ((((a).Cur).Win).Bits).length H),(vi (((tB a.Old (1 - a.Role) b).1).N)),(vs aM (((tB a.Old (1 - a.Role) b).1).Key).length aN),(vi (((tB a.Old (1 - a.Role) b).1).Seq)),(vi ((((tB a.Old (1 - a.Role) b).1).Win).Top)),(vs aO ((((tB a.Old (1 - a.Role) b).1).Win).Bits).length aP),(vb ((a).HasOld)),(vi ((a).Until)),(vs I ((a).Next).length J)] wN uE i7 ?_
  intro cQ dx i8 lA
  have i9:=eZ.ext dx (fun k hk=>by subst hk;exact nT (z4 j f s x) K)
  refine nx<|lN [(vi ((a).Role)),(vs B ((a).Sn).length C),(vi (((a).Cur).N)),(vs D (((a).Cur).Key).length F),(vi (((a).Cur).Seq)),(vi ((((a).Cur).Win).Top)),(vs G ((((a).Cur).Win).Bits).length H),(vi (((tB a.Old (1 - a.Role) b).1).N)),(vs aM (((tB a.Old (1 - a.Role) b).1).Key).length aN),(vi (((tB a.Old (1 - a.Role) b).1).Seq)),(vi ((((tB a.Old (1 - a.Role) b).1).Win).Top)),(vs aO ((((tB a.Old (1 - a.Role) b).1).Win).Bits).length aP),(vb ((a).HasOld)),(vi ((a).Until)),(vs I ((a).Next).length J)] wN wb uC i8 ?_
  refine mw (vs cz ((tB a.Old (1 - a.Role) b).2.1).length c0) ?_
  have iA:=(((((((((((((aI.kp x).kp u).ch p (nN (nL O (nT x.size K)))).kp i).kp l).kp m).kp q).kp r).kp ae).kp an).kp aQ).ch aR (nN (nL O (nT (z10 x u p i l m q r ae an) b4)))).ch dx (nN (nL O (nT x.size K))))
  refine sv [(vi ((a).Role)),(vs B ((a).Sn).length C),(vi (((a).Cur).N)),(vs D (((a).Cur).Key).length F),(vi (((a).Cur).Seq)),(vi ((((a).Cur).Win).Top)),(vs G ((((a).Cur).Win).Bits).length H),(vi (((tB a.Old (1 - a.Role) b).1).N)),(vs aM (((tB a.Old (1 - a.Role) b).1).Key).length aN),(vi (((tB a.Old (1 - a.Role) b).1).Seq)),(vi ((((tB a.Old (1 - a.Role) b).1).Win).Top)),(vs aO ((((tB a.Old (1 - a.Role) b).1).Win).Bits).length aP),(vb ((a).HasOld)),(vi ((a).Until)),(vs I ((a).Next).length J)] wN uC iA ?_
  intro dl es iB lB
  have iC:=i9.ext es (fun k hk=>by subst hk;exact nT (z2 j f) aH)
  refine aw (vs cz ((tB a.Old (1 - a.Role) b).2.1).length c0) ?_
  refine aw (vi 0) ?_
  refine n1 ?_
  have dy:=fun (E sz n:Nat) (v:Value) (L:List Value) (o:World.ownsRow af ac.heap.size E sz v n L) (y:World.ownsRow af ac.heap.size E sz v n L)=>(tC (tC (tC (gc (gc (gc (gc (gc (gc (gc (gc (tC (gc o u) p (ne2 y (K))) i) l) m) q) r) ae) an) aQ) aR (ne2 y (nT (z9 u p i l m q r ae an) b4))) dx (ne2 y (K))) es (ne1 y (O)))
  have iD:=(dy _ _ _ _ _ M M)
  have iE:=(dy _ _ _ _ _ V V)
  have iF:=(dy _ _ _ _ _ W W)
  have et:=fun (E sz n:Nat) (v:Value) (L:List Value) (o:World.ownsRow Z ak.heap.size E sz v n L) (y:World.ownsRow Z ak.heap.size E sz v n L)=>(tC (tC (tC (gc o aQ) aR (ne2 y (b4))) dx (ne1 y (nL aK (z7 p i l m q r ae)))) es (ne1 y (nL O (z9 x u p i l m q r ae))))
  have iG:=(et _ _ _ _ _ c1 c1)
  have iH:=(et _ _ _ _ _ c2 c2)
  have iI:=(dy _ _ _ _ _ T T)
  have iJ:=(et _ _ _ _ _ c3 c3)
  refine Hu (.inl rfl) (va [(vi ((a).Role)),(vs B ((a).Sn).length C),(vi (((a).Cur).N)),(vs D (((a).Cur).Key).length F),(vi (((a).Cur).Seq)),(vi ((((a).Cur).Win).Top)),(vs G ((((a).Cur).Win).Bits).length H),(vi (((tB a.Old (1 - a.Role) b).1).N)),(vs aM (((tB a.Old (1 - a.Role) b).1).Key).length aN),(vi (((tB a.Old (1 - a.Role) b).1).Seq)),(vi ((((tB a.Old (1 - a.Role) b).1).Win).Top)),(vs aO ((((tB a.Old (1 - a.Role) b).1).Win).Bits).length aP),(vb ((a).HasOld)),(vi ((a).Until)),(vs I ((a).Next).length J)]) (vs cz ((tB a.Old (1 - a.Role) b).2.1).length c0) (vi 0) rfl (HL [(vi ((a).Role)),(vs B ((a).Sn).length C),(vi (((a).Cur).N)),(vs D (((a).Cur).Key).length F),(vi (((a).Cur).Seq)),(vi ((((a).Cur).Win).Top)),(vs G ((((a).Cur).Win).Bits).length H),(vi (((tB a.Old (1 - a.Role) b).1).N)),(vs aM (((tB a.Old (1 - a.Role) b).1).Key).length aN),(vi (((tB a.Old (1 - a.Role) b).1).Seq)),(vi ((((tB a.Old (1 - a.Role) b).1).Win).Top)),(vs aO ((((tB a.Old (1 - a.Role) b).1).Win).Bits).length aP),(vb ((a).HasOld)),(vi ((a).Until)),(vs I ((a).Next).length J)] rfl iB wb uC) rfl rfl ?_
  refine ⟨iC.keep0,?_⟩
  rw [eY];simp only [Hr,cd,cond_true,cond_false]
  have eu:=z12 j f s x u p i l m q r ae
  have aG:=z8 u p i l m q r ae
  exact ⟨_,_,_,_,_,_,_,_,_,_,_,_,_,_,rfl,(tA iD (z3 j f s)),aJ,(tA iE (z3 j f s)),aZ,(tA iF (z3 j f s)),ba,(tA iG eu),ip,(tA iH eu),iq,(tA iI (z3 j f s)),aS,(tA iJ eu),ir,⟨⟨(d.1.1),⟨(d.1.2.1),⟨(Ap.lt M c1 aG),⟨(Ap.lt M c2 aG),⟨(d.1.2.2.2.2.1),⟨(Ap.lt M c3 aG),trivial⟩⟩⟩⟩⟩⟩,⟨⟨(d.2.1.1),⟨(Ap.lt V c1 aG),⟨(Ap.lt V c2 aG),⟨(d.2.1.2.2.2.1),⟨(Ap.lt V c3 aG),trivial⟩⟩⟩⟩⟩,⟨⟨(Ap.lt W c1 aG),⟨(Ap.lt W c2 aG),⟨(d.2.2.1.2.2.1),⟨(Ap.lt W c3 aG),trivial⟩⟩⟩⟩,⟨⟨(eo.1.1),⟨(Ap.lt T c1 aG).symm,⟨(eo.1.2.1),trivial⟩⟩⟩,⟨⟨(Ap.lt T c2 aG).symm,⟨(eo.2.1.1),trivial⟩⟩,⟨⟨(Ap.lt T c3 aG),trivial⟩,⟨trivial,trivial⟩⟩⟩⟩⟩⟩⟩⟩
 refine pu (vp aa 13) wN ?_
 refine ld (vi a.Until) wN tE aU ?_
 refine pu (vb (!(decide (a.Until=(-1))))) wN ?_
 refine mw (vb (!(decide (a.Until=(-1))))) ?_
 rcases bt (decide (a.Until=(-1))) with a5|a5
 ·have lC:=dT a5
  iterate 4 refine sk (cA not a5) ?_
  refine pf (vb false) wN (cA not a5) ?_
  refine n2<|cf F1 ?_
  have iK:FF a A b=(Hr a A b):=by simp only [FF,ah,ai,aj,a0,a4,a1,ay,bm,a5,cond_true,cond_false]
  exact wj (eX iK _ (Ch.refl _ _))
 have lD:=dF a5
 refine mv (vi A) (wS (cA not a5)) ?_
 refine pu (vp aa 13) (wS (cA not a5)) ?_
 refine ld (vi a.Until) (wS (cA not a5)) tE aU ?_
 refine pu (vb (decide (a.Until < A))) (wS (cA not a5)) ?_
 refine pk (vb (decide (a.Until < A))) wN (cA not a5) ?_
 refine n2 ?_
 rcases bf (decide (a.Until < A)) with ce|ce
 ·have lE:=dF ce
  refine cf ce ?_
  have iL:FF a A b=(Hr a A b):=by simp only [FF,ah,ai,aj,a0,a4,a1,ay,bm,a5,ce,cond_true,cond_false]
  exact wj (eX iL _ (Ch.refl _ _))
 have lF:=dT ce
 refine ct ce<|sr ?_
 have iM:=(((((aT.kp i).kp l).kp m).kp q).kp r)
 refine lN (GH (a) B C D F G H P Q R S I J) wN wb uC iM ?_
 refine Gc wN rfl rfl tD (fun w=>by kernel_rfl) ?_
 intro fb ak ew b6
 have iN:=(((((((((aI.kp x).kp u).ch p (nN (nL O (nT x.size K)))).kp i).kp l).kp m).kp q).kp r).kp ew)
 refine sv (GH (a) B C D F G H P Q R S I J) wN uC iN ?_
 intro Z ex iO lG
 have iP:=(a3.extk ew).ext ex (fun k hk=>by subst hk;exact nT (z2 j f) aH)
 refine aw (vs (some fb) 0 0) ?_
 refine aw (vi 9) ?_
 refine uD<|rg<|Hn<|uP<|uP ?_
 have c6:=fun (E sz n:Nat) (v:Value) (L:List Value) (o:World.ownsRow af ac.heap.size E sz v n L) (y:World.ownsRow af ac.heap.size E sz v n L)=>(tC (gc (gc (gc (gc (gc (gc (tC (gc o u) p (ne2 y (K))) i) l) m) q) r) ew) ex (ne1 y (O)))
 have iQ:=(c6 _ _ _ _ _ M M)
 have iR:=(c6 _ _ _ _ _ V V)
 have iS:=(c6 _ _ _ _ _ W W)
 have iT:=(c6 _ _ _ _ _ X X)
 have iU:=(c6 _ _ _ _ _ Y Y)
 have iW:=(c6 _ _ _ _ _ T T)
 have iX:=(tC b6 ex (ne1 b6 (nL O (z8 x u p i l m q r))))
 refine Hu (.inl rfl) (va (GH (a) B C D F G H P Q R S I J)) (vs (some fb) 0 0) (vi 9) rfl (HL (GH (a) B C D F G H P Q R S I J) rfl iO wb uC) rfl rfl ?_
 refine ⟨iP.keep0,?_⟩
 simp only [FF,ah,ai,aj,a0,a4,a1,ay,bm,a5,ce,cond_true,cond_false]
 have c7:=z7 u p i l m q r
 exact ⟨_,_,_,_,_,_,_,_,_,_,_,_,_,_,rfl,(tA iQ (z3 j f s)),aJ,(tA iR (z3 j f s)),aZ,(tA iS (z3 j f s)),ba,(tA iT (z3 j f s)),bb,(tA iU (z3 j f s)),bc,(tA iW (z3 j f s)),aS,(tA iX (z11 j f s x u p i l m q r)),(by simp),⟨⟨(d.1.1),⟨(d.1.2.1),⟨(d.1.2.2.1),⟨(d.1.2.2.2.1),⟨(d.1.2.2.2.2.1),⟨(Ap.lt M b6 c7),trivial⟩⟩⟩⟩⟩⟩,⟨⟨(d.2.1.1),⟨(d.2.1.2.1),⟨(d.2.1.2.2.1),⟨(d.2.1.2.2.2.1),⟨(Ap.lt V b6 c7),trivial⟩⟩⟩⟩⟩,⟨⟨(d.2.2.1.1),⟨(d.2.2.1.2.1),⟨(d.2.2.1.2.2.1),⟨(Ap.lt W b6 c7),trivial⟩⟩⟩⟩,⟨⟨(d.2.2.2.1.1),⟨(d.2.2.2.1.2.1),⟨(Ap.lt X b6 c7),trivial⟩⟩⟩,⟨⟨(d.2.2.2.2.1.1),⟨(Ap.lt Y b6 c7),trivial⟩⟩,⟨⟨(Ap.lt T b6 c7),trivial⟩,⟨trivial,trivial⟩⟩⟩⟩⟩⟩⟩⟩

def Hq (a:PChan) (b:PFrame):(Bool):=decide ((FF a 0 b).2.2=0)
theorem MD (e:World) (X:Value) (a:PChan) (ac:Ro e X a) (Y:Value) (b:PFrame) (ad:MH e Y b) :Fn Tryz.prog 25 #[X,Y] e (fun v Z=>Keep e Z∧O_4 Z e.heap.size v (Hq a b)):=by
 obtain ⟨f,g,h,i,j,l,m,o,p,q,r,s,rfl,ae,af,ah,ai,aj,ak,am,an,ao,ap,aq,au⟩:=ac
 obtain ⟨t,u,w,x,y,A,B,C,D,E,F,G,rfl,av,ax,ay,az,a0,a1,a2,a3,a4,a5,a6,a7⟩:=ad
 refine FI (n:=17) [(va (GH a f g h i j l m o p q r s)),(va (HH b t u w x y A B C D E F G))] Tryz.func25 rfl rfl ?_
 refine sr<|bx (GH a f g h i j l m o p q r s) wN ?_
 intro aI aJ aK aL aa a8
 refine bx (HH b t u w x y A B C D E F G) wN ?_
 intro aM a9 aN aO H aA
 have d:=((Ch.base e).extk aa).extk H
 refine aw (vb false) ?_
 refine nx ?_
 have aB:=(a8.kp H)
 refine lN (GH a f g h i j l m o p q r s) wN wb uC aB ?_
 refine lN (HH b t u w x y A B C D E F G) wN Gg FD aA ?_
 refine cl wN (PF a9 _ a (KI (ae.from0 d) af (ah.from0 d) ai (aj.from0 d) ak (am.from0 d) an (ao.from0 d) ap (aq.from0 d) au) 0 _ b (IN (av.from0 d) ax (ay.from0 d) az (a0.from0 d) a1 (a2.from0 d) a3 (a4.from0 d) a5 (a6.from0 d) a7)) ?_
 rintro _ aP ⟨ab,⟨I,J,K,L,M,N,O,P,Q,R,S,T,V,W,rfl,_⟩⟩
 refine mw (.tuple #[(va (GH ((FF a 0 b).1) I J K L M N O P Q R S T)),(vs V ((FF a 0 b).2.1).length W),(vi ((FF a 0 b).2.2))]) ?_
 refine pu (va (GH ((FF a 0 b).1) I J K L M N O P Q R S T)) wN ?_
 refine pu (vs V ((FF a 0 b).2.1).length W) wN ?_
 refine pu (vi ((FF a 0 b).2.2)) wN ?_
 refine al Mf wN HR ?_
 intro aQ aR aC aS aD aE
 refine sv (GH ((FF a 0 b).1) I J K L M N O P Q R S T) wN uC aE ?_
 intro aT aF aU aV
 have aG:=((d.extk ab).extk aD).ext aF (fun k hk=>by subst hk;exact nT (z3 aa H ab) aC)
 refine aw (vs V ((FF a 0 b).2.1).length W) ?_
 refine aw (vi ((FF a 0 b).2.2)) ?_
 refine nx<|mw (vi ((FF a 0 b).2.2)) ?_
 refine pu (vb (decide ((FF a 0 b).2.2=0))) wN ?_
 refine aw (vb (decide ((FF a 0 b).2.2=0))) ?_
 refine n3<|rt (vb (decide ((FF a 0 b).2.2=0))) ?_
 refine ⟨aG.keep0,?_⟩
 have aH:Hq a b=decide ((FF a 0 b).2.2=0):=by rfl
 rw [aH]
 exact rfl
end Go.Proofs.YtacoceibbheccaaGreat.K
