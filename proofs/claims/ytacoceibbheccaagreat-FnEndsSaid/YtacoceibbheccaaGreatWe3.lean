import Derived.Test.YtacoceibbheccaaGreatCore
import Derived.Test.YtacoceibbheccaaGreatProg
import Derived.Test.YtacoceibbheccaaGreatHeld
import Derived.Test.YtacoceibbheccaaGreatFun
import Derived.Test.YtacoceibbheccaaGreatFunZ
import Derived.Test.YtacoceibbheccaaGreatSqz
import Derived.Test.YtacoceibbheccaaGreatHash
import Derived.Test.YtacoceibbheccaaGreatCur
import Derived.Test.YtacoceibbheccaaGreatDrawW
import Derived.Test.YtacoceibbheccaaGreatAead
import Derived.Test.YtacoceibbheccaaGreatWe2
namespace Go.Proofs.YtacoceibbheccaaGreat.K
open Go.RowKit
set_option linter.unusedVariables false
set_option linter.unusedSimpArgs false
set_option maxRecDepth 100000
set_option maxHeartbeats 4000000
theorem Sr (e:World) (L:Value) (b:List UInt8) (X:HP e L b) (M:Value) (a:List UInt8) (Y:HP e M a) (d:Int) :Fn Tryz.prog 149 #[L,M,(vi d)] e (fun v o=>Keep e o∧JF o e.heap.size v (FC b a d)):=by
 obtain ⟨h,i,rfl,N,Z⟩:=X
 obtain ⟨j,m,rfl,O,aa⟩:=Y
 refine FI (n:=39) [(vs h b.length i),(vs j a.length m),(vi d)] Tryz.func149 rfl rfl ?_
 refine sr<|aw (vs none 0 0) ?_
 refine n4<|jT1 [(0,(vs h b.length i)),(1,(vs j a.length m)),(2,(vi d)),(6,(vs none 0 0))] (FC b a d=[]) ?_ fun E=>?_
 ·intro ab p ac a3
  have ad:=(Ch.base e).extk ac
  refine sr<|aw (vs none 0 0) ?_
  refine n1<|rt (vs none 0 0) ?_
  refine ⟨ad.keep0,?_⟩
  rw [ab]
  exact ⟨_,_,rfl,(by first|exact FL _ _ _ _|exact OLv.nil _ _ _ _),(by simp),⟨trivial,trivial⟩⟩
 refine mw (vi d) ?_
 refine cl wN (Hc e d 0 200) ?_
 rintro _ p ⟨q,rfl⟩
 have F:=(Ch.base e).extk q
 refine pu (vb (!(i_within d 0 200))) wN ?_
 refine mw (vb (!(i_within d 0 200))) ?_
 rcases bf (i_within d 0 200) with f|f
 ·have a4:=Gh f
  iterate 3 refine sk (cA not f) ?_
  refine pk (vb true) wN (cA not f) ?_
  refine mw (vb true) ?_
  iterate 3 refine sk T1 ?_
  refine pk (vb true) wN T1 ?_
  refine n2<|ct T1 ?_
  have ae:FC b a d=[]:=by first|exact IV (by omega)|exact Jo (by omega) (by omega) (by omega) (by omega) (by omega) (by omega)
  exact wj (E ae _ q)
 have a5:=FU f
 refine mv (vs j a.length m) (wS (cA not f)) ?_
 refine ln (wS (cA not f)) tD (O.from0 F) ?_
 refine pu (vb (decide (100 < (a.length:Int)))) (wS (cA not f)) ?_
 refine pf (vb (decide (100 < (a.length:Int)))) wN (cA not f) ?_
 refine mw (vb (decide (100 < (a.length:Int)))) ?_
 rcases bt (decide (100 < (a.length:Int))) with g|g
 ·have a6:=dT g
  iterate 3 refine sk g ?_
  refine pk (vb true) wN g ?_
  refine n2<|ct T1 ?_
  have af:FC b a d=[]:=by first|exact IV (by omega)|exact Jo (by omega) (by omega) (by omega) (by omega) (by omega) (by omega)
  exact wj (E af _ q)
 have a7:=dF g
 refine mv (vs h b.length i) (wS g) ?_
 refine ln (wS g) tD (N.from0 F) ?_
 refine pu (vb (decide (1048576 < (b.length:Int)))) (wS g) ?_
 refine pf (vb (decide (1048576 < (b.length:Int)))) wN g ?_
 refine n2 ?_
 rcases bt (decide (1048576 < (b.length:Int))) with x|x
 ·have a8:=dT x
  refine ct x ?_
  have ah:FC b a d=[]:=by first|exact IV (by omega)|exact Jo (by omega) (by omega) (by omega) (by omega) (by omega) (by omega)
  exact wj (E ah _ q)
 have a9:=dF x
 refine cf x<|y1<|Gc wN rfl rfl tD (fun w=>by kernel_rfl) ?_
 intro G H I ai
 have aj:=F.extk I
 refine aw (vs (some G) 0 0) ?_
 refine n4<|aw (vi 0) ?_
 refine uD<|rg<|uJ ?_
 have P:([]:List UInt8)=HZ b a 0:=by rfl
 have Q:0=(HZ b a 0).length:=by rw [← P];try (first|rfl|simp only [List.length_set]|simp)
 refine Ge [(0,(vs h b.length i)),(1,(vs j a.length m)),(2,(vi d)),(6,(vs none 0 0)),(7,(.slice (some G) (HZ b a 0).length 0)),(8,(vi ((0:Nat):Int)))] ⟨rfl,rfl,rfl,rfl,rfl,(cA (Value.int .i64) (show (0:Int)=((0:Nat):Int) by omega)),trivial⟩ (fun e' o=>∃ (k:Nat) (R:Env) (r:Option Addr) (s:Nat),e'=pt R [(0,(vs h b.length i)),(1,(vs j a.length m)),(2,(vi d)),(6,(vs none 0 0)),(7,(.slice r (HZ b a k).length s)),(8,(vi ((k:Nat):Int)))]∧Ch (fun k=>e.heap.size≤k) e o∧Ch (fun k=>p.heap.size≤k) H o∧32*((k:Nat):Int) < d+32∧(World.ownsRow o p.heap.size 5 1 (.slice r (HZ b a k).length s) (HZ b a k).length ((HZ b a k).map bV)∧(HZ b a k).length≤1073741824)) (fun e' _=>d.toNat - (lenOf (e' 7))) ?_ ?_
 ·exact fun u=>⟨0,u,(some G),0,rfl,aj,(Ch.refl (fun k=>p.heap.size≤k) H),(by omega),⟨(by rw [← Q,← P];exact ai),(by rw [← Q];first|exact (by simp)|(simp only [List.length_append,List.length_take,List.length_replicate];omega))⟩⟩
 ·rintro _ J ⟨k,R,r,s,rfl,A,K,aA,⟨t,ak⟩⟩
  have hsl:=MK (key:=b) (head:=a) (by omega) (by omega) k
  have hsm:=MK (key:=b) (head:=a) (by omega) (by omega) (k+1)
  refine uK<|sr<|mw (vs r (HZ b a k).length s) ?_
  refine ln wN tD (Rd.of_own t) ?_
  refine mw (vi d) ?_
  refine pu (vb (decide (((HZ b a k).length:Int) < d))) wN ?_
  refine n2 ?_
  rcases bt (decide (((HZ b a k).length:Int) < d)) with y|y
  ·have aB:=dT y
   refine ct y<|FR<|rg<|uK<|uJ<|uG ?_
   refine mw (vs r (HZ b a k).length s) ?_
   refine mw (vs h b.length i) ?_
   refine mw (vs j a.length m) ?_
   refine mw (vi ((k:Nat):Int)) ?_
   refine cl wN (Re J _ b (FV (N.from0 A) Z) _ a (FV (O.from0 A) aa) ((k:Nat):Int)) ?_
   rintro _ am ⟨B,⟨aC,aD,rfl,an,_⟩⟩
   have aE:=LY b a ((k:Nat):Int)
   have ao:=(gc t B)
   refine apB (HZ b a k) (Jl b a ((k:Nat):Int)) wN tD ao (Rd.of_own an) (z3 I K B) ?_
   intro C D aF S ap aG aq
   have au:=(A.extk B).ext S (fun k hk=>nT q.size (uI t k hk).1)
   refine aw (vs C ((HZ b a k)++(Jl b a ((k:Nat):Int))).length D) ?_
   refine uD<|uB<|rg<|uG ?_
   refine mw (vi ((k:Nat):Int)) ?_
   refine ar (((k:Nat):Int)+1) wN ?_
   refine aw (vi (((k:Nat):Int)+1)) ?_
   refine uD ?_
   have T:(((HZ b a k)++(Jl b a ((k:Nat):Int))):List UInt8)=HZ b a (k+1):=by rfl
   refine FX (w0:=J) [(0,(vs h b.length i)),(1,(vs j a.length m)),(2,(vi d)),(6,(vs none 0 0)),(7,(.slice C (HZ b a (k+1)).length D)),(8,(vi (((k+1):Nat):Int)))] ?_ ?_ ?_
   · exact ⟨rfl,rfl,rfl,rfl,(cA (fun l:List UInt8=>Value.slice C l.length D) T),(cA (Value.int .i64) (show ((((k:Nat):Int)+1):Int)=(((k+1):Nat):Int) by omega)),trivial⟩
   · exact fun u=>⟨(k+1),u,C,D,rfl,au,((((Ch.refl (fun k=>p.heap.size≤k) H).ext K (fun k hk=>hk)).extk B).ext S (fun k hk=>nT (Nat.le_refl p.heap.size) (uI t k hk).1)),(by omega),(T ▸ ⟨ap,aq⟩)⟩
   · show d.toNat - (HZ b a (k+1)).length < d.toNat - (HZ b a k).length;omega
  have aH:=dF y
  refine cf y<|Gn<|uA<|uA<|wr<|rg<|sr<|mw (vs r (HZ b a k).length s) ?_
  refine mw (vi d) ?_
  refine slv ((HZ b a k).take ((d).toNat)) 0 ((d).toNat) wN tD (Rd.of_own t) (by first|omega|(simp <;> omega)) (by first|omega|(simp <;> omega)) (by first|rfl|(simp;done)|(rw [List.take_of_length_le (by first|(simp;done)|(simp;omega))])) rfl rfl rfl rfl (.inl ⟨rfl,rfl⟩) (.inr ⟨_,_,_,rfl,rfl,by omega⟩) ?_
  have av:0≤((d).toNat):=(by first|omega|(simp <;> omega))
  have ax:((d).toNat)≤(HZ b a k).length:=(by first|omega|(simp <;> omega))
  refine cl wN (IR J _ ((HZ b a k).take ((d).toNat)) (FV (Rd.subV (x':=((HZ b a k).take ((d).toNat))) (Rd.of_own t) av ax (by first|rfl|(simp;done)|(rw [List.take_of_length_le (by first|(simp;done)|(simp;omega))]))) (nT (by simp only [List.length_take,List.length_drop];omega) ak))) ?_
  rintro _ am ⟨ay,⟨V,W,rfl,az,a0,aI⟩⟩
  have a1:=A.extk ay
  refine aw (vs V (((HZ b a k).take ((d).toNat))).length W) ?_
  refine n3<|rt (vs V (((HZ b a k).take ((d).toNat))).length W) ?_
  refine ⟨a1.keep0,?_⟩
  have a2:FC b a d=(((HZ b a k).take ((d).toNat))):=by first|exact IV (by omega)|exact Jo (by omega) (by omega) (by omega) (by omega) (by omega) (by omega)
  rw [a2]
  exact ⟨_,_,rfl,(tA az (z3 q I K)),a0,⟨trivial,trivial⟩⟩

theorem UA (e:World) (X:Value) (d:List UInt8) (ap:HP e X d) (Y:Value) (b:List UInt8) (aq:HP e Y b) (Z:Value) (a:List UInt8) (au:HP e Z a) :Fn Tryz.prog 122 #[X,Y,Z] e (fun v p=>Keep e p∧JF p e.heap.size v (Ia d b a)):=by
 obtain ⟨B,C,rfl,aa,av⟩:=ap
 obtain ⟨D,E,rfl,ab,ax⟩:=aq
 obtain ⟨i,j,rfl,F,aJ⟩:=au
 refine FI (n:=46) [(vs B d.length C),(vs D b.length E),(vs i a.length j)] Tryz.func122 rfl rfl ?_
 refine sr<|aw (vs none 0 0) ?_
 refine n4<|jT1 [(0,(vs B d.length C)),(1,(vs D b.length E)),(2,(vs i a.length j)),(6,(vs none 0 0))] (Ia d b a=[]) ?_ fun M=>?_
 ·intro ay G az aK
  have a0:=(Ch.base e).extk az
  refine sr<|aw (vs none 0 0) ?_
  refine n1<|rt (vs none 0 0) ?_
  refine ⟨a0.keep0,?_⟩
  rw [ay]
  exact ⟨_,_,rfl,(by first|exact FL _ _ _ _|exact OLv.nil _ _ _ _),(by simp),⟨trivial,trivial⟩⟩
 refine mw (vs i a.length j) ?_
 refine ln wN tD F ?_
 refine pu (vb (decide (200 < (a.length:Int)))) wN ?_
 refine mw (vb (decide (200 < (a.length:Int)))) ?_
 rcases bt (decide (200 < (a.length:Int))) with f|f
 ·have aL:=dT f
  iterate 3 refine sk f ?_
  refine pk (vb true) wN f ?_
  refine mw (vb true) ?_
  iterate 3 refine sk T1 ?_
  refine pk (vb true) wN T1 ?_
  refine n2<|ct T1 ?_
  have a1:Ia d b a=[]:=by first|exact KH (by omega)|exact Ln (by omega) (by omega) (by omega) (by omega)
  exact wj (M a1 _ (Ch.refl _ _))
 have aM:=dF f
 refine mv (vs D b.length E) (wS f) ?_
 refine ln (wS f) tD ab ?_
 refine pu (vb (decide (100 < (b.length:Int)))) (wS f) ?_
 refine pf (vb (decide (100 < (b.length:Int)))) wN f ?_
 refine mw (vb (decide (100 < (b.length:Int)))) ?_
 rcases bt (decide (100 < (b.length:Int))) with h|h
 ·have aN:=dT h
  iterate 3 refine sk h ?_
  refine pk (vb true) wN h ?_
  refine n2<|ct T1 ?_
  have a2:Ia d b a=[]:=by first|exact KH (by omega)|exact Ln (by omega) (by omega) (by omega) (by omega)
  exact wj (M a2 _ (Ch.refl _ _))
 have aO:=dF h
 refine mv (vs B d.length C) (wS h) ?_
 refine ln (wS h) tD aa ?_
 refine pu (vb (decide (1048576 < (d.length:Int)))) (wS h) ?_
 refine pf (vb (decide (1048576 < (d.length:Int)))) wN h ?_
 refine n2 ?_
 rcases bt (decide (1048576 < (d.length:Int))) with t|t
 ·have aP:=dT t
  refine ct t ?_
  have a3:Ia d b a=[]:=by first|exact KH (by omega)|exact Ln (by omega) (by omega) (by omega) (by omega)
  exact wj (M a3 _ (Ch.refl _ _))
 have aQ:=dF t
 refine cf t<|y1<|Gc wN rfl rfl tD (fun w=>by kernel_rfl) ?_
 intro N G ac ad
 have H:=(Ch.base e).extk ac
 refine aw (vs (some N) 0 0) ?_
 refine n4<|mw (vs B d.length C) ?_
 refine mw (vs D b.length E) ?_
 refine mw (vs i a.length j) ?_
 refine ln wN tD (F.from0 H) ?_
 refine cl wN (Sr G _ d (FV (aa.from0 H) av) _ b (FV (ab.from0 H) ax) (a.length:Int)) ?_
 rintro _ O ⟨P,⟨Q,R,rfl,S,a4,aR⟩⟩
 have a5:=H.extk P
 have aS:=Iz d b (a.length:Int)
 refine ln wN tD (Rd.of_own S) ?_
 refine mw (vi 0) ?_
 refine uD<|rg<|uJ ?_
 have ae:((FC d b (a.length:Int)):List UInt8)=(FC d b (a.length:Int)):=by rfl
 have a6:=(gc ad P)
 have af:([]:List UInt8)=IL (a.take 0) ((FC d b (a.length:Int)).take 0):=by rfl
 have ah:0=(IL (a.take 0) ((FC d b (a.length:Int)).take 0)).length:=by rw [← af];try (first|rfl|simp only [List.length_set]|simp)
 refine Ge [(2,(vs i a.length j)),(6,(vs none 0 0)),(7,(.slice (some N) (IL (a.take 0) ((FC d b (a.length:Int)).take 0)).length 0)),(28,(.slice Q ((FC d b (a.length:Int))).length R)),(29,(vi ((FC d b (a.length:Int)).length:Int))),(30,(vi ((0:Nat):Int)))] ⟨rfl,rfl,rfl,(cA (fun l:List UInt8=>Value.slice Q l.length R) ae),rfl,(cA (Value.int .i64) (show (0:Int)=((0:Nat):Int) by omega)),trivial⟩ (fun e' p=>∃ (k:Nat) (ai:Env) (q:Option Addr) (s:Nat) (o:Option Addr) (r:Nat),e'=pt ai [(2,(vs i a.length j)),(6,(vs none 0 0)),(7,(.slice o (IL (a.take k) ((FC d b (a.length:Int)).take k)).length r)),(28,(.slice q ((FC d b (a.length:Int))).length s)),(29,(vi ((FC d b (a.length:Int)).length:Int))),(30,(vi ((k:Nat):Int)))]∧Ch (fun k=>e.heap.size≤k) e p∧Ch (fun k=>e.heap.size≤k) O p∧k≤a.length∧(World.ownsRow p G.heap.size 5 1 (.slice q ((FC d b (a.length:Int))).length s) ((FC d b (a.length:Int))).length (((FC d b (a.length:Int))).map bV)∧((FC d b (a.length:Int))).length≤1073741824)∧(World.ownsRow p e.heap.size 5 1 (.slice o (IL (a.take k) ((FC d b (a.length:Int)).take k)).length r) (IL (a.take k) ((FC d b (a.length:Int)).take k)).length ((IL (a.take k) ((FC d b (a.length:Int)).take k)).map bV)∧(IL (a.take k) ((FC d b (a.length:Int)).take k)).length≤1073741824)∧NeS o q) (fun e' _=>a.length - ((intOf (e' 30))).toNat) ?_ ?_
 ·exact fun u=>⟨0,u,Q,R,(some N),0,rfl,a5,(Ch.refl (fun k=>e.heap.size≤k) O),(by omega),(ae ▸ ⟨S,a4⟩),⟨(by rw [← ah,← af];exact a6),(by rw [← ah];first|exact (by simp)|(simp only [List.length_append,List.length_take,List.length_replicate];omega))⟩,(NeS.lt ad S (Nat.le_refl G.heap.size))⟩
 ·rintro _ a7 ⟨k,ai,q,s,o,r,rfl,I,aj,aT,⟨T,a8⟩,⟨J,a9⟩,ak⟩
  have hzl:=PT a (FC d b (a.length:Int)) k
  have hsl:=Iz d b (a.length:Int)
  refine sr<|pu (vb (decide (((k:Nat):Int) < ((FC d b (a.length:Int)).length:Int)))) wN ?_
  refine uD<|rg<|uK ?_
  rcases bf (decide (((k:Nat):Int) < ((FC d b (a.length:Int)).length:Int))) with y|y
  ·have aU:=dF y
   refine cf y<|Gn<|uA<|uA<|wr<|rg<|sr<|mw (vs o (IL (a.take k) ((FC d b (a.length:Int)).take k)).length r) ?_
   refine aw (vs o (IL (a.take k) ((FC d b (a.length:Int)).take k)).length r) ?_
   refine n3<|rt (vs o (IL (a.take k) ((FC d b (a.length:Int)).take k)).length r) ?_
   refine ⟨I.keep0,?_⟩
   have aA:Ia d b a=(IL (a.take k) ((FC d b (a.length:Int)).take k)):=by first|exact KH (by omega)|exact Ln (by omega) (by omega) (by omega) (by omega)
   rw [aA]
   exact ⟨_,_,rfl,J,a9,⟨trivial,trivial⟩⟩
  have aV:=dT y
  refine ct y<|FR<|rg<|uK<|uJ<|sr<|mw (vi ((k:Nat):Int)) ?_
  refine ix wN ((k:Nat):Int) tD (Rd.of_own T) ?_
  refine eb (x:=(FC d b (a.length:Int))) k wN HI (Rd.of_own T) ?_
  refine aw (vi ((k:Nat):Int)) ?_
  refine aw (v8 (((FC d b (a.length:Int)).getD k 0).toNat:Int)) ?_
  refine uD<|rg<|uG ?_
  refine mw (vs o (IL (a.take k) ((FC d b (a.length:Int)).take k)).length r) ?_
  refine mw (v8 (((FC d b (a.length:Int)).getD k 0).toNat:Int)) ?_
  refine mw (vs i a.length j) ?_
  refine mw (vi ((k:Nat):Int)) ?_
  refine ix wN ((k:Nat):Int) tD (F.from0 I) ?_
  refine eb (x:=a) k wN HI (F.from0 I) ?_
  refine Kj ((FC d b (a.length:Int)).getD k 0) (a.getD k 0) wN rfl rfl (by kernel_rfl) ?_
  refine ltB ([(((FC d b (a.length:Int)).getD k 0)^^^(a.getD k 0))]:List UInt8) wN tD ?_
  intro aW aX aY A aB
  have aC:=(gc J A)
  refine apB (IL (a.take k) ((FC d b (a.length:Int)).take k)) ([(((FC d b (a.length:Int)).getD k 0)^^^(a.getD k 0))]:List UInt8) wN tD aC (Rd.of_own aB) (z4 ac P aj A) ?_
  intro K L aZ V aD aE aF
  have aG:=(I.extk A).ext V (fun k hk=>nT (Nat.le_refl e.heap.size) (uI J k hk).1)
  have am:=(gc T A)
  have aH:=NeS.app ak aE am
  refine aw (vs K ((IL (a.take k) ((FC d b (a.length:Int)).take k))++([(((FC d b (a.length:Int)).getD k 0)^^^(a.getD k 0))]:List UInt8)).length L) ?_
  refine uD<|uB<|rg<|uG ?_
  refine ar (((k:Nat):Int)+1) wN ?_
  refine mw (vi (((k:Nat):Int)+1)) ?_
  refine uD ?_
  have aI:=(tC am V (fun g hg hlt hk=>NeS.no (NeS.symm ak) hg hk))
  have an:((FC d b (a.length:Int)):List UInt8)=(FC d b (a.length:Int)):=by rfl
  have W:((FC d b (a.length:Int))).length=((FC d b (a.length:Int))).length:=by rw [← an];try (first|rfl|simp only [List.length_set]|simp)
  have ao:(((IL (a.take k) ((FC d b (a.length:Int)).take k))++([(((FC d b (a.length:Int)).getD k 0)^^^(a.getD k 0))]:List UInt8)):List UInt8)=IL (a.take (k+1)) ((FC d b (a.length:Int)).take (k+1)):=by exact Po (by omega) (by omega)
  refine FX (w0:=a7) [(2,(vs i a.length j)),(6,(vs none 0 0)),(7,(.slice K (IL (a.take (k+1)) ((FC d b (a.length:Int)).take (k+1))).length L)),(28,(.slice q ((FC d b (a.length:Int))).length s)),(29,(vi ((FC d b (a.length:Int)).length:Int))),(30,(vi (((k+1):Nat):Int)))] ?_ ?_ ?_
  · exact ⟨rfl,rfl,(cA (fun l:List UInt8=>Value.slice K l.length L) ao),(cA (fun m:Nat=>Value.slice q m s) W),rfl,(cA (Value.int .i64) (show ((((k:Nat):Int)+1):Int)=(((k+1):Nat):Int) by omega)),trivial⟩
  · exact fun u=>⟨(k+1),u,q,s,K,L,rfl,aG,((((Ch.refl (fun k=>e.heap.size≤k) O).ext aj (fun k hk=>hk)).extk A).ext V (fun k hk=>nT (Nat.le_refl e.heap.size) (uI J k hk).1)),(by omega),⟨(by rw [← W,← an];exact aI),(by rw [← W];first|exact a8|(simp only [List.length_append,List.length_take,List.length_replicate];omega))⟩,(ao ▸ ⟨aD,aF⟩),aH⟩
  · show a.length - ((((k+1):Nat):Int)).toNat < a.length - (((k:Nat):Int)).toNat;omega

def uL (b:Int) (a:PFrame):(List UInt8):=bif (GC b) then (bif (GF a.Kind) then (bif (i_FrameOk a) then ((uN [([116]:List UInt8),(FK b a.Sn a.Epoch a.Seq),([(by8 a.Kind)]:List UInt8),a.Body])) else ([])) else ([])) else ([])
theorem Li (x:World) (b:Int) (V:Value) (a:PFrame) (ax:MH x V a) :Fn Tryz.prog 83 #[(vi b),V] x (fun v H=>Keep x H∧JF H x.heap.size v (uL b a)):=by
 obtain ⟨i,M,y,A,N,O,P,Q,o,p,R,S,rfl,ay,az,W,X,a0,a1,a2,a3,Y,Z,a4,a5⟩:=ax
 refine FI (n:=36) [(vi b),(va (HH a i M y A N O P Q o p R S))] Tryz.func83 rfl rfl ?_
 refine sr<|bx (HH a i M y A N O P Q o p R S) wN ?_
 intro g I bn bo aa a6
 have ab:=(Ch.base x).extk aa
 refine aw (vs none 0 0) ?_
 refine n4<|jT1 [(0,(vi b)),(3,(vp g 0)),(4,(vs none 0 0))] (uL b a=[]) ?_ fun T=>?_
 ·intro a7 ac a8 bp
  have a9:=ab.extk a8
  refine sr<|aw (vs none 0 0) ?_
  refine n1<|rt (vs none 0 0) ?_
  refine ⟨a9.keep0,?_⟩
  rw [a7]
  exact ⟨_,_,rfl,(by first|exact FL _ _ _ _|exact OLv.nil _ _ _ _),(by simp),⟨trivial,trivial⟩⟩
 refine mw (vi b) ?_
 refine cl wN (KN I b) ?_
 rintro _ ac ⟨s,rfl⟩
 refine pu (vb (!(GC b))) wN ?_
 refine mw (vb (!(GC b))) ?_
 rcases bf (GC b) with f|f
 ·have bq:=KJ f
  iterate 4 refine sk (cA not f) ?_
  refine pk (vb true) wN (cA not f) ?_
  refine mw (vb true) ?_
  iterate 3 refine sk T1 ?_
  refine pk (vb true) wN T1 ?_
  refine n2<|ct T1 ?_
  have aA:uL b a=[]:=by simp only [uL,f,cond_true,cond_false]
  exact wj (T aA _ s)
 have br:=Kf f
 refine pu (vp g 0) (wS (cA not f)) ?_
 have ad:=(a6.kp s)
 refine ld (vi a.Kind) (wS (cA not f)) tE ad ?_
 refine cl (wS (cA not f)) (LB ac a.Kind) ?_
 rintro _ aB ⟨B,rfl⟩
 have q:=(ab.extk s).extk B
 refine pu (vb (!(GF a.Kind))) (wS (cA not f)) ?_
 refine pf (vb (!(GF a.Kind))) wN (cA not f) ?_
 refine mw (vb (!(GF a.Kind))) ?_
 rcases bf (GF a.Kind) with j|j
 ·iterate 3 refine sk (cA not j) ?_
  refine pk (vb true) wN (cA not j) ?_
  refine n2<|ct T1 ?_
  have aC:uL b a=[]:=by simp only [uL,f,j,cond_true,cond_false]
  exact wj (T aC _ (s.trans B))
 have t:=(ad.kp B)
 refine lN (HH a i M y A N O P Q o p R S) (wS (cA not j)) Gg FD t ?_
 refine cl (wS (cA not j)) (LX aB _ a (IN (ay.from0 q) az (W.from0 q) X (a0.from0 q) a1 (a2.from0 q) a3 (Y.from0 q) Z (a4.from0 q) a5)) ?_
 rintro _ J ⟨l,rfl⟩
 have ae:=q.extk l
 refine pu (vb (!(i_FrameOk a))) (wS (cA not j)) ?_
 refine pf (vb (!(i_FrameOk a))) wN (cA not j) ?_
 refine n2 ?_
 rcases bf (i_FrameOk a) with u|u
 ·refine ct (cA not u) ?_
  have aD:uL b a=[]:=by simp only [uL,f,j,u,cond_true,cond_false]
  exact wj (T aD _ ((s.trans B).trans l))
 have bu:=LQ u
 refine cf (cA not u)<|FR<|rg<|uK<|Ga ([(19,[],[],(fun _ v w=>∃ (i:Option Addr) (r:Nat),v=.slice i ([116]:List UInt8).length r∧w.ownsRow J.heap.size 5 1 (.slice i ([116]:List UInt8).length r) ([116]:List UInt8).length (([116]:List UInt8).map bV)∧([116]:List UInt8).length≤1073741824∧Aps [(i,r)])),(20,[],[],(fun _ v _=>v=(vi b))),(21,[],[],(fun _ v _=>v=(vp g 3))),(22,[],[2],(fun _ v _=>v=(vs y a.Sn.length A))),(23,[],[],(fun _ v _=>v=(vp g 7))),(24,[],[4],(fun _ v _=>v=(vi a.Epoch))),(25,[],[],(fun _ v _=>v=(vp g 8))),(26,[],[6],(fun _ v _=>v=(vi a.Seq))),(27,[],[1,2,3,4,5,6,7],(fun _ v w=>JF w J.heap.size v (FK b a.Sn a.Epoch a.Seq))),(28,[],[],(fun _ v _=>v=(vp g 0))),(29,[],[9],(fun _ v _=>v=(vi a.Kind))),(30,[],[9,10],(fun _ v _=>v=(v8 ((by8 a.Kind).toNat:Int)))),(31,[],[9,10,11],(fun _ v w=>∃ (i:Option Addr) (r:Nat),v=.slice i ([(by8 a.Kind)]:List UInt8).length r∧w.ownsRow J.heap.size 5 1 (.slice i ([(by8 a.Kind)]:List UInt8).length r) ([(by8 a.Kind)]:List UInt8).length (([(by8 a.Kind)]:List UInt8).map bV)∧([(by8 a.Kind)]:List UInt8).length≤1073741824∧Aps [(i,r)])),(32,[],[],(fun _ v _=>v=(vp g 9))),(33,[],[13],(fun _ v _=>v=(vs o a.Body.length p)))]:GV) (fun _ H=>Keep J H) [] GU rfl (by kernel_rfl) (by kernel_rfl) ?_ (fun _ _ h=>h) (fun _ _ _ _ h _ k=>h.trans k) trivial ?_ ?_ ?_
 ·exact ⟨(fun e v w I h hk=>by obtain ⟨C,D,he,E,F,hap⟩:=h;exact ⟨C,D,he,gc E hk,F,hap⟩),hE,⟨hV,hE,⟨hV,hE,⟨hV,hE,⟨hV,hE,⟨hV,hE,⟨hV,hE,⟨hV,hE,⟨(fun e v w I h hk=>by obtain ⟨C,D,he,E,F,hap⟩:=h;exact ⟨C,D,he,gc E hk,F,hap⟩),hE,⟨hV,hE,⟨hV,hE,⟨hV,hE,⟨(fun e v w I h hk=>by obtain ⟨C,D,he,E,F,hap⟩:=h;exact ⟨C,D,he,gc E hk,F,hap⟩),hE,⟨hV,hE,⟨hV,hE,trivial⟩⟩⟩⟩⟩⟩⟩⟩⟩⟩⟩⟩⟩⟩⟩
 ·exact trivial
 ·refine ⟨?_,⟨?_,⟨?_,⟨?_,⟨?_,⟨?_,⟨?_,⟨?_,⟨?_,⟨?_,⟨?_,⟨?_,⟨?_,⟨?_,⟨?_,trivial⟩⟩⟩⟩⟩⟩⟩⟩⟩⟩⟩⟩⟩⟩⟩
  ·intro _ d aE _
   iterate 15 intro _
   refine sw<|ltB ([116]:List UInt8) wN tD ?_
   intro bv bw K aF aG
   exact FY aF ⟨_,_,rfl,(tA aG aE.size),(by simp),⟨trivial,trivial⟩⟩
  ·intro _ d bz _
   iterate 15 intro _
   refine sw<|mw (vi b) ?_
   exact f1
  ·intro _ d b0 _
   iterate 15 intro _
   refine sw<|pu (vp g 3) wN ?_
   exact f1
  ·intro _ d aH _
   rintro _ _ _ rfl _ _ _ _ _ _ _ _ _ _ _ _
   refine sw ?_
   have aI:=((t.kp l).kp aH)
   refine ld (vs y a.Sn.length A) wN uH aI ?_
   exact f1
  ·intro _ d b1 _
   iterate 15 intro _
   refine sw<|pu (vp g 7) wN ?_
   exact f1
  ·intro _ d aJ _
   rintro _ _ _ _ _ rfl _ _ _ _ _ _ _ _ _ _
   refine sw ?_
   have aK:=((t.kp l).kp aJ)
   refine ld (vi a.Epoch) wN tE aK ?_
   exact f1
  ·intro _ d b2 _
   iterate 15 intro _
   refine sw<|pu (vp g 8) wN ?_
   exact f1
  ·intro _ d aL _
   rintro _ _ _ _ _ _ _ rfl _ _ _ _ _ _ _ _
   refine sw ?_
   have aM:=((t.kp l).kp aL)
   refine ld (vi a.Seq) wN tE aM ?_
   exact f1
  ·intro _ d af _
   have aN:=ae.extk af
   rintro _
   iterate 7 rintro _ rfl
   intro _ _ _ _ _ _ _
   refine sw<|cl wN (Nf d b _ a.Sn (FV (W.from0 aN) X) a.Epoch a.Seq) ?_
   rintro _ K ⟨aO,⟨b3,b4,rfl,aP,aQ,aR⟩⟩
   have b5:=Hw b a.Sn a.Epoch a.Seq
   exact FY aO ⟨_,_,rfl,(tA aP af.size),aQ,aR⟩
  ·intro _ d b6 _
   iterate 15 intro _
   refine sw<|pu (vp g 0) wN ?_
   exact f1
  ·intro _ d aS _
   rintro _ _ _ _ _ _ _ _ _ _ rfl _ _ _ _ _
   refine sw ?_
   have aT:=((t.kp l).kp aS)
   refine ld (vi a.Kind) wN tE aT ?_
   exact f1
  ·intro _ d b7 _
   rintro _ _ _ _ _ _ _ _ _ _ rfl _ rfl _ _ _ _
   refine sw<|IU a.Kind wN rfl rfl (by kernel_rfl) ?_
   exact f1
  ·intro _ d aU _
   rintro _ _ _ _ _ _ _ _ _ _ rfl _ rfl _ rfl _ _ _
   refine sw<|ltB ([(by8 a.Kind)]:List UInt8) wN tD ?_
   intro b8 b9 K aV aW
   exact FY aV ⟨_,_,rfl,(tA aW aU.size),(by simp),⟨trivial,trivial⟩⟩
  ·intro _ d bA _
   iterate 15 intro _
   refine sw<|pu (vp g 9) wN ?_
   exact f1
  ·intro _ d aX _
   (iterate 14 intro _);rintro rfl _
   refine sw ?_
   have aY:=((t.kp l).kp aX)
   refine ld (vs o a.Body.length p) wN uH aY ?_
   exact f1
 ·intro _ d ah
  rintro _ ⟨ai,aj,rfl,aZ,ba,-⟩
  iterate 7 rintro _ rfl
  rintro _ ⟨ak,am,rfl,bb,bc,bB⟩
  have bC:=Hw b a.Sn a.Epoch a.Seq
  rintro _ rfl _ rfl _ rfl _ ⟨an,ao,rfl,bd,be,-⟩ _ rfl _ rfl
  refine sw<|JS [(vs ai ([116]:List UInt8).length aj),(vs ak (FK b a.Sn a.Epoch a.Seq).length am),(vs an ([(by8 a.Kind)]:List UInt8).length ao),(vs o a.Body.length p)] wN rfl rfl IW (m:=4) rfl (by simp only [maxLen];omega) (fun w=>by kernel_rfl) ?_
  intro bD K G ap
  obtain ⟨bE,bF,rfl⟩:=Hg ap
  have aq:=(ae.extk ah).extk G
  have bg:=(gc bd G)
  have bh:=(gc bb G)
  have bi:=(gc aZ G)
  refine cl wN (JN K _ [([116]:List UInt8),(FK b a.Sn a.Epoch a.Seq),([(by8 a.Kind)]:List UInt8),a.Body] (LO (RLv.mk (L:=Nj) [(([116]:List UInt8),[(ai,aj)]),((FK b a.Sn a.Epoch a.Seq),[(ak,am)]),(([(by8 a.Kind)]:List UInt8),[(an,ao)]),(a.Body,[(o,p)])] (Rd.of_own ap) rfl ⟨⟨⟨(Rd.of_own bi),ba⟩,trivial⟩,⟨⟨⟨(Rd.of_own bh),bc⟩,trivial⟩,⟨⟨⟨(Rd.of_own bg),be⟩,trivial⟩,⟨⟨⟨(Y.from0 aq),Z⟩,trivial⟩,trivial⟩⟩⟩⟩ (by first|decide|exact Nat.le_of_ble_eq_true rfl)) (by first|decide|exact Nat.le_of_ble_eq_true rfl)) (by first|omega|(rw [HN];omega)|(rw [HN];simp only [List.length_cons,List.length_nil,Gz];omega)|(rw [JK];simp only [List.length_cons,List.length_nil,Gz];omega)|(simp only [uN,List.flatten_cons,List.flatten_nil,List.length_append,List.length_cons,List.length_nil,Gz];omega))) ?_
  rintro _ bG ⟨bj,⟨au,av,rfl,bk,bl,bH⟩⟩
  have bm:=aq.extk bj
  have bI:=(show (uN [([116]:List UInt8),(FK b a.Sn a.Epoch a.Seq),([(by8 a.Kind)]:List UInt8),a.Body]).length=1+(FK b a.Sn a.Epoch a.Seq).length+1+a.Body.length by simp only [uN,List.flatten_cons,List.flatten_nil,List.length_append,List.length_cons,List.length_nil];omega)
  refine aw (vs au (uN [([116]:List UInt8),(FK b a.Sn a.Epoch a.Seq),([(by8 a.Kind)]:List UInt8),a.Body]).length av) ?_
  refine n3<|rt (vs au (uN [([116]:List UInt8),(FK b a.Sn a.Epoch a.Seq),([(by8 a.Kind)]:List UInt8),a.Body]).length av) ?_
  refine ⟨bm.keep0,?_⟩
  simp only [uL,f,j,u,cond_true,cond_false]
  exact ⟨_,_,rfl,(tA bk (z6 aa s B l ah G)),bl,⟨trivial,trivial⟩⟩

theorem Uz (d:World) (i:Value) (a:List UInt8) (u:HP d i a) (j:Value) (b:List UInt8) (w:HP d j b) :Fn Tryz.prog 121 #[i,j] d (fun v k=>Keep d k∧JF k d.heap.size v (JQ a b)):=by
 obtain ⟨l,m,rfl,x,y⟩:=u
 obtain ⟨o,p,rfl,A,B⟩:=w
 refine FI (n:=15) [(vs l a.length m),(vs o b.length p)] Tryz.func121 rfl rfl ?_
 refine sr<|aw (vs none 0 0) ?_
 refine nx<|mw (vs l a.length m) ?_
 refine mw (vs o b.length p) ?_
 refine cl wN (SW d _ a (FV x y) _ b (FV A B)) ?_
 rintro _ C ⟨q,⟨f,g,rfl,h,D,M⟩⟩
 have r:=(Ch.base d).extk q
 have N:=Km a b
 refine aw (vs f (Iu a b).length g) ?_
 refine n4<|mw (vs f (Iu a b).length g) ?_
 refine ln wN tD (Rd.of_own h) ?_
 refine pu (vb (decide (((Iu a b).length:Int)=0))) wN ?_
 refine n2 ?_
 rcases bt (decide (((Iu a b).length:Int)=0)) with e|e
 ·have O:=dT e
  refine ct e<|sr<|aw (vs none 0 0) ?_
  refine n1<|rt (vs none 0 0) ?_
  refine ⟨r.keep0,?_⟩
  have E:JQ a b=[]:=by first|exact OI (by omega)|rfl
  rw [E]
  exact ⟨_,_,rfl,(by first|exact FL _ _ _ _|exact OLv.nil _ _ _ _),(by simp),⟨trivial,trivial⟩⟩
 have P:=dF e
 refine cf e<|y1<|mw (vs f (Iu a b).length g) ?_
 refine slv ((Iu a b).take 16) 0 16 wN tD (Rd.of_own h) (by first|omega|(simp <;> omega)) (by first|omega|(simp <;> omega)) (by first|rfl|(simp;done)|(rw [List.take_of_length_le (by first|(simp;done)|(simp;omega))])) rfl rfl rfl rfl (.inl ⟨rfl,rfl⟩) (.inr ⟨_,_,_,rfl,rfl,by omega⟩) ?_
 have F:0≤16:=(by first|omega|(simp <;> omega))
 have G:16≤(Iu a b).length:=(by first|omega|(simp <;> omega))
 refine cl wN (IR C _ ((Iu a b).take 16) (FV (Rd.subV (x':=((Iu a b).take 16)) (Rd.of_own h) F G (by first|rfl|(simp;done)|(rw [List.take_of_length_le (by first|(simp;done)|(simp;omega))]))) (nT (by simp only [List.length_take,List.length_drop];omega) D))) ?_
 rintro _ Q ⟨H,⟨s,t,rfl,I,J,R⟩⟩
 have K:=r.extk H
 refine aw (vs s (((Iu a b).take 16)).length t) ?_
 refine n3<|rt (vs s (((Iu a b).take 16)).length t) ?_
 refine ⟨K.keep0,?_⟩
 have L:JQ a b=(((Iu a b).take 16)):=by first|exact OI (by omega)|rfl
 rw [L]
 exact ⟨_,_,rfl,(tA I q.size),J,⟨trivial,trivial⟩⟩

theorem Ph {w:World} {v:Value} {lo:Nat} (h:∃ (g:Nat) (a b d e f i j k l m o:Value),v=vp g 0∧lo≤g∧Blk w g 42 [a,b,d,e,f,i,j,k,l,m,o]):∃ (g:Nat) (u:Nat→Value),v=vp g 0∧lo≤g∧Blk w g 42 [u 0,u 1,u 2,u 3,u 4,u 5,u 6,u 7,u 8,u 9,u 10]:=by
  obtain ⟨g,a,b,d,e,f,i,j,k,l,m,o,p,q,r⟩:=h
  exact ⟨g,unL [a,b,d,e,f,i,j,k,l,m,o],p,q,r⟩
def UI (w:World) (lo:Nat) (v:Value) (x:(PFrame)×(Bool)):Prop:=∃ (a:Option Addr) (b:Nat) (d:Option Addr) (e:Nat) (f:Option Addr) (g:Nat) (h:Option Addr) (i:Nat) (j:Option Addr) (k:Nat) (l:Option Addr) (m:Nat),v=.tuple #[.agg #[.int .i64 x.1.Kind,.int .i64 x.1.Id,.slice a x.1.Cn.length b,.slice d x.1.Sn.length e,.int .i64 x.1.Tick,.slice f x.1.Cookie.length g,.slice h x.1.Proof.length i,.int .i64 x.1.Epoch,.int .i64 x.1.Seq,.slice j x.1.Body.length k,.slice l x.1.Tag.length m],.bool x.2]∧w.ownsRow lo 5 1 (.slice a x.1.Cn.length b) x.1.Cn.length (x.1.Cn.map bV)∧x.1.Cn.length≤1073741824∧w.ownsRow lo 5 1 (.slice d x.1.Sn.length e) x.1.Sn.length (x.1.Sn.map bV)∧x.1.Sn.length≤1073741824∧w.ownsRow lo 5 1 (.slice f x.1.Cookie.length g) x.1.Cookie.length (x.1.Cookie.map bV)∧x.1.Cookie.length≤1073741824∧w.ownsRow lo 5 1 (.slice h x.1.Proof.length i) x.1.Proof.length (x.1.Proof.map bV)∧x.1.Proof.length≤1073741824∧w.ownsRow lo 5 1 (.slice j x.1.Body.length k) x.1.Body.length (x.1.Body.map bV)∧x.1.Body.length≤1073741824∧w.ownsRow lo 5 1 (.slice l x.1.Tag.length m) x.1.Tag.length (x.1.Tag.map bV)∧x.1.Tag.length≤1073741824∧Aps [(a,b),(d,e),(f,g),(h,i),(j,k),(l,m)]
def He (e:List UInt8) (f:Int) (a:List UInt8) (b:Int) (d:Int) (g:Int) (h:List UInt8):(PFrame)×(Bool):=bif (decide ((e.length:Int)=32)) then (bif (GC f) then (bif (GF g) then (bif (i_FrameOk {Kind:=g,Id:=0,Cn:=[],Sn:=(a),Tick:=0,Cookie:=[],Proof:=[],Epoch:=b,Seq:=d,Body:=(h),Tag:=(List.replicate 16 (0:UInt8)):PFrame}) then (({Kind:=g,Id:=0,Cn:=[],Sn:=(a),Tick:=0,Cookie:=[],Proof:=[],Epoch:=b,Seq:=d,Body:=(Ia e (FK f a b d) h),Tag:=(JQ e (uL f {Kind:=g,Id:=0,Cn:=[],Sn:=(a),Tick:=0,Cookie:=[],Proof:=[],Epoch:=b,Seq:=d,Body:=(Ia e (FK f a b d) h),Tag:=(List.replicate 16 (0:UInt8)):PFrame})):PFrame},true)) else (({Kind:=0,Id:=0,Cn:=[],Sn:=[],Tick:=0,Cookie:=[],Proof:=[],Epoch:=0,Seq:=0,Body:=[],Tag:=[]:PFrame},false))) else (({Kind:=0,Id:=0,Cn:=[],Sn:=[],Tick:=0,Cookie:=[],Proof:=[],Epoch:=0,Seq:=0,Body:=[],Tag:=[]:PFrame},false))) else (({Kind:=0,Id:=0,Cn:=[],Sn:=[],Tick:=0,Cookie:=[],Proof:=[],Epoch:=0,Seq:=0,Body:=[],Tag:=[]:PFrame},false))) else (({Kind:=0,Id:=0,Cn:=[],Sn:=[],Tick:=0,Cookie:=[],Proof:=[],Epoch:=0,Seq:=0,Body:=[],Tag:=[]:PFrame},false))
theorem SV (I:World) (a5:Value) (i:List UInt8) (bi:HP I a5 i) (f:Int) (a6:Value) (a:List UInt8) (bj:HP I a6 a) (b:Int) (d:Int) (l:Int) (a7:Value) (j:List UInt8) (bk:HP I a7 j) :Fn Tryz.prog 93 #[a5,(vi f),a6,(vi b),(vi d),(vi l),a7] I (fun v aj=>Keep I aj∧UI aj I.heap.size v (He i f a b d l j)):=by
 obtain ⟨F,S,rfl,ao,a8⟩:=bi
 obtain ⟨T,V,rfl,a9,aA⟩:=bj
 obtain ⟨W,X,rfl,aB,aC⟩:=bk
 refine FI (n:=61) [(vs F i.length S),(vi f),(vs T a.length V),(vi b),(vi d),(vi l),(vs W j.length X)] Tryz.func93 rfl rfl ?_
 refine sr<|al JR wN JG ?_
 intro bl G aD Y J aE
 have ap:=(Ch.base I).extk J
 refine aw (vb false) ?_
 refine uD<|rg<|uK<|Ga ([(17,[],[],(fun _ v _=>v=(vi l))),(18,[],[],(fun _ v _=>v=(vs T a.length V))),(19,[],[1],(fun _ v w=>JF w G.heap.size v a)),(20,[],[],(fun _ v _=>v=(vi b))),(21,[],[],(fun _ v _=>v=(vi d))),(22,[],[],(fun _ v _=>v=(vs W j.length X))),(23,[19],[1,2,5],(fun e v w=>Rt w G.heap.size v j (fun bm=>Ap (sp (e 19)) bm))),(24,[],[],(fun _ v w=>∃ (F:Option Addr) (aq:Nat),v=.slice F (List.replicate 16 (0:UInt8)).length aq∧w.ownsRow G.heap.size 5 1 (.slice F (List.replicate 16 (0:UInt8)).length aq) (List.replicate 16 (0:UInt8)).length ((List.replicate 16 (0:UInt8)).map bV)∧(List.replicate 16 (0:UInt8)).length≤1073741824∧Aps [(F,aq)])),(25,[19,23,24],[0,1,2,3,4,5,6,7],(fun e v _=>v=(.agg #[(vi l),(vi 0),(vs none 0 0),(e 19),(vi 0),(vs none 0 0),(vs none 0 0),(vi b),(vi d),(e 23),(e 24)]))),(16,[],[],(fun _ v w=>∃ (g:Nat) (aF aG aH aI aJ aK aL aM aN aO aP:Value),v=vp g 0∧G.heap.size≤g∧Blk w g 42 [aF,aG,aH,aI,aJ,aK,aL,aM,aN,aO,aP]))]:GV) (fun _ aj=>Keep G aj) [] GU rfl (by kernel_rfl) (by kernel_rfl) ?_ (fun _ _ h=>h) (fun _ _ _ _ h _ k=>h.trans k) trivial ?_ ?_ ?_
 ·exact ⟨hV,hE,⟨hV,hE,⟨(fun e v w G h hk=>by obtain ⟨Z,aa,he,ab,ac,hap⟩:=h;exact ⟨Z,aa,he,gc ab hk,ac,hap⟩),hE,⟨hV,hE,⟨hV,hE,⟨hV,hE,⟨(fun e v w G h hk=>by obtain ⟨Z,aa,he,ab,ac,hap,hx⟩:=h;exact ⟨Z,aa,he,gc ab hk,ac,hap,hx⟩),(fun bn bo v w hx h=>by have au:=hx 19 (by simp);simp only [au] at h;exact h),⟨(fun e v w G h hk=>by obtain ⟨Z,aa,he,ab,ac,hap⟩:=h;exact ⟨Z,aa,he,gc ab hk,ac,hap⟩),hE,⟨hV,(fun bn bo v w hx h=>by have au:=hx 19 (by simp);have bp:=hx 23 (by simp);have bq:=hx 24 (by simp);simp only [au,bp,bq] at h;exact h),⟨(fun e v w G h hk=>by obtain ⟨g,aF,aG,aH,aI,aJ,aK,aL,aM,aN,aO,aP,he,hle,hb⟩:=h;exact ⟨g,_,_,_,_,_,_,_,_,_,_,_,he,hle,hb.kp hk⟩),hE,trivial⟩⟩⟩⟩⟩⟩⟩⟩⟩⟩
 ·exact trivial
 ·refine ⟨?_,⟨?_,⟨?_,⟨?_,⟨?_,⟨?_,⟨?_,⟨?_,⟨?_,⟨?_,trivial⟩⟩⟩⟩⟩⟩⟩⟩⟩⟩
  ·intro _ u cu _
   rintro _ _ _ _ _ _ _ _ _ _
   refine sw<|mw (vi l) ?_
   exact f1
  ·intro _ u cv _
   rintro _ _ _ _ _ _ _ _ _ _
   refine sw<|mw (vs T a.length V) ?_
   exact f1
  ·intro _ u aQ _
   have br:=ap.extk aQ
   rintro _ _ rfl _ _ _ _ _ _ _ _
   refine sw<|cl wN (IR u _ a (FV (a9.from0 br) aA)) ?_
   rintro _ ad ⟨bu,⟨cw,cx,rfl,bv,bw,bz⟩⟩
   exact FY bu ⟨_,_,rfl,(tA bv aQ.size),bw,bz⟩
  ·intro _ u cy _
   rintro _ _ _ _ _ _ _ _ _ _
   refine sw<|mw (vi b) ?_
   exact f1
  ·intro _ u cz _
   rintro _ _ _ _ _ _ _ _ _ _
   refine sw<|mw (vi d) ?_
   exact f1
  ·intro _ u c0 _
   rintro _ _ _ _ _ _ _ _ _ _
   refine sw<|mw (vs W j.length X) ?_
   exact f1
  ·intro _ u aR _
   have b0:=ap.extk aR
   rintro _ _ rfl _ ⟨c1,c2,rfl,b1,_⟩ _ _ _ rfl _ _ _ _
   refine sw<|cl wN (IR u _ j (FV (aB.from0 b0) aC)) ?_
   rintro _ ad ⟨b2,⟨c3,c4,rfl,aS,b3,b4⟩⟩
   exact FY b2 ⟨_,_,rfl,(tA aS aR.size),b3,b4,(Ap.lt b1 aS (Nat.le_refl _))⟩
  ·intro _ u b5 _
   rintro _ _ _ _ _ _ _ _ _ _
   refine sw<|RF (16) wN rfl rfl rfl tD 16 rfl (by omega) (by first|(simp only [List.length_append,List.length_cons,List.length_nil,List.length_replicate,List.length_take,List.length_drop];omega)|omega) (by first|(simp only [List.length_append,List.length_cons,List.length_nil,List.length_replicate,List.length_take,List.length_drop];omega)|omega) ?_
   intro c5 c6 ad b6 b7
   exact FY b6 ⟨_,_,rfl,(tA b7 b5.size),(by rw [List.length_replicate];first|assumption|omega),⟨trivial,trivial⟩⟩
  ·intro _ u c7 _
   rintro _ rfl _ rfl _ ⟨b8,b9,rfl,_⟩ _ rfl _ rfl _ rfl _ ⟨bA,bB,rfl,_⟩ _ ⟨bC,bD,rfl,c8,c9,-⟩ _ _
   refine sw<|pu (va [(vi l),(vi 0),(vs none 0 0),(vs b8 (a).length b9),(vi 0),(vs none 0 0),(vs none 0 0),(vi b),(vi d),(vs bA (j).length bB),(vs bC (List.replicate 16 (0:UInt8)).length bD)]) wN ?_
   exact f1
  ·intro _ u bE _
   rintro _ _ _ _ _ _ _ _ _ _
   refine sw<|al JR wN JG ?_
   intro cC ad bF cD bG bH
   exact FY bG ⟨_,_,_,_,_,_,_,_,_,_,_,_,rfl,(nT bE.size bF),bH⟩
 ·intro _ u K
  rintro _ rfl _ rfl _ ⟨x,y,rfl,ak,av,cE⟩ _ rfl _ rfl _ rfl _ ⟨ax,ay,rfl,bI,bJ,_⟩ _ ⟨O,P,rfl,bK,aT,-⟩ _ rfl _ bL
  obtain ⟨az,cF,rfl,ae,L⟩:=Ph bL
  refine sw<|sv [(vi l),(vi 0),(vs none 0 0),(vs x (a).length y),(vi 0),(vs none 0 0),(vs none 0 0),(vi b),(vi d),(vs ax (j).length ay),(vs O (List.replicate 16 (0:UInt8)).length P)] wN FD L ?_
  intro ad p bM cG
  have a0:=(ap.extk K).ext p (fun k hk=>by subst hk;exact nT J.size ae)
  refine n4<|jT1 [(0,(vs F i.length S)),(1,(vi f)),(2,(vs T a.length V)),(3,(vi b)),(4,(vi d)),(6,(vs W j.length X)),(14,(vp bl 0)),(15,(vb false)),(16,(vp az 0))] (He i f a b d l j=({Kind:=0,Id:=0,Cn:=[],Sn:=[],Tick:=0,Cookie:=[],Proof:=[],Epoch:=0,Seq:=0,Body:=[],Tag:=[]:PFrame},false)) ?_ fun am=>?_
  ·intro bN aU aV cH
   refine sr<|pu (va JR) wN ?_
   have bO:=(((aE.kp K).ch p (nN (nL Y (ae)))).kp aV)
   refine sv JR wN FD bO ?_
   intro a1 bP bQ cI
   have bR:=(a0.extk aV).ext bP (fun k hk=>by subst hk;exact aD)
   refine aw (vb false) ?_
   refine n1<|Jv (.inl rfl) (va JR) (vb false) rfl (HL JR rfl bQ Gg FD) rfl ?_
   refine ⟨bR.keep0,?_⟩
   rw [bN]
   exact ⟨_,_,_,_,_,_,_,_,_,_,_,_,rfl,(by first|exact FL _ _ _ _|exact OLv.nil _ _ _ _),(by simp),(by first|exact FL _ _ _ _|exact OLv.nil _ _ _ _),(by simp),(by first|exact FL _ _ _ _|exact OLv.nil _ _ _ _),(by simp),(by first|exact FL _ _ _ _|exact OLv.nil _ _ _ _),(by simp),(by first|exact FL _ _ _ _|exact OLv.nil _ _ _ _),(by simp),(by first|exact FL _ _ _ _|exact OLv.nil _ _ _ _),(by simp),⟨⟨(Ap.nl _),⟨(Ap.nl _),⟨(Ap.nl _),⟨(Ap.nl _),⟨(Ap.nl _),trivial⟩⟩⟩⟩⟩,⟨⟨(Ap.nl _),⟨(Ap.nl _),⟨(Ap.nl _),⟨(Ap.nl _),trivial⟩⟩⟩⟩,⟨⟨(Ap.nl _),⟨(Ap.nl _),⟨(Ap.nl _),trivial⟩⟩⟩,⟨⟨(Ap.nl _),⟨(Ap.nl _),trivial⟩⟩,⟨⟨(Ap.nl _),trivial⟩,⟨trivial,trivial⟩⟩⟩⟩⟩⟩⟩
  refine mw (vs F i.length S) ?_
  refine ln wN tD (ao.from0 a0) ?_
  refine pu (vb (!(decide ((i.length:Int)=32)))) wN ?_
  refine mw (vb (!(decide ((i.length:Int)=32)))) ?_
  rcases bf (decide ((i.length:Int)=32)) with r|r
  ·have cJ:=dF r
   iterate 3 refine sk (cA not r) ?_
   refine pk (vb true) wN (cA not r) ?_
   refine mw (vb true) ?_
   iterate 3 refine sk T1 ?_
   refine pk (vb true) wN T1 ?_
   refine mw (vb true) ?_
   iterate 3 refine sk T1 ?_
   refine pk (vb true) wN T1 ?_
   refine n2<|ct T1 ?_
   have bS:He i f a b d l j=({Kind:=0,Id:=0,Cn:=[],Sn:=[],Tick:=0,Cookie:=[],Proof:=[],Epoch:=0,Seq:=0,Body:=[],Tag:=[]:PFrame},false):=by simp only [He,r,cond_true,cond_false]
   exact wj (am bS _ (Ch.refl _ _))
  have cK:=dT r
  refine mv (vi f) (wS (cA not r)) ?_
  refine cl (wS (cA not r)) (KN ad f) ?_
  rintro _ aU ⟨m,rfl⟩
  refine pu (vb (!(GC f))) (wS (cA not r)) ?_
  refine pf (vb (!(GC f))) wN (cA not r) ?_
  refine mw (vb (!(GC f))) ?_
  rcases bf (GC f) with t|t
  ·have cL:=KJ t
   iterate 3 refine sk (cA not t) ?_
   refine pk (vb true) wN (cA not t) ?_
   refine mw (vb true) ?_
   iterate 3 refine sk T1 ?_
   refine pk (vb true) wN T1 ?_
   refine n2<|ct T1 ?_
   have bT:He i f a b d l j=({Kind:=0,Id:=0,Cn:=[],Sn:=[],Tick:=0,Cookie:=[],Proof:=[],Epoch:=0,Seq:=0,Body:=[],Tag:=[]:PFrame},false):=by simp only [He,r,t,cond_true,cond_false]
   exact wj (am bT _ m)
  have cM:=Kf t
  refine mv (vi l) (wS (cA not t)) ?_
  refine cl (wS (cA not t)) (LB aU l) ?_
  rintro _ a1 ⟨o,rfl⟩
  refine pu (vb (!(GF l))) (wS (cA not t)) ?_
  refine pf (vb (!(GF l))) wN (cA not t) ?_
  refine mw (vb (!(GF l))) ?_
  rcases bf (GF l) with A|A
  ·iterate 3 refine sk (cA not A) ?_
   refine pk (vb true) wN (cA not A) ?_
   refine n2<|ct T1 ?_
   have bU:He i f a b d l j=({Kind:=0,Id:=0,Cn:=[],Sn:=[],Tick:=0,Cookie:=[],Proof:=[],Epoch:=0,Seq:=0,Body:=[],Tag:=[]:PFrame},false):=by simp only [He,r,t,A,cond_true,cond_false]
   exact wj (am bU _ (m.trans o))
  have aW:=((bM.kp m).kp o)
  refine lN [(vi l),(vi 0),(vs none 0 0),(vs x (a).length y),(vi 0),(vs none 0 0),(vs none 0 0),(vi b),(vi d),(vs ax (j).length ay),(vs O (List.replicate 16 (0:UInt8)).length P)] (wS (cA not A)) Gg FD aW ?_
  have aX:=(gc (gc (FN ak L (by decide) p) m) o)
  have bW:=(gc (gc (FN bI L (by decide) p) m) o)
  have aY:=(gc (gc (FN bK L (by decide) p) m) o)
  refine cl (wS (cA not A)) (LX a1 _ _ (show MH a1 (va [(vi l),(vi 0),(vs none 0 0),(vs x (a).length y),(vi 0),(vs none 0 0),(vs none 0 0),(vi b),(vi d),(vs ax (j).length ay),(vs O (List.replicate 16 (0:UInt8)).length P)]) {Kind:=l,Id:=0,Cn:=[],Sn:=(a),Tick:=0,Cookie:=[],Proof:=[],Epoch:=b,Seq:=d,Body:=(j),Tag:=(List.replicate 16 (0:UInt8)):PFrame} from ⟨_,_,_,_,_,_,_,_,_,_,_,_,rfl,(Rd.nil _ _),(by simp),(Rd.of_own aX),av,(Rd.nil _ _),(by simp),(Rd.nil _ _),(by simp),(Rd.of_own bW),bJ,(Rd.of_own aY),aT⟩)) ?_
  rintro _ bX ⟨q,rfl⟩
  have aZ:=((a0.extk m).extk o).extk q
  refine pu (vb (!(i_FrameOk {Kind:=l,Id:=0,Cn:=[],Sn:=(a),Tick:=0,Cookie:=[],Proof:=[],Epoch:=b,Seq:=d,Body:=(j),Tag:=(List.replicate 16 (0:UInt8)):PFrame}))) (wS (cA not A)) ?_
  refine pf (vb (!(i_FrameOk {Kind:=l,Id:=0,Cn:=[],Sn:=(a),Tick:=0,Cookie:=[],Proof:=[],Epoch:=b,Seq:=d,Body:=(j),Tag:=(List.replicate 16 (0:UInt8)):PFrame}))) wN (cA not A) ?_
  refine n2 ?_
  rcases bf (i_FrameOk {Kind:=l,Id:=0,Cn:=[],Sn:=(a),Tick:=0,Cookie:=[],Proof:=[],Epoch:=b,Seq:=d,Body:=(j),Tag:=(List.replicate 16 (0:UInt8)):PFrame}) with Q|Q
  ·refine ct (cA not Q) ?_
   have bY:He i f a b d l j=({Kind:=0,Id:=0,Cn:=[],Sn:=[],Tick:=0,Cookie:=[],Proof:=[],Epoch:=0,Seq:=0,Body:=[],Tag:=[]:PFrame},false):=by simp only [He,r,t,A,Q,cond_true,cond_false]
   exact wj (am bY _ ((m.trans o).trans q))
  have cN:=LQ Q
  refine cf (cA not Q)<|y1<|mw (vs F i.length S) ?_
  refine mw (vi f) ?_
  refine mw (vs T a.length V) ?_
  refine mw (vi b) ?_
  refine mw (vi d) ?_
  refine cl wN (Nf bX f _ a (FV (a9.from0 aZ) aA) b d) ?_
  rintro _ bZ ⟨s,⟨cO,cP,rfl,ca,cb,cQ⟩⟩
  have a2:=aZ.extk s
  have cR:=Hw f a b d
  refine mw (vs W j.length X) ?_
  refine cl wN (UA bZ _ i (FV (ao.from0 a2) a8) _ (FK f a b d) (FV (Rd.of_own ca) cb) _ j (FV (aB.from0 a2) aC)) ?_
  rintro _ cS ⟨H,⟨B,C,rfl,R,ba,cT⟩⟩
  have cU:=KG i (FK f a b d) j
  refine pu (vp az 9) wN ?_
  have a3:=(((aW.kp q).kp s).kp H)
  refine st (vs B (Ia i (FK f a b d) j).length C) [(vs B (Ia i (FK f a b d) j).length C)] [(vi l),(vi 0),(vs none 0 0),(vs x (a).length y),(vi 0),(vs none 0 0),(vs none 0 0),(vi b),(vi d),(vs B (Ia i (FK f a b d) j).length C),(vs O (List.replicate 16 (0:UInt8)).length P)] wN GY a3 ?_
  intro bb D bc cV
  have cc:=(a2.extk H).ext D (fun k hk=>by subst hk;exact nT J.size ae)
  refine nx<|mw (vs F i.length S) ?_
  refine mw (vi f) ?_
  refine lN [(vi l),(vi 0),(vs none 0 0),(vs x (a).length y),(vi 0),(vs none 0 0),(vs none 0 0),(vi b),(vi d),(vs B (Ia i (FK f a b d) j).length C),(vs O (List.replicate 16 (0:UInt8)).length P)] wN Gg FD bc ?_
  have bd:=(FN (gc (gc (gc aX q) s) H) a3 (by decide) D)
  have be:=(tC R D (ne1 R (nL (Blk.lt L) (z5 p m o q s))))
  have cd:=(FN (gc (gc (gc aY q) s) H) a3 (by decide) D)
  refine cl wN (Li bb f _ _ (show MH bb (va [(vi l),(vi 0),(vs none 0 0),(vs x (a).length y),(vi 0),(vs none 0 0),(vs none 0 0),(vi b),(vi d),(vs B (Ia i (FK f a b d) j).length C),(vs O (List.replicate 16 (0:UInt8)).length P)]) {Kind:=l,Id:=0,Cn:=[],Sn:=(a),Tick:=0,Cookie:=[],Proof:=[],Epoch:=b,Seq:=d,Body:=(Ia i (FK f a b d) j),Tag:=(List.replicate 16 (0:UInt8)):PFrame} from ⟨_,_,_,_,_,_,_,_,_,_,_,_,rfl,(Rd.nil _ _),(by simp),(Rd.of_own bd),av,(Rd.nil _ _),(by simp),(Rd.nil _ _),(by simp),(Rd.of_own be),ba,(Rd.of_own cd),aT⟩)) ?_
  rintro _ ce ⟨E,⟨cW,cX,rfl,cg,ci,cY⟩⟩
  have bg:=cc.extk E
  refine cl wN (Uz ce _ i (FV (ao.from0 bg) a8) _ (uL f {Kind:=l,Id:=0,Cn:=[],Sn:=(a),Tick:=0,Cookie:=[],Proof:=[],Epoch:=b,Seq:=d,Body:=(Ia i (FK f a b d) j),Tag:=(List.replicate 16 (0:UInt8)):PFrame}) (FV (Rd.of_own cg) ci)) ?_
  rintro _ cZ ⟨af,⟨M,N,rfl,ah,cj,da⟩⟩
  have db:=Ky i (uL f {Kind:=l,Id:=0,Cn:=[],Sn:=(a),Tick:=0,Cookie:=[],Proof:=[],Epoch:=b,Seq:=d,Body:=(Ia i (FK f a b d) j),Tag:=(List.replicate 16 (0:UInt8)):PFrame})
  refine pu (vp az 10) wN ?_
  have bh:=((bc.kp E).kp af)
  refine st (vs M (JQ i (uL f {Kind:=l,Id:=0,Cn:=[],Sn:=(a),Tick:=0,Cookie:=[],Proof:=[],Epoch:=b,Seq:=d,Body:=(Ia i (FK f a b d) j),Tag:=(List.replicate 16 (0:UInt8)):PFrame})).length N) [(vs M (JQ i (uL f {Kind:=l,Id:=0,Cn:=[],Sn:=(a),Tick:=0,Cookie:=[],Proof:=[],Epoch:=b,Seq:=d,Body:=(Ia i (FK f a b d) j),Tag:=(List.replicate 16 (0:UInt8)):PFrame})).length N)] [(vi l),(vi 0),(vs none 0 0),(vs x (a).length y),(vi 0),(vs none 0 0),(vs none 0 0),(vi b),(vi d),(vs B (Ia i (FK f a b d) j).length C),(vs M (JQ i (uL f {Kind:=l,Id:=0,Cn:=[],Sn:=(a),Tick:=0,Cookie:=[],Proof:=[],Epoch:=b,Seq:=d,Body:=(Ia i (FK f a b d) j),Tag:=(List.replicate 16 (0:UInt8)):PFrame})).length N)] wN GY bh ?_
  intro dc ai ck dd
  have cm:=(bg.extk af).ext ai (fun k hk=>by subst hk;exact nT J.size ae)
  refine nx<|lN [(vi l),(vi 0),(vs none 0 0),(vs x (a).length y),(vi 0),(vs none 0 0),(vs none 0 0),(vi b),(vi d),(vs B (Ia i (FK f a b d) j).length C),(vs M (JQ i (uL f {Kind:=l,Id:=0,Cn:=[],Sn:=(a),Tick:=0,Cookie:=[],Proof:=[],Epoch:=b,Seq:=d,Body:=(Ia i (FK f a b d) j),Tag:=(List.replicate 16 (0:UInt8)):PFrame})).length N)] wN Gg FD ck ?_
  have a4:=nL Y (ae)
  have cn:=(((((((((((aE.kp K).ch p (nN a4)).kp m).kp o).kp q).kp s).kp H).ch D (nN a4)).kp E).kp af).ch ai (nN a4))
  refine sv [(vi l),(vi 0),(vs none 0 0),(vs x (a).length y),(vi 0),(vs none 0 0),(vs none 0 0),(vi b),(vi d),(vs B (Ia i (FK f a b d) j).length C),(vs M (JQ i (uL f {Kind:=l,Id:=0,Cn:=[],Sn:=(a),Tick:=0,Cookie:=[],Proof:=[],Epoch:=b,Seq:=d,Body:=(Ia i (FK f a b d) j),Tag:=(List.replicate 16 (0:UInt8)):PFrame})).length N)] wN FD cn ?_
  intro de an co df
  have cp:=cm.ext an (fun k hk=>by subst hk;exact aD)
  refine aw (vb true) ?_
  refine n3 ?_
  have cq:=(tC (FN (gc (gc bd E) af) bh (by decide) ai) an (ne1 ak (Y)))
  have cr:=(tC (tC (gc (gc be E) af) ai (ne1 R (nL (Blk.lt L) (z5 p m o q s)))) an (ne1 R (nL Y (z6 K p m o q s))))
  have cs:=(tC (tC ah ai (ne1 ah (nL (Blk.lt L) (z8 p m o q s H D E)))) an (ne1 ah (nL Y (z9 K p m o q s H D E))))
  refine Jv (.inl rfl) (va [(vi l),(vi 0),(vs none 0 0),(vs x (a).length y),(vi 0),(vs none 0 0),(vs none 0 0),(vi b),(vi d),(vs B (Ia i (FK f a b d) j).length C),(vs M (JQ i (uL f {Kind:=l,Id:=0,Cn:=[],Sn:=(a),Tick:=0,Cookie:=[],Proof:=[],Epoch:=b,Seq:=d,Body:=(Ia i (FK f a b d) j),Tag:=(List.replicate 16 (0:UInt8)):PFrame})).length N)]) (vb true) rfl (HL [(vi l),(vi 0),(vs none 0 0),(vs x (a).length y),(vi 0),(vs none 0 0),(vs none 0 0),(vi b),(vi d),(vs B (Ia i (FK f a b d) j).length C),(vs M (JQ i (uL f {Kind:=l,Id:=0,Cn:=[],Sn:=(a),Tick:=0,Cookie:=[],Proof:=[],Epoch:=b,Seq:=d,Body:=(Ia i (FK f a b d) j),Tag:=(List.replicate 16 (0:UInt8)):PFrame})).length N)] rfl co Gg FD) rfl ?_
  refine ⟨cp.keep0,?_⟩
  simp only [He,r,t,A,Q,cond_true,cond_false]
  exact ⟨_,_,_,_,_,_,_,_,_,_,_,_,rfl,(by first|exact FL _ _ _ _|exact OLv.nil _ _ _ _),(by simp),(tA cq J.size),av,(by first|exact FL _ _ _ _|exact OLv.nil _ _ _ _),(by simp),(by first|exact FL _ _ _ _|exact OLv.nil _ _ _ _),(by simp),(tA cr (z7 J K p m o q s)),ba,(tA cs (z10 J K p m o q s H D E)),cj,⟨⟨(Ap.nl _),⟨(Ap.nl _),⟨(Ap.nl _),⟨(Ap.nl _),⟨(Ap.nl _),trivial⟩⟩⟩⟩⟩,⟨⟨(Ap.nr _),⟨(Ap.nr _),⟨(Ap.lt ak R (z5 p m o q s)),⟨(Ap.lt ak ah (z8 p m o q s H D E)),trivial⟩⟩⟩⟩,⟨⟨(Ap.nl _),⟨(Ap.nl _),⟨(Ap.nl _),trivial⟩⟩⟩,⟨⟨(Ap.nl _),⟨(Ap.nl _),trivial⟩⟩,⟨⟨(Ap.lt R ah (z2 D E)),trivial⟩,⟨trivial,trivial⟩⟩⟩⟩⟩⟩⟩

def Rr (w:World) (lo:Nat) (v:Value) (x:(PEp)×(PFrame)×(Int)):Prop:=∃ (a:Option Addr) (b:Nat) (d:Option Addr) (e:Nat) (f:Option Addr) (g:Nat) (h:Option Addr) (i:Nat) (j:Option Addr) (k:Nat) (l:Option Addr) (m:Nat) (o:Option Addr) (p:Nat) (q:Option Addr) (r:Nat),v=.tuple #[.agg #[.int .i64 x.1.N,.slice a x.1.Key.length b,.int .i64 x.1.Seq,.int .i64 x.1.Win.Top,.slice d x.1.Win.Bits.length e],.agg #[.int .i64 x.2.1.Kind,.int .i64 x.2.1.Id,.slice f x.2.1.Cn.length g,.slice h x.2.1.Sn.length i,.int .i64 x.2.1.Tick,.slice j x.2.1.Cookie.length k,.slice l x.2.1.Proof.length m,.int .i64 x.2.1.Epoch,.int .i64 x.2.1.Seq,.slice o x.2.1.Body.length p,.slice q x.2.1.Tag.length r],.int .i64 x.2.2]∧w.ownsRow lo 5 1 (.slice a x.1.Key.length b) x.1.Key.length (x.1.Key.map bV)∧x.1.Key.length≤1073741824∧w.ownsRow lo 3 1 (.slice d x.1.Win.Bits.length e) x.1.Win.Bits.length (x.1.Win.Bits.map iV)∧x.1.Win.Bits.length≤1073741824∧w.ownsRow lo 5 1 (.slice f x.2.1.Cn.length g) x.2.1.Cn.length (x.2.1.Cn.map bV)∧x.2.1.Cn.length≤1073741824∧w.ownsRow lo 5 1 (.slice h x.2.1.Sn.length i) x.2.1.Sn.length (x.2.1.Sn.map bV)∧x.2.1.Sn.length≤1073741824∧w.ownsRow lo 5 1 (.slice j x.2.1.Cookie.length k) x.2.1.Cookie.length (x.2.1.Cookie.map bV)∧x.2.1.Cookie.length≤1073741824∧w.ownsRow lo 5 1 (.slice l x.2.1.Proof.length m) x.2.1.Proof.length (x.2.1.Proof.map bV)∧x.2.1.Proof.length≤1073741824∧w.ownsRow lo 5 1 (.slice o x.2.1.Body.length p) x.2.1.Body.length (x.2.1.Body.map bV)∧x.2.1.Body.length≤1073741824∧w.ownsRow lo 5 1 (.slice q x.2.1.Tag.length r) x.2.1.Tag.length (x.2.1.Tag.map bV)∧x.2.1.Tag.length≤1073741824∧Aps [(a,b),(d,e),(f,g),(h,i),(j,k),(l,m),(o,p),(q,r)]
def HS (a:PEp) (b:Int) (d:List UInt8) (e:Int) (f:List UInt8):(PEp)×(PFrame)×(Int):=bif (decide (a.Seq=281474976710656)) then (((a),{Kind:=0,Id:=0,Cn:=[],Sn:=[],Tick:=0,Cookie:=[],Proof:=[],Epoch:=0,Seq:=0,Body:=[],Tag:=[]:PFrame},5)) else (({N:=(a).N,Key:=(a).Key,Seq:=(((a).Seq)+1),Win:=((a).Win):PEp},((He a.Key b d a.N a.Seq e f).1),0))
def uM (a:PEp) (d:Int) (e:List UInt8) (b:Int) (f:List UInt8):(PEp)×(PFrame)×(Int):=bif (Hm a) then (bif ((He a.Key d e a.N 0 b f).2) then (bif (decide (b=4)) then (bif (decide (281474976709656≤a.Seq)) then (((a),{Kind:=0,Id:=0,Cn:=[],Sn:=[],Tick:=0,Cookie:=[],Proof:=[],Epoch:=0,Seq:=0,Body:=[],Tag:=[]:PFrame},4)) else ((HS a d e b f))) else ((HS a d e b f))) else (((a),{Kind:=0,Id:=0,Cn:=[],Sn:=[],Tick:=0,Cookie:=[],Proof:=[],Epoch:=0,Seq:=0,Body:=[],Tag:=[]:PFrame},1))) else (((a),{Kind:=0,Id:=0,Cn:=[],Sn:=[],Tick:=0,Cookie:=[],Proof:=[],Epoch:=0,Seq:=0,Body:=[],Tag:=[]:PFrame},1))
theorem Su (an:World) (b4:Value) (a:PEp) (bN:Pn an b4 a) (l:Int) (b5:Value) (m:List UInt8) (bO:HP an b5 m) (j:Int) (b6:Value) (p:List UInt8) (bP:HP an b6 p) :Fn Tryz.prog 54 #[b4,(vi l),b5,(vi j),b6] an (fun v av=>Keep an av∧Rr av an.heap.size v (uM a l m j p)):=by
 obtain ⟨ax,ay,aG,aH,rfl,aI,aJ,b7,b8⟩:=bN
 obtain ⟨aK,aL,rfl,b9,bA⟩:=bO
 obtain ⟨aM,aN,rfl,bB,bC⟩:=bP
 refine FI (n:=75) [(va (Gx a ax ay aG aH)),(vi l),(vs aK m.length aL),(vi j),(vs aM p.length aN)] Tryz.func54 rfl rfl ?_
 refine sr<|bx (Gx a ax ay aG aH) wN ?_
 intro X dw dx aZ D bQ
 refine al Ks wN Hy ?_
 intro az dy a5 x F a6
 refine al JR wN JG ?_
 intro bR T O J g a7
 have ba:=(((Ch.base an).extk D).extk F).extk g
 refine aw (vi 0) ?_
 refine nx ?_
 have bD:=((bQ.kp F).kp g)
 refine lN (Gx a ax ay aG aH) wN FE uE bD ?_
 refine cl wN (LA T _ a (IP (aI.from0 ba) aJ (b7.from0 ba) b8)) ?_
 rintro _ V ⟨f,⟨y,A,B,C,rfl,L,a8,M,a9,aA⟩⟩
 refine al Ks wN Hy ?_
 intro bb dz G ao i bS
 refine sv (Gx (a) y A B C) wN uE bS ?_
 intro bT e aB d0
 have bc:=((ba.extk f).extk i).ext e (fun k hk=>by subst hk;exact nT (z4 D F g f) G)
 refine n4 ?_
 have bE:=(((bD.kp f).kp i).ch e (nN (nL aZ (nT (z3 F g f) G))))
 refine lN (Gx a ax ay aG aH) wN FE uE bE ?_
 refine cl wN (Pc bT _ a (IP (aI.from0 bc) aJ (b7.from0 bc) b8)) ?_
 rintro _ bU ⟨b,rfl⟩
 have aC:=bc.extk b
 refine pu (vb (!(Hm a))) wN ?_
 refine n2 ?_
 rcases bf (Hm a) with W|W
 ·refine ct (cA not W)<|sr ?_
  have bW:=(aB.kp b)
  refine lN (Gx (a) y A B C) wN FE uE bW ?_
  refine pu (va JR) wN ?_
  have bX:=(((((a6.kp g).kp f).kp i).ch e (nN (nL x (nT (z2 g f) G)))).kp b)
  refine sv (Gx (a) y A B C) wN uE bX ?_
  intro bY bd bZ d1
  have ca:=aC.ext bd (fun k hk=>by subst hk;exact nT D.size a5)
  have cb:=(((((a7.kp f).kp i).ch e (nN (nL J (nT f.size G)))).kp b).ch bd (Ne.symm (nN (nL x (O)))))
  refine sv JR wN FD cb ?_
  intro cc be cd d2
  have ce:=ca.ext be (fun k hk=>by subst hk;exact nT (z2 D F) O)
  refine aw (vi 1) ?_
  refine n1 ?_
  have cg:=(bZ.ch be (nN (nL x (O))))
  have bF:=fun (E sz n:Nat) (v:Value) (K:List Value) (o:World.ownsRow V T.heap.size E sz v n K) (u:World.ownsRow V T.heap.size E sz v n K)=>(tC (tC (gc (tC (gc o i) e (ne2 u (G))) b) bd (ne1 u (nL x g.size))) be (ne1 u (J)))
  have ci:=(bF _ _ _ _ _ L L)
  have cj:=(bF _ _ _ _ _ M M)
  refine Hu (.inl rfl) (va (Gx (a) y A B C)) (va JR) (vi 1) rfl (HL (Gx (a) y A B C) rfl cg FE uE) (HL JR rfl cd Gg FD) rfl ?_
  refine ⟨ce.keep0,?_⟩
  simp only [uM,W,cond_true,cond_false]
  exact ⟨_,_,_,_,_,_,_,_,_,_,_,_,_,_,_,_,rfl,(tA ci (z3 D F g)),a8,(tA cj (z3 D F g)),a9,(by first|exact FL _ _ _ _|exact OLv.nil _ _ _ _),(by simp),(by first|exact FL _ _ _ _|exact OLv.nil _ _ _ _),(by simp),(by first|exact FL _ _ _ _|exact OLv.nil _ _ _ _),(by simp),(by first|exact FL _ _ _ _|exact OLv.nil _ _ _ _),(by simp),(by first|exact FL _ _ _ _|exact OLv.nil _ _ _ _),(by simp),(by first|exact FL _ _ _ _|exact OLv.nil _ _ _ _),(by simp),⟨⟨(aA.1.1),⟨(Ap.nr _),⟨(Ap.nr _),⟨(Ap.nr _),⟨(Ap.nr _),⟨(Ap.nr _),⟨(Ap.nr _),trivial⟩⟩⟩⟩⟩⟩⟩,⟨⟨(Ap.nr _),⟨(Ap.nr _),⟨(Ap.nr _),⟨(Ap.nr _),⟨(Ap.nr _),⟨(Ap.nr _),trivial⟩⟩⟩⟩⟩⟩,⟨⟨(Ap.nl _),⟨(Ap.nl _),⟨(Ap.nl _),⟨(Ap.nl _),⟨(Ap.nl _),trivial⟩⟩⟩⟩⟩,⟨⟨(Ap.nl _),⟨(Ap.nl _),⟨(Ap.nl _),⟨(Ap.nl _),trivial⟩⟩⟩⟩,⟨⟨(Ap.nl _),⟨(Ap.nl _),⟨(Ap.nl _),trivial⟩⟩⟩,⟨⟨(Ap.nl _),⟨(Ap.nl _),trivial⟩⟩,⟨⟨(Ap.nl _),trivial⟩,⟨trivial,trivial⟩⟩⟩⟩⟩⟩⟩⟩⟩
 have d3:=Jk W
 refine cf (cA not W)<|y1<|pu (vp X 1) wN ?_
 have aO:=(bE.kp b)
 refine ld (vs ax a.Key.length ay) wN uH aO ?_
 refine mw (vi l) ?_
 refine mw (vs aK m.length aL) ?_
 refine pu (vp X 0) wN ?_
 refine ld (vi a.N) wN tE aO ?_
 refine mw (vi j) ?_
 refine mw (vs aM p.length aN) ?_
 refine cl wN (SV bU _ a.Key (FV (aI.from0 aC) aJ) l _ m (FV (b9.from0 aC) bA) a.N 0 j _ p (FV (bB.from0 aC) bC)) ?_
 rintro _ bY ⟨d,⟨bg,bh,bi,bj,bk,bl,bm,bn,bo,bp,bq,br,rfl,_⟩⟩
 refine mw (.tuple #[(va (HH ((He a.Key l m a.N 0 j p).1) bg bh bi bj bk bl bm bn bo bp bq br)),(vb ((He a.Key l m a.N 0 j p).2))]) ?_
 refine pu (va (HH ((He a.Key l m a.N 0 j p).1) bg bh bi bj bk bl bm bn bo bp bq br)) wN ?_
 refine pu (vb ((He a.Key l m a.N 0 j p).2)) wN ?_
 refine al JR wN JG ?_
 intro d4 cc I d5 r ck
 refine sv (HH ((He a.Key l m a.N 0 j p).1) bg bh bi bj bk bl bm bn bo bp bq br) wN FD ck ?_
 intro d6 s d7 d8
 have bu:=((aC.extk d).extk r).ext s (fun k hk=>by subst hk;exact nT (z8 D F g f i e b d) I)
 refine aw (vb ((He a.Key l m a.N 0 j p).2)) ?_
 refine n4<|mw (vb ((He a.Key l m a.N 0 j p).2)) ?_
 refine pu (vb (!((He a.Key l m a.N 0 j p).2))) wN ?_
 refine n2 ?_
 rcases bf ((He a.Key l m a.N 0 j p).2) with ap|ap
 ·refine ct (cA not ap)<|sr ?_
  have cm:=((((aB.kp b).kp d).kp r).ch s (nN (nL ao (nT (z3 e b d) I))))
  refine lN (Gx (a) y A B C) wN FE uE cm ?_
  refine pu (va JR) wN ?_
  have cn:=((((((((a6.kp g).kp f).kp i).ch e (nN (nL x (nT (z2 g f) G)))).kp b).kp d).kp r).ch s (nN (nL x (nT (z6 g f i e b d) I))))
  refine sv (Gx (a) y A B C) wN uE cn ?_
  intro aD bv co d9
  have cp:=bu.ext bv (fun k hk=>by subst hk;exact nT D.size a5)
  have cq:=((((((((a7.kp f).kp i).ch e (nN (nL J (nT f.size G)))).kp b).kp d).kp r).ch s (nN (nL J (nT (z5 f i e b d) I)))).ch bv (Ne.symm (nN (nL x (O)))))
  refine sv JR wN FD cq ?_
  intro aE bw cr dA
  have cs:=cp.ext bw (fun k hk=>by subst hk;exact nT (z2 D F) O)
  refine aw (vi 1) ?_
  refine n1 ?_
  have cu:=(co.ch bw (nN (nL x (O))))
  have bG:=fun (E sz n:Nat) (v:Value) (K:List Value) (o:World.ownsRow V T.heap.size E sz v n K) (u:World.ownsRow V T.heap.size E sz v n K)=>(tC (tC (tC (gc (gc (gc (tC (gc o i) e (ne2 u (G))) b) d) r) s (ne2 u (nT (z4 i e b d) I))) bv (ne1 u (nL x g.size))) bw (ne1 u (J)))
  have cv:=(bG _ _ _ _ _ L L)
  have cw:=(bG _ _ _ _ _ M M)
  refine Hu (.inl rfl) (va (Gx (a) y A B C)) (va JR) (vi 1) rfl (HL (Gx (a) y A B C) rfl cu FE uE) (HL JR rfl cr Gg FD) rfl ?_
  refine ⟨cs.keep0,?_⟩
  simp only [uM,W,ap,cond_true,cond_false]
  exact ⟨_,_,_,_,_,_,_,_,_,_,_,_,_,_,_,_,rfl,(tA cv (z3 D F g)),a8,(tA cw (z3 D F g)),a9,(by first|exact FL _ _ _ _|exact OLv.nil _ _ _ _),(by simp),(by first|exact FL _ _ _ _|exact OLv.nil _ _ _ _),(by simp),(by first|exact FL _ _ _ _|exact OLv.nil _ _ _ _),(by simp),(by first|exact FL _ _ _ _|exact OLv.nil _ _ _ _),(by simp),(by first|exact FL _ _ _ _|exact OLv.nil _ _ _ _),(by simp),(by first|exact FL _ _ _ _|exact OLv.nil _ _ _ _),(by simp),⟨⟨(aA.1.1),⟨(Ap.nr _),⟨(Ap.nr _),⟨(Ap.nr _),⟨(Ap.nr _),⟨(Ap.nr _),⟨(Ap.nr _),trivial⟩⟩⟩⟩⟩⟩⟩,⟨⟨(Ap.nr _),⟨(Ap.nr _),⟨(Ap.nr _),⟨(Ap.nr _),⟨(Ap.nr _),⟨(Ap.nr _),trivial⟩⟩⟩⟩⟩⟩,⟨⟨(Ap.nl _),⟨(Ap.nl _),⟨(Ap.nl _),⟨(Ap.nl _),⟨(Ap.nl _),trivial⟩⟩⟩⟩⟩,⟨⟨(Ap.nl _),⟨(Ap.nl _),⟨(Ap.nl _),⟨(Ap.nl _),trivial⟩⟩⟩⟩,⟨⟨(Ap.nl _),⟨(Ap.nl _),⟨(Ap.nl _),trivial⟩⟩⟩,⟨⟨(Ap.nl _),⟨(Ap.nl _),trivial⟩⟩,⟨⟨(Ap.nl _),trivial⟩,⟨trivial,trivial⟩⟩⟩⟩⟩⟩⟩⟩⟩
 refine cf (cA not ap)<|y2<|jF1 [(1,(vi l)),(2,(vs aK m.length aL)),(3,(vi j)),(4,(vs aM p.length aN)),(5,(vp X 0)),(10,(vp az 0)),(11,(vp bR 0)),(12,(vi 0)),(13,(vp bb 0))] (uM a l m j p=(HS a l m j p)) ?_ fun bH=>?_
 ·intro bI aD H dB
  have aF:=bu.extk H
  refine y2<|pu (vp X 2) wN ?_
  have aP:=((((aO.kp d).kp r).ch s (nN (nL aZ (nT (z7 F g f i e b d) I)))).kp H)
  refine ld (vi a.Seq) wN tE aP ?_
  refine pu (vb (decide (a.Seq=281474976710656))) wN ?_
  refine n2 ?_
  rcases bt (decide (a.Seq=281474976710656)) with aq|aq
  ·have dC:=dT aq
   refine ct aq<|sr ?_
   have cx:=(((((aB.kp b).kp d).kp r).ch s (nN (nL ao (nT (z3 e b d) I)))).kp H)
   refine lN (Gx (a) y A B C) wN FE uE cx ?_
   refine pu (va JR) wN ?_
   have cy:=(((((((((a6.kp g).kp f).kp i).ch e (nN (nL x (nT (z2 g f) G)))).kp b).kp d).kp r).ch s (nN (nL x (nT (z6 g f i e b d) I)))).kp H)
   refine sv (Gx (a) y A B C) wN uE cy ?_
   intro aE bz cz dD
   have c0:=aF.ext bz (fun k hk=>by subst hk;exact nT D.size a5)
   have c1:=(((((((((a7.kp f).kp i).ch e (nN (nL J (nT f.size G)))).kp b).kp d).kp r).ch s (nN (nL J (nT (z5 f i e b d) I)))).kp H).ch bz (Ne.symm (nN (nL x (O)))))
   refine sv JR wN FD c1 ?_
   intro c2 b0 c3 dE
   have c4:=c0.ext b0 (fun k hk=>by subst hk;exact nT (z2 D F) O)
   refine aw (vi 5) ?_
   refine n1 ?_
   have c5:=(cz.ch b0 (nN (nL x (O))))
   have bJ:=fun (E sz n:Nat) (v:Value) (K:List Value) (o:World.ownsRow V T.heap.size E sz v n K) (u:World.ownsRow V T.heap.size E sz v n K)=>(tC (tC (gc (tC (gc (gc (gc (tC (gc o i) e (ne2 u (G))) b) d) r) s (ne2 u (nT (z4 i e b d) I))) H) bz (ne1 u (nL x g.size))) b0 (ne1 u (J)))
   have c6:=(bJ _ _ _ _ _ L L)
   have c7:=(bJ _ _ _ _ _ M M)
   refine Hu (.inl rfl) (va (Gx (a) y A B C)) (va JR) (vi 5) rfl (HL (Gx (a) y A B C) rfl c5 FE uE) (HL JR rfl c3 Gg FD) rfl ?_
   refine ⟨c4.keep0,?_⟩
   rw [bI];simp only [HS,aq,cond_true,cond_false]
   exact ⟨_,_,_,_,_,_,_,_,_,_,_,_,_,_,_,_,rfl,(tA c6 (z3 D F g)),a8,(tA c7 (z3 D F g)),a9,(by first|exact FL _ _ _ _|exact OLv.nil _ _ _ _),(by simp),(by first|exact FL _ _ _ _|exact OLv.nil _ _ _ _),(by simp),(by first|exact FL _ _ _ _|exact OLv.nil _ _ _ _),(by simp),(by first|exact FL _ _ _ _|exact OLv.nil _ _ _ _),(by simp),(by first|exact FL _ _ _ _|exact OLv.nil _ _ _ _),(by simp),(by first|exact FL _ _ _ _|exact OLv.nil _ _ _ _),(by simp),⟨⟨(aA.1.1),⟨(Ap.nr _),⟨(Ap.nr _),⟨(Ap.nr _),⟨(Ap.nr _),⟨(Ap.nr _),⟨(Ap.nr _),trivial⟩⟩⟩⟩⟩⟩⟩,⟨⟨(Ap.nr _),⟨(Ap.nr _),⟨(Ap.nr _),⟨(Ap.nr _),⟨(Ap.nr _),⟨(Ap.nr _),trivial⟩⟩⟩⟩⟩⟩,⟨⟨(Ap.nl _),⟨(Ap.nl _),⟨(Ap.nl _),⟨(Ap.nl _),⟨(Ap.nl _),trivial⟩⟩⟩⟩⟩,⟨⟨(Ap.nl _),⟨(Ap.nl _),⟨(Ap.nl _),⟨(Ap.nl _),trivial⟩⟩⟩⟩,⟨⟨(Ap.nl _),⟨(Ap.nl _),⟨(Ap.nl _),trivial⟩⟩⟩,⟨⟨(Ap.nl _),⟨(Ap.nl _),trivial⟩⟩,⟨⟨(Ap.nl _),trivial⟩,⟨trivial,trivial⟩⟩⟩⟩⟩⟩⟩⟩⟩
  have dG:=dF aq
  refine cf aq<|y1<|pu (vp X 1) wN ?_
  refine ld (vs ax a.Key.length ay) wN uH aP ?_
  refine mw (vi l) ?_
  refine mw (vs aK m.length aL) ?_
  refine pu (vp X 0) wN ?_
  refine ld (vi a.N) wN tE aP ?_
  refine pu (vp X 2) wN ?_
  refine ld (vi a.Seq) wN tE aP ?_
  refine mw (vi j) ?_
  refine mw (vs aM p.length aN) ?_
  refine cl wN (SV aD _ a.Key (FV (aI.from0 aF) aJ) l _ m (FV (b9.from0 aF) bA) a.N a.Seq j _ p (FV (bB.from0 aF) bC)) ?_
  rintro _ aE ⟨Q,⟨Y,Z,aa,ab,ac,ad,ae,af,ah,ai,aj,ak,rfl,aQ,c8,aR,c9,aS,cC,aT,cD,aU,cE,aV,cF,P⟩⟩
  refine mw (.tuple #[(va (HH ((He a.Key l m a.N a.Seq j p).1) Y Z aa ab ac ad ae af ah ai aj ak)),(vb ((He a.Key l m a.N a.Seq j p).2))]) ?_
  refine pu (va (HH ((He a.Key l m a.N a.Seq j p).1) Y Z aa ab ac ad ae af ah ai aj ak)) wN ?_
  refine pu (vb ((He a.Key l m a.N a.Seq j p).2)) wN ?_
  refine al JR wN JG ?_
  intro dH c2 am dI a0 cG
  refine sv (HH ((He a.Key l m a.N a.Seq j p).1) Y Z aa ab ac ad ae af ah ai aj ak) wN FD cG ?_
  intro dJ a1 cH dK
  have cI:=((aF.extk Q).extk a0).ext a1 (fun k hk=>by subst hk;exact nT (z12 D F g f i e b d r s H Q) am)
  refine aw (vb ((He a.Key l m a.N a.Seq j p).2)) ?_
  refine nx<|pu (vp bb 2) wN ?_
  have bK:=((((((((aB.kp b).kp d).kp r).ch s (nN (nL ao (nT (z3 e b d) I)))).kp H).kp Q).kp a0).ch a1 (nN (nL ao (nT (z7 e b d r s H Q) am))))
  refine ld (vi ((a).Seq)) wN tE bK ?_
  refine ar (((a).Seq)+1) wN ?_
  refine pu (vp bb 2) wN ?_
  refine st (vi (((a).Seq)+1)) [(vi (((a).Seq)+1))] [(vi ((a).N)),(vs y ((a).Key).length A),(vi (((a).Seq)+1)),(vi (((a).Win).Top)),(vs B (((a).Win).Bits).length C)] wN GI bK ?_
  intro cJ a2 cK dL
  have cL:=cI.ext a2 (fun k hk=>by subst hk;exact nT (z4 D F g f) G)
  refine uD<|rg<|uK ?_
  have cM:=(((((((((((((a6.kp g).kp f).kp i).ch e (nN (nL x (nT (z2 g f) G)))).kp b).kp d).kp r).ch s (nN (nL x (nT (z6 g f i e b d) I)))).kp H).kp Q).kp a0).ch a1 (nN (nL x (nT (z10 g f i e b d r s H Q) am)))).ch a2 (nN (nL x (nT (z2 g f) G))))
  refine Ga ([(73,[],[],(fun _ v _=>v=(va [(vi ((a).N)),(vs y ((a).Key).length A),(vi (((a).Seq)+1)),(vi (((a).Win).Top)),(vs B (((a).Win).Bits).length C)]))),(74,[],[],(fun _ v _=>v=(va (HH ((He a.Key l m a.N a.Seq j p).1) Y Z aa ab ac ad ae af ah ai aj ak)))),(77,[],[0],(fun _ _ w=>BK w az 36 0 ([(vi ((a).N)),(vs y ((a).Key).length A),(vi (((a).Seq)+1)),(vi (((a).Win).Top)),(vs B (((a).Win).Bits).length C)])))]:GV) (fun lf av=>Ch (fun k=>k=az) cJ av∧RK lf av az 36 Ks [(2,0,5)]) [(2,TK az 36 0 5)] GU rfl (by kernel_rfl) (by kernel_rfl) ?_ (fun _ _ h=>⟨h.to _,RK.z cM h⟩) (fun _ _ _ _ h mo k=>by obtain ⟨hc,b1⟩:=h;exact ⟨hc.comp k (fun _ _ q=>q.elim),b1.kp mo k⟩) ⟨(fun _ _ w av h mo hj t=>by obtain ⟨hc,b1⟩:=h;exact ⟨hc.comp t.1 (fun _ _ q=>q),b1.st mo hj (.head _) t⟩),trivial⟩ ?_ ?_ ?_
  ·exact ⟨hV,hE,⟨hV,hE,⟨sK,hE,trivial⟩⟩⟩
  ·exact ⟨⟨.inr hV,⟨.inr hV,⟨.inl rfl,trivial⟩⟩⟩,trivial⟩
  ·refine ⟨?_,⟨?_,⟨?_,trivial⟩⟩⟩
   ·rintro lf aW ⟨cN,dM⟩ ⟨dN,-⟩
    rintro _ _ _
    refine sw ?_
    have cO:=(cK.ch cN (Ne.symm (nN (nL x (nT (z2 g f) G)))))
    refine lN [(vi ((a).N)),(vs y ((a).Key).length A),(vi (((a).Seq)+1)),(vi (((a).Win).Top)),(vs B (((a).Win).Bits).length C)] wN FE uE cO ?_
    exact f1
   ·rintro lf aW ⟨cP,dO⟩ ⟨dP,-⟩
    rintro _ _ _
    refine sw ?_
    have cQ:=((cH.ch a2 (Ne.symm (nN (nL ao (nT (z7 e b d r s H Q) am))))).ch cP (Ne.symm (nN (nL x (nT (z10 g f i e b d r s H Q) am)))))
    refine lN (HH ((He a.Key l m a.N a.Seq j p).1) Y Z aa ab ac ad ae af ah ai aj ak) wN Gg FD cQ ?_
    exact f1
   ·rintro lf aW ⟨dQ,cR⟩ ⟨dR,-⟩
    rintro _ rfl _ _
    exact sw<|stK (va [(vi ((a).N)),(vs y ((a).Key).length A),(vi (((a).Seq)+1)),(vi (((a).Win).Top)),(vs B (((a).Win).Bits).length C)]) [(vi ((a).N)),(vs y ((a).Key).length A),(vi (((a).Seq)+1)),(vi (((a).Win).Top)),(vs B (((a).Win).Bits).length C)] wN uE cR (fun _ h=>h) (fun _ t=>t)
  ·rintro lf aW ⟨aX,cS⟩
   have cT:=cL.ext aX (fun k hk=>by subst hk;exact nT D.size a5)
   rintro _ rfl _ rfl _ cU
   have cV:Blk aW az 36 [(vi ((a).N)),(vs y ((a).Key).length A),(vi (((a).Seq)+1)),(vi (((a).Win).Top)),(vs B (((a).Win).Bits).length C)]:=RK.fin cS [(0,[(vi ((a).N)),(vs y ((a).Key).length A),(vi (((a).Seq)+1)),(vi (((a).Win).Top)),(vs B (((a).Win).Bits).length C)])] ⟨cU,trivial⟩
   refine sw ?_
   have cW:=(((((((((((((a7.kp f).kp i).ch e (nN (nL J (nT f.size G)))).kp b).kp d).kp r).ch s (nN (nL J (nT (z5 f i e b d) I)))).kp H).kp Q).kp a0).ch a1 (nN (nL J (nT (z9 f i e b d r s H Q) am)))).ch a2 (nN (nL J (nT f.size G)))).ch aX (Ne.symm (nN (nL x (O)))))
   refine sv (HH ((He a.Key l m a.N a.Seq j p).1) Y Z aa ab ac ad ae af ah ai aj ak) wN FD cW ?_
   intro dS aY cX dU
   have cY:=cT.ext aY (fun k hk=>by subst hk;exact nT (z2 D F) O)
   refine aw (vi 0) ?_
   refine n3 ?_
   have cZ:=(cV.ch aY (nN (nL x (O))))
   have bL:=fun (E sz n:Nat) (v:Value) (K:List Value) (o:World.ownsRow V T.heap.size E sz v n K) (u:World.ownsRow V T.heap.size E sz v n K)=>(tC (tC (tC (tC (gc (gc (gc (tC (gc (gc (gc (tC (gc o i) e (ne2 u (G))) b) d) r) s (ne2 u (nT (z4 i e b d) I))) H) Q) a0) a1 (ne2 u (nT (z8 i e b d r s H Q) am))) a2 (ne2 u (G))) aX (ne1 u (nL x g.size))) aY (ne1 u (J)))
   have da:=(bL _ _ _ _ _ L L)
   have db:=(bL _ _ _ _ _ M M)
   have a3:=fun (E sz n:Nat) (v:Value) (K:List Value) (o:World.ownsRow aE aD.heap.size E sz v n K) (u:World.ownsRow aE aD.heap.size E sz v n K)=>(tC (tC (tC (tC (gc o a0) a1 (ne2 u (am))) a2 (ne1 u (nL ao (z6 e b d r s H)))) aX (ne1 u (nL x (z9 g f i e b d r s H)))) aY (ne1 u (nL J (z8 f i e b d r s H))))
   have dc:=(a3 _ _ _ _ _ aQ aQ)
   have dd:=(a3 _ _ _ _ _ aR aR)
   have de:=(a3 _ _ _ _ _ aS aS)
   have df:=(a3 _ _ _ _ _ aT aT)
   have dg:=(a3 _ _ _ _ _ aU aU)
   have dh:=(a3 _ _ _ _ _ aV aV)
   refine Hu (.inl rfl) (va [(vi ((a).N)),(vs y ((a).Key).length A),(vi (((a).Seq)+1)),(vi (((a).Win).Top)),(vs B (((a).Win).Bits).length C)]) (va (HH ((He a.Key l m a.N a.Seq j p).1) Y Z aa ab ac ad ae af ah ai aj ak)) (vi 0) rfl (HL [(vi ((a).N)),(vs y ((a).Key).length A),(vi (((a).Seq)+1)),(vi (((a).Win).Top)),(vs B (((a).Win).Bits).length C)] rfl cZ FE uE) (HL (HH ((He a.Key l m a.N a.Seq j p).1) Y Z aa ab ac ad ae af ah ai aj ak) rfl cX Gg FD) rfl ?_
   refine ⟨cY.keep0,?_⟩
   rw [bI];simp only [HS,aq,cond_true,cond_false]
   have a4:=z11 D F g f i e b d r s H
   have R:=z7 i e b d r s H
   exact ⟨_,_,_,_,_,_,_,_,_,_,_,_,_,_,_,_,rfl,(tA da (z3 D F g)),a8,(tA db (z3 D F g)),a9,(tA dc a4),c8,(tA dd a4),c9,(tA de a4),cC,(tA df a4),cD,(tA dg a4),cE,(tA dh a4),cF,⟨⟨(aA.1.1),⟨(Ap.lt L aQ R),⟨(Ap.lt L aR R),⟨(Ap.lt L aS R),⟨(Ap.lt L aT R),⟨(Ap.lt L aU R),⟨(Ap.lt L aV R),trivial⟩⟩⟩⟩⟩⟩⟩,⟨⟨(Ap.lt M aQ R),⟨(Ap.lt M aR R),⟨(Ap.lt M aS R),⟨(Ap.lt M aT R),⟨(Ap.lt M aU R),⟨(Ap.lt M aV R),trivial⟩⟩⟩⟩⟩⟩,⟨⟨(P.1.1),⟨(P.1.2.1),⟨(P.1.2.2.1),⟨(P.1.2.2.2.1),⟨(P.1.2.2.2.2.1),trivial⟩⟩⟩⟩⟩,⟨⟨(P.2.1.1),⟨(P.2.1.2.1),⟨(P.2.1.2.2.1),⟨(P.2.1.2.2.2.1),trivial⟩⟩⟩⟩,⟨⟨(P.2.2.1.1),⟨(P.2.2.1.2.1),⟨(P.2.2.1.2.2.1),trivial⟩⟩⟩,⟨⟨(P.2.2.2.1.1),⟨(P.2.2.2.1.2.1),trivial⟩⟩,⟨⟨(P.2.2.2.2.1.1),trivial⟩,⟨trivial,trivial⟩⟩⟩⟩⟩⟩⟩⟩⟩
 refine mw (vi j) ?_
 refine pu (vb (decide (j=4))) wN ?_
 refine mw (vb (decide (j=4))) ?_
 rcases bf (decide (j=4)) with S|S
 ·have dV:=dF S
  iterate 3 refine sk S ?_
  refine pf (vb false) wN S ?_
  refine n2<|cf F1 ?_
  have di:uM a l m j p=(HS a l m j p):=by simp only [uM,W,ap,S,cond_true,cond_false]
  exact wj (bH di _ (Ch.refl _ _))
 have dW:=dT S
 refine pu (vp X 2) (wS S) ?_
 have dj:=(((aO.kp d).kp r).ch s (nN (nL aZ (nT (z7 F g f i e b d) I))))
 refine ld (vi a.Seq) (wS S) tE dj ?_
 refine pu (vb (decide (281474976709656≤a.Seq))) (wS S) ?_
 refine pk (vb (decide (281474976709656≤a.Seq))) wN S ?_
 refine n2 ?_
 rcases bf (decide (281474976709656≤a.Seq)) with au|au
 ·have dX:=dF au
  refine cf au ?_
  have dk:uM a l m j p=(HS a l m j p):=by simp only [uM,W,ap,S,au,cond_true,cond_false]
  exact wj (bH dk _ (Ch.refl _ _))
 have dY:=dT au
 refine ct au<|sr ?_
 have dl:=((((aB.kp b).kp d).kp r).ch s (nN (nL ao (nT (z3 e b d) I))))
 refine lN (Gx (a) y A B C) wN FE uE dl ?_
 refine pu (va JR) wN ?_
 have dm:=((((((((a6.kp g).kp f).kp i).ch e (nN (nL x (nT (z2 g f) G)))).kp b).kp d).kp r).ch s (nN (nL x (nT (z6 g f i e b d) I))))
 refine sv (Gx (a) y A B C) wN uE dm ?_
 intro aD b2 dn dZ
 have dp:=bu.ext b2 (fun k hk=>by subst hk;exact nT D.size a5)
 have dq:=((((((((a7.kp f).kp i).ch e (nN (nL J (nT f.size G)))).kp b).kp d).kp r).ch s (nN (nL J (nT (z5 f i e b d) I)))).ch b2 (Ne.symm (nN (nL x (O)))))
 refine sv JR wN FD dq ?_
 intro aE b3 dr ea
 have ds:=dp.ext b3 (fun k hk=>by subst hk;exact nT (z2 D F) O)
 refine aw (vi 4) ?_
 refine n1 ?_
 have dt:=(dn.ch b3 (nN (nL x (O))))
 have bM:=fun (E sz n:Nat) (v:Value) (K:List Value) (o:World.ownsRow V T.heap.size E sz v n K) (u:World.ownsRow V T.heap.size E sz v n K)=>(tC (tC (tC (gc (gc (gc (tC (gc o i) e (ne2 u (G))) b) d) r) s (ne2 u (nT (z4 i e b d) I))) b2 (ne1 u (nL x g.size))) b3 (ne1 u (J)))
 have du:=(bM _ _ _ _ _ L L)
 have dv:=(bM _ _ _ _ _ M M)
 refine Hu (.inl rfl) (va (Gx (a) y A B C)) (va JR) (vi 4) rfl (HL (Gx (a) y A B C) rfl dt FE uE) (HL JR rfl dr Gg FD) rfl ?_
 refine ⟨ds.keep0,?_⟩
 simp only [uM,W,ap,S,au,cond_true,cond_false]
 exact ⟨_,_,_,_,_,_,_,_,_,_,_,_,_,_,_,_,rfl,(tA du (z3 D F g)),a8,(tA dv (z3 D F g)),a9,(by first|exact FL _ _ _ _|exact OLv.nil _ _ _ _),(by simp),(by first|exact FL _ _ _ _|exact OLv.nil _ _ _ _),(by simp),(by first|exact FL _ _ _ _|exact OLv.nil _ _ _ _),(by simp),(by first|exact FL _ _ _ _|exact OLv.nil _ _ _ _),(by simp),(by first|exact FL _ _ _ _|exact OLv.nil _ _ _ _),(by simp),(by first|exact FL _ _ _ _|exact OLv.nil _ _ _ _),(by simp),⟨⟨(aA.1.1),⟨(Ap.nr _),⟨(Ap.nr _),⟨(Ap.nr _),⟨(Ap.nr _),⟨(Ap.nr _),⟨(Ap.nr _),trivial⟩⟩⟩⟩⟩⟩⟩,⟨⟨(Ap.nr _),⟨(Ap.nr _),⟨(Ap.nr _),⟨(Ap.nr _),⟨(Ap.nr _),⟨(Ap.nr _),trivial⟩⟩⟩⟩⟩⟩,⟨⟨(Ap.nl _),⟨(Ap.nl _),⟨(Ap.nl _),⟨(Ap.nl _),⟨(Ap.nl _),trivial⟩⟩⟩⟩⟩,⟨⟨(Ap.nl _),⟨(Ap.nl _),⟨(Ap.nl _),⟨(Ap.nl _),trivial⟩⟩⟩⟩,⟨⟨(Ap.nl _),⟨(Ap.nl _),⟨(Ap.nl _),trivial⟩⟩⟩,⟨⟨(Ap.nl _),⟨(Ap.nl _),trivial⟩⟩,⟨⟨(Ap.nl _),trivial⟩,⟨trivial,trivial⟩⟩⟩⟩⟩⟩⟩⟩⟩

def Rq (w:World) (lo:Nat) (v:Value) (x:(PChan)×(PFrame)×(Int)):Prop:=∃ (a:Option Addr) (b:Nat) (d:Option Addr) (e:Nat) (f:Option Addr) (g:Nat) (h:Option Addr) (i:Nat) (j:Option Addr) (k:Nat) (l:Option Addr) (m:Nat) (o:Option Addr) (p:Nat) (q:Option Addr) (r:Nat) (s:Option Addr) (t:Nat) (u:Option Addr) (y:Nat) (A:Option Addr) (B:Nat) (C:Option Addr) (D:Nat),v=.tuple #[.agg #[.int .i64 x.1.Role,.slice a x.1.Sn.length b,.int .i64 x.1.Cur.N,.slice d x.1.Cur.Key.length e,.int .i64 x.1.Cur.Seq,.int .i64 x.1.Cur.Win.Top,.slice f x.1.Cur.Win.Bits.length g,.int .i64 x.1.Old.N,.slice h x.1.Old.Key.length i,.int .i64 x.1.Old.Seq,.int .i64 x.1.Old.Win.Top,.slice j x.1.Old.Win.Bits.length k,.bool x.1.HasOld,.int .i64 x.1.Until,.slice l x.1.Next.length m],.agg #[.int .i64 x.2.1.Kind,.int .i64 x.2.1.Id,.slice o x.2.1.Cn.length p,.slice q x.2.1.Sn.length r,.int .i64 x.2.1.Tick,.slice s x.2.1.Cookie.length t,.slice u x.2.1.Proof.length y,.int .i64 x.2.1.Epoch,.int .i64 x.2.1.Seq,.slice A x.2.1.Body.length B,.slice C x.2.1.Tag.length D],.int .i64 x.2.2]∧w.ownsRow lo 5 1 (.slice a x.1.Sn.length b) x.1.Sn.length (x.1.Sn.map bV)∧x.1.Sn.length≤1073741824∧w.ownsRow lo 5 1 (.slice d x.1.Cur.Key.length e) x.1.Cur.Key.length (x.1.Cur.Key.map bV)∧x.1.Cur.Key.length≤1073741824∧w.ownsRow lo 3 1 (.slice f x.1.Cur.Win.Bits.length g) x.1.Cur.Win.Bits.length (x.1.Cur.Win.Bits.map iV)∧x.1.Cur.Win.Bits.length≤1073741824∧w.ownsRow lo 5 1 (.slice h x.1.Old.Key.length i) x.1.Old.Key.length (x.1.Old.Key.map bV)∧x.1.Old.Key.length≤1073741824∧w.ownsRow lo 3 1 (.slice j x.1.Old.Win.Bits.length k) x.1.Old.Win.Bits.length (x.1.Old.Win.Bits.map iV)∧x.1.Old.Win.Bits.length≤1073741824∧w.ownsRow lo 5 1 (.slice l x.1.Next.length m) x.1.Next.length (x.1.Next.map bV)∧x.1.Next.length≤1073741824∧w.ownsRow lo 5 1 (.slice o x.2.1.Cn.length p) x.2.1.Cn.length (x.2.1.Cn.map bV)∧x.2.1.Cn.length≤1073741824∧w.ownsRow lo 5 1 (.slice q x.2.1.Sn.length r) x.2.1.Sn.length (x.2.1.Sn.map bV)∧x.2.1.Sn.length≤1073741824∧w.ownsRow lo 5 1 (.slice s x.2.1.Cookie.length t) x.2.1.Cookie.length (x.2.1.Cookie.map bV)∧x.2.1.Cookie.length≤1073741824∧w.ownsRow lo 5 1 (.slice u x.2.1.Proof.length y) x.2.1.Proof.length (x.2.1.Proof.map bV)∧x.2.1.Proof.length≤1073741824∧w.ownsRow lo 5 1 (.slice A x.2.1.Body.length B) x.2.1.Body.length (x.2.1.Body.map bV)∧x.2.1.Body.length≤1073741824∧w.ownsRow lo 5 1 (.slice C x.2.1.Tag.length D) x.2.1.Tag.length (x.2.1.Tag.map bV)∧x.2.1.Tag.length≤1073741824∧Aps [(a,b),(d,e),(f,g),(h,i),(j,k),(l,m),(o,p),(q,r),(s,t),(u,y),(A,B),(C,D)]
def IB (a:PChan) (b:Int) (d:List UInt8):(PChan)×(PFrame)×(Int):=bif (Gb a) then (({Role:=(a).Role,Sn:=(a).Sn,Cur:=((uM a.Cur a.Role a.Sn b d).1),Old:=((a).Old),HasOld:=(a).HasOld,Until:=(a).Until,Next:=(a).Next:PChan},((uM a.Cur a.Role a.Sn b d).2.1),(uM a.Cur a.Role a.Sn b d).2.2)) else (((a),{Kind:=0,Id:=0,Cn:=[],Sn:=[],Tick:=0,Cookie:=[],Proof:=[],Epoch:=0,Seq:=0,Body:=[],Tag:=[]:PFrame},1))
theorem PL (a0:World) (bq:Value) (a:PChan) (bH:Ro a0 bq a) (b:Int) (br:Value) (d:List UInt8) (bI:HP a0 br d) :Fn Tryz.prog 23 #[bq,(vi b),br] a0 (fun v ak=>Keep a0 ak∧Rq ak a0.heap.size v (IB a b d)):=by
 obtain ⟨aE,aF,aG,aH,aI,aJ,aT,aU,aV,aW,aX,aY,rfl,bc,bd,be,bg,bh,bi,bu,bv,bw,bz,b0,b1⟩:=bH
 obtain ⟨b2,b3,rfl,bJ,bK⟩:=bI
 refine FI (n:=38) [(va (GH a aE aF aG aH aI aJ aT aU aV aW aX aY)),(vi b),(vs b2 d.length b3)] Tryz.func23 rfl rfl ?_
 refine sr<|bx (GH a aE aF aG aH aI aJ aT aU aV aW aX aY) wN ?_
 intro bj db dc bL r bM
 refine al Mf wN HR ?_
 intro aK dd b4 x s b5
 refine al JR wN JG ?_
 intro aL aM am aj j b6
 have aq:=(((Ch.base a0).extk r).extk s).extk j
 refine aw (vi 0) ?_
 refine nx ?_
 have b7:=((bM.kp s).kp j)
 refine lN (GH a aE aF aG aH aI aJ aT aU aV aW aX aY) wN wb uC b7 ?_
 refine cl wN (ME aM _ a (KI (bc.from0 aq) bd (be.from0 aq) bg (bh.from0 aq) bi (bu.from0 aq) bv (bw.from0 aq) bz (b0.from0 aq) b1)) ?_
 rintro _ aZ ⟨l,⟨F,G,aN,aO,aP,aQ,H,I,J,K,L,M,rfl,Q,b8,b9,bN,bA,bO,R,bB,S,bC,T,bD,p⟩⟩
 refine al Mf wN HR ?_
 intro bP de P ba i bQ
 refine sv (GH (a) F G aN aO aP aQ H I J K L M) wN uC bQ ?_
 intro bR f bE df
 have au:=((aq.extk l).extk i).ext f (fun k hk=>by subst hk;exact nT (z4 r s j l) P)
 refine n4 ?_
 have bF:=(((b7.kp l).kp i).ch f (nN (nL bL (nT (z3 s j l) P))))
 refine lN (GH a aE aF aG aH aI aJ aT aU aV aW aX aY) wN wb uC bF ?_
 refine cl wN (Nh bR _ a (KI (bc.from0 au) bd (be.from0 au) bg (bh.from0 au) bi (bu.from0 au) bv (bw.from0 au) bz (b0.from0 au) b1)) ?_
 rintro _ bk ⟨e,rfl⟩
 have a1:=au.extk e
 refine pu (vb (!(Gb a))) wN ?_
 refine n2 ?_
 rcases bf (Gb a) with a2|a2
 ·refine ct (cA not a2)<|sr ?_
  have bS:=(bE.kp e)
  refine lN (GH (a) F G aN aO aP aQ H I J K L M) wN wb uC bS ?_
  refine pu (va JR) wN ?_
  have bT:=(((((b5.kp j).kp l).kp i).ch f (nN (nL x (nT (z2 j l) P)))).kp e)
  refine sv (GH (a) F G aN aO aP aQ H I J K L M) wN uC bT ?_
  intro bl bm bU dg
  have bW:=a1.ext bm (fun k hk=>by subst hk;exact nT r.size b4)
  have bX:=(((((b6.kp l).kp i).ch f (nN (nL aj (nT l.size P)))).kp e).ch bm (Ne.symm (nN (nL x (am)))))
  refine sv JR wN FD bX ?_
  intro bY bn bZ dh
  have ca:=bW.ext bn (fun k hk=>by subst hk;exact nT (z2 r s) am)
  refine aw (vi 1) ?_
  refine n1 ?_
  have cb:=(bU.ch bn (nN (nL x (am))))
  have a3:=fun (E sz n:Nat) (v:Value) (an:List Value) (o:World.ownsRow aZ aM.heap.size E sz v n an) (y:World.ownsRow aZ aM.heap.size E sz v n an)=>(tC (tC (gc (tC (gc o i) f (ne2 y (P))) e) bm (ne1 y (nL x j.size))) bn (ne1 y (aj)))
  have cc:=(a3 _ _ _ _ _ Q Q)
  have cd:=(a3 _ _ _ _ _ b9 b9)
  have ce:=(a3 _ _ _ _ _ bA bA)
  have cg:=(a3 _ _ _ _ _ R R)
  have ci:=(a3 _ _ _ _ _ S S)
  have cj:=(a3 _ _ _ _ _ T T)
  refine Hu (.inl rfl) (va (GH (a) F G aN aO aP aQ H I J K L M)) (va JR) (vi 1) rfl (HL (GH (a) F G aN aO aP aQ H I J K L M) rfl cb wb uC) (HL JR rfl bZ Gg FD) rfl ?_
  refine ⟨ca.keep0,?_⟩
  simp only [IB,a2,cond_true,cond_false]
  exact ⟨_,_,_,_,_,_,_,_,_,_,_,_,_,_,_,_,_,_,_,_,_,_,_,_,rfl,(tA cc (z3 r s j)),b8,(tA cd (z3 r s j)),bN,(tA ce (z3 r s j)),bO,(tA cg (z3 r s j)),bB,(tA ci (z3 r s j)),bC,(tA cj (z3 r s j)),bD,(by first|exact FL _ _ _ _|exact OLv.nil _ _ _ _),(by simp),(by first|exact FL _ _ _ _|exact OLv.nil _ _ _ _),(by simp),(by first|exact FL _ _ _ _|exact OLv.nil _ _ _ _),(by simp),(by first|exact FL _ _ _ _|exact OLv.nil _ _ _ _),(by simp),(by first|exact FL _ _ _ _|exact OLv.nil _ _ _ _),(by simp),(by first|exact FL _ _ _ _|exact OLv.nil _ _ _ _),(by simp),⟨⟨(p.1.1),⟨(p.1.2.1),⟨(p.1.2.2.1),⟨(p.1.2.2.2.1),⟨(p.1.2.2.2.2.1),⟨(Ap.nr _),⟨(Ap.nr _),⟨(Ap.nr _),⟨(Ap.nr _),⟨(Ap.nr _),⟨(Ap.nr _),trivial⟩⟩⟩⟩⟩⟩⟩⟩⟩⟩⟩,⟨⟨(p.2.1.1),⟨(p.2.1.2.1),⟨(p.2.1.2.2.1),⟨(p.2.1.2.2.2.1),⟨(Ap.nr _),⟨(Ap.nr _),⟨(Ap.nr _),⟨(Ap.nr _),⟨(Ap.nr _),⟨(Ap.nr _),trivial⟩⟩⟩⟩⟩⟩⟩⟩⟩⟩,⟨⟨(p.2.2.1.1),⟨(p.2.2.1.2.1),⟨(p.2.2.1.2.2.1),⟨(Ap.nr _),⟨(Ap.nr _),⟨(Ap.nr _),⟨(Ap.nr _),⟨(Ap.nr _),⟨(Ap.nr _),trivial⟩⟩⟩⟩⟩⟩⟩⟩⟩,⟨⟨(p.2.2.2.1.1),⟨(p.2.2.2.1.2.1),⟨(Ap.nr _),⟨(Ap.nr _),⟨(Ap.nr _),⟨(Ap.nr _),⟨(Ap.nr _),⟨(Ap.nr _),trivial⟩⟩⟩⟩⟩⟩⟩⟩,⟨⟨(p.2.2.2.2.1.1),⟨(Ap.nr _),⟨(Ap.nr _),⟨(Ap.nr _),⟨(Ap.nr _),⟨(Ap.nr _),⟨(Ap.nr _),trivial⟩⟩⟩⟩⟩⟩⟩,⟨⟨(Ap.nr _),⟨(Ap.nr _),⟨(Ap.nr _),⟨(Ap.nr _),⟨(Ap.nr _),⟨(Ap.nr _),trivial⟩⟩⟩⟩⟩⟩,⟨⟨(Ap.nl _),⟨(Ap.nl _),⟨(Ap.nl _),⟨(Ap.nl _),⟨(Ap.nl _),trivial⟩⟩⟩⟩⟩,⟨⟨(Ap.nl _),⟨(Ap.nl _),⟨(Ap.nl _),⟨(Ap.nl _),trivial⟩⟩⟩⟩,⟨⟨(Ap.nl _),⟨(Ap.nl _),⟨(Ap.nl _),trivial⟩⟩⟩,⟨⟨(Ap.nl _),⟨(Ap.nl _),trivial⟩⟩,⟨⟨(Ap.nl _),trivial⟩,⟨trivial,trivial⟩⟩⟩⟩⟩⟩⟩⟩⟩⟩⟩⟩⟩
 have di:=JL a2
 refine cf (cA not a2)<|y1<|pu (vp bj 2) wN ?_
 have bo:=(bF.kp e)
 refine lN (Gx a.Cur aG aH aI aJ) wN FE uE bo ?_
 refine pu (vp bj 0) wN ?_
 refine ld (vi a.Role) wN tE bo ?_
 refine pu (vp bj 1) wN ?_
 refine ld (vs aE a.Sn.length aF) wN uH bo ?_
 refine mw (vi b) ?_
 refine mw (vs b2 d.length b3) ?_
 refine cl wN (Su bk _ a.Cur (IP (be.from0 a1) bg (bh.from0 a1) bi) a.Role _ a.Sn (FV (bc.from0 a1) bd) b _ d (FV (bJ.from0 a1) bK)) ?_
 rintro _ bl ⟨u,⟨A,B,C,D,V,W,X,Y,Z,aa,ab,ac,ad,ae,af,ah,rfl,a4,ck,a5,cm,a6,cn,a7,co,a8,cp,a9,cq,aA,cr,aB,cs,m⟩⟩
 refine mw (.tuple #[(va (Gx ((uM a.Cur a.Role a.Sn b d).1) A B C D)),(va (HH ((uM a.Cur a.Role a.Sn b d).2.1) V W X Y Z aa ab ac ad ae af ah)),(vi ((uM a.Cur a.Role a.Sn b d).2.2))]) ?_
 refine pu (va (Gx ((uM a.Cur a.Role a.Sn b d).1) A B C D)) wN ?_
 refine pu (va (HH ((uM a.Cur a.Role a.Sn b d).2.1) V W X Y Z aa ab ac ad ae af ah)) wN ?_
 refine pu (vi ((uM a.Cur a.Role a.Sn b d).2.2)) wN ?_
 refine al Ks wN Hy ?_
 intro dj bY aC bG O cu
 have cv:=(a1.extk u).extk O
 refine al JR wN JG ?_
 intro dk dl ai dm av cw
 have cx:=(cu.kp av)
 refine sv (Gx ((uM a.Cur a.Role a.Sn b d).1) A B C D) wN uE cx ?_
 intro dn ax cy dp
 have cz:=(cv.extk av).ext ax (fun k hk=>by subst hk;exact nT (z8 r s j l i f e u) aC)
 have c0:=(cw.ch ax (Ne.symm (nN (nL bG (ai)))))
 refine sv (HH ((uM a.Cur a.Role a.Sn b d).2.1) V W X Y Z aa ab ac ad ae af ah) wN FD c0 ?_
 intro dq ay c1 dr
 have c2:=cz.ext ay (fun k hk=>by subst hk;exact nT (z9 r s j l i f e u O) ai)
 refine aw (vi ((uM a.Cur a.Role a.Sn b d).2.2)) ?_
 refine nx ?_
 have c3:=(cy.ch ay (nN (nL bG (ai))))
 refine lN (Gx ((uM a.Cur a.Role a.Sn b d).1) A B C D) wN FE uE c3 ?_
 refine pu (vp bP 2) wN ?_
 have c4:=((((((bE.kp e).kp u).kp O).kp av).ch ax (nN (nL ba (nT (z3 f e u) aC)))).ch ay (nN (nL ba (nT (z4 f e u O) ai))))
 refine st (va (Gx ((uM a.Cur a.Role a.Sn b d).1) A B C D)) (Gx ((uM a.Cur a.Role a.Sn b d).1) A B C D) [(vi ((a).Role)),(vs F ((a).Sn).length G),(vi (((uM a.Cur a.Role a.Sn b d).1).N)),(vs A (((uM a.Cur a.Role a.Sn b d).1).Key).length B),(vi (((uM a.Cur a.Role a.Sn b d).1).Seq)),(vi ((((uM a.Cur a.Role a.Sn b d).1).Win).Top)),(vs C ((((uM a.Cur a.Role a.Sn b d).1).Win).Bits).length D),(vi (((a).Old).N)),(vs H (((a).Old).Key).length I),(vi (((a).Old).Seq)),(vi ((((a).Old).Win).Top)),(vs J ((((a).Old).Win).Bits).length K),(vb ((a).HasOld)),(vi ((a).Until)),(vs L ((a).Next).length M)] wN uE c4 ?_
 intro c5 aD c6 ds
 have c7:=c2.ext aD (fun k hk=>by subst hk;exact nT (z4 r s j l) P)
 refine uD<|rg<|uK ?_
 have c8:=(((((((((((b5.kp j).kp l).kp i).ch f (nN (nL x (nT (z2 j l) P)))).kp e).kp u).kp O).kp av).ch ax (nN (nL x (nT (z6 j l i f e u) aC)))).ch ay (nN (nL x (nT (z7 j l i f e u O) ai)))).ch aD (nN (nL x (nT (z2 j l) P))))
 have c9:=((((((((((b6.kp l).kp i).ch f (nN (nL aj (nT l.size P)))).kp e).kp u).kp O).kp av).ch ax (nN (nL aj (nT (z5 l i f e u) aC)))).ch ay (nN (nL aj (nT (z6 l i f e u O) ai)))).ch aD (nN (nL aj (nT l.size P))))
 refine Ga ([(35,[],[],(fun _ v _=>v=(va [(vi ((a).Role)),(vs F ((a).Sn).length G),(vi (((uM a.Cur a.Role a.Sn b d).1).N)),(vs A (((uM a.Cur a.Role a.Sn b d).1).Key).length B),(vi (((uM a.Cur a.Role a.Sn b d).1).Seq)),(vi ((((uM a.Cur a.Role a.Sn b d).1).Win).Top)),(vs C ((((uM a.Cur a.Role a.Sn b d).1).Win).Bits).length D),(vi (((a).Old).N)),(vs H (((a).Old).Key).length I),(vi (((a).Old).Seq)),(vi ((((a).Old).Win).Top)),(vs J ((((a).Old).Win).Bits).length K),(vb ((a).HasOld)),(vi ((a).Until)),(vs L ((a).Next).length M)]))),(36,[],[],(fun _ v _=>v=(va (HH ((uM a.Cur a.Role a.Sn b d).2.1) V W X Y Z aa ab ac ad ae af ah)))),(37,[],[],(fun _ v _=>v=(vi ((uM a.Cur a.Role a.Sn b d).2.2)))),(41,[],[0],(fun _ _ w=>BK w aK 38 0 ([(vi ((a).Role)),(vs F ((a).Sn).length G),(vi (((uM a.Cur a.Role a.Sn b d).1).N)),(vs A (((uM a.Cur a.Role a.Sn b d).1).Key).length B),(vi (((uM a.Cur a.Role a.Sn b d).1).Seq)),(vi ((((uM a.Cur a.Role a.Sn b d).1).Win).Top)),(vs C ((((uM a.Cur a.Role a.Sn b d).1).Win).Bits).length D),(vi (((a).Old).N)),(vs H (((a).Old).Key).length I),(vi (((a).Old).Seq)),(vi ((((a).Old).Win).Top)),(vs J ((((a).Old).Win).Bits).length K),(vb ((a).HasOld)),(vi ((a).Until)),(vs L ((a).Next).length M)]))),(42,[],[0,1,3],(fun _ _ w=>BK w aL 42 0 ((HH ((uM a.Cur a.Role a.Sn b d).2.1) V W X Y Z aa ab ac ad ae af ah))))]:GV) (fun lf ak=>Ch (fun k=>k=aK∨k=aL) c5 ak∧RK lf ak aK 38 Mf [(3,0,15)]∧RK lf ak aL 42 JR [(4,0,11)]) [(3,TK aK 38 0 15),(4,TK aL 42 0 11)] GU rfl (by kernel_rfl) (by kernel_rfl) ?_ (fun _ _ h=>⟨h.to _,RK.z c8 h,RK.z c9 h⟩) (fun _ _ _ _ h mo k=>by obtain ⟨hc,aR,aS⟩:=h;exact ⟨hc.comp k (fun _ _ q=>q.elim),aR.kp mo k,aS.kp mo k⟩) ⟨(fun _ _ w ak h mo hj t=>by obtain ⟨hc,aR,aS⟩:=h;exact ⟨hc.comp t.1 (fun _ _ q=>(.inl q)),aR.st mo hj (.head _) t,aS.ch mo t.1 (Ne.symm (nN (nL x (am))))⟩),⟨(fun _ _ w ak h mo hj t=>by obtain ⟨hc,aR,aS⟩:=h;exact ⟨hc.comp t.1 (fun _ _ q=>(.inr q)),aR.ch mo t.1 (nN (nL x (am))),aS.st mo hj (.head _) t⟩),trivial⟩⟩ ?_ ?_ ?_
 ·exact ⟨hV,hE,⟨hV,hE,⟨hV,hE,⟨sK,hE,⟨sK,hE,trivial⟩⟩⟩⟩⟩
 ·exact ⟨⟨.inr hV,⟨.inr hV,⟨.inr hV,⟨.inl rfl,⟨.inr (sKo (fun _ _ t=>t.1) (Ne.symm (nN (nL x (am))))),trivial⟩⟩⟩⟩⟩,⟨⟨.inr hV,⟨.inr hV,⟨.inr hV,⟨.inr (sKo (fun _ _ t=>t.1) (nN (nL x (am)))),⟨.inl rfl,trivial⟩⟩⟩⟩⟩,trivial⟩⟩
 ·refine ⟨?_,⟨?_,⟨?_,⟨?_,⟨?_,trivial⟩⟩⟩⟩⟩
  ·rintro lf az ⟨cC,dt,du⟩ ⟨dv,dw,-⟩
   rintro _ _ _ _ _
   refine sw ?_
   have cD:=(c6.ch cC (fun h=>Or.elim h (Ne.symm (nN (nL x (nT (z2 j l) P)))) (Ne.symm (nN (nL aj (nT l.size P))))))
   refine lN [(vi ((a).Role)),(vs F ((a).Sn).length G),(vi (((uM a.Cur a.Role a.Sn b d).1).N)),(vs A (((uM a.Cur a.Role a.Sn b d).1).Key).length B),(vi (((uM a.Cur a.Role a.Sn b d).1).Seq)),(vi ((((uM a.Cur a.Role a.Sn b d).1).Win).Top)),(vs C ((((uM a.Cur a.Role a.Sn b d).1).Win).Bits).length D),(vi (((a).Old).N)),(vs H (((a).Old).Key).length I),(vi (((a).Old).Seq)),(vi ((((a).Old).Win).Top)),(vs J ((((a).Old).Win).Bits).length K),(vb ((a).HasOld)),(vi ((a).Until)),(vs L ((a).Next).length M)] wN wb uC cD ?_
   exact f1
  ·rintro lf az ⟨cE,dx,dy⟩ ⟨dz,d0,-⟩
   rintro _ _ _ _ _
   refine sw ?_
   have cF:=((c1.ch aD (Ne.symm (nN (nL ba (nT (z4 f e u O) ai))))).ch cE (fun h=>Or.elim h (Ne.symm (nN (nL x (nT (z7 j l i f e u O) ai)))) (Ne.symm (nN (nL aj (nT (z6 l i f e u O) ai))))))
   refine lN (HH ((uM a.Cur a.Role a.Sn b d).2.1) V W X Y Z aa ab ac ad ae af ah) wN Gg FD cF ?_
   exact f1
  ·rintro lf az ⟨d1,d2,d3⟩ ⟨d4,d5,-⟩
   rintro _ _ _ _ _
   refine sw<|mw (vi ((uM a.Cur a.Role a.Sn b d).2.2)) ?_
   exact f1
  ·rintro lf az ⟨d6,cG,d7⟩ ⟨d8,d9,-⟩
   rintro _ rfl _ _ _ _
   exact sw<|stK (va [(vi ((a).Role)),(vs F ((a).Sn).length G),(vi (((uM a.Cur a.Role a.Sn b d).1).N)),(vs A (((uM a.Cur a.Role a.Sn b d).1).Key).length B),(vi (((uM a.Cur a.Role a.Sn b d).1).Seq)),(vi ((((uM a.Cur a.Role a.Sn b d).1).Win).Top)),(vs C ((((uM a.Cur a.Role a.Sn b d).1).Win).Bits).length D),(vi (((a).Old).N)),(vs H (((a).Old).Key).length I),(vi (((a).Old).Seq)),(vi ((((a).Old).Win).Top)),(vs J ((((a).Old).Win).Bits).length K),(vb ((a).HasOld)),(vi ((a).Until)),(vs L ((a).Next).length M)]) [(vi ((a).Role)),(vs F ((a).Sn).length G),(vi (((uM a.Cur a.Role a.Sn b d).1).N)),(vs A (((uM a.Cur a.Role a.Sn b d).1).Key).length B),(vi (((uM a.Cur a.Role a.Sn b d).1).Seq)),(vi ((((uM a.Cur a.Role a.Sn b d).1).Win).Top)),(vs C ((((uM a.Cur a.Role a.Sn b d).1).Win).Bits).length D),(vi (((a).Old).N)),(vs H (((a).Old).Key).length I),(vi (((a).Old).Seq)),(vi ((((a).Old).Win).Top)),(vs J ((((a).Old).Win).Bits).length K),(vb ((a).HasOld)),(vi ((a).Until)),(vs L ((a).Next).length M)] wN uC cG (fun _ h=>h) (fun _ t=>t)
  ·rintro lf az ⟨dA,dB,cH⟩ ⟨dC,dD,-⟩
   rintro _ rfl _ rfl _ _ _ _
   exact sw<|stK (va (HH ((uM a.Cur a.Role a.Sn b d).2.1) V W X Y Z aa ab ac ad ae af ah)) (HH ((uM a.Cur a.Role a.Sn b d).2.1) V W X Y Z aa ab ac ad ae af ah) wN FD cH (fun _ h=>h) (fun _ t=>t)
 ·rintro lf az ⟨bp,cI,cJ⟩
  have cK:=c7.ext bp (fun k hk=>(fun hk=>Or.elim hk (fun hk=>by subst hk;exact nT r.size b4) (fun hk=>by subst hk;exact nT (z2 r s) am)) hk)
  rintro _ rfl _ rfl _ rfl _ cL _ cM
  have cN:Blk az aK 38 [(vi ((a).Role)),(vs F ((a).Sn).length G),(vi (((uM a.Cur a.Role a.Sn b d).1).N)),(vs A (((uM a.Cur a.Role a.Sn b d).1).Key).length B),(vi (((uM a.Cur a.Role a.Sn b d).1).Seq)),(vi ((((uM a.Cur a.Role a.Sn b d).1).Win).Top)),(vs C ((((uM a.Cur a.Role a.Sn b d).1).Win).Bits).length D),(vi (((a).Old).N)),(vs H (((a).Old).Key).length I),(vi (((a).Old).Seq)),(vi ((((a).Old).Win).Top)),(vs J ((((a).Old).Win).Bits).length K),(vb ((a).HasOld)),(vi ((a).Until)),(vs L ((a).Next).length M)]:=RK.fin cI [(0,[(vi ((a).Role)),(vs F ((a).Sn).length G),(vi (((uM a.Cur a.Role a.Sn b d).1).N)),(vs A (((uM a.Cur a.Role a.Sn b d).1).Key).length B),(vi (((uM a.Cur a.Role a.Sn b d).1).Seq)),(vi ((((uM a.Cur a.Role a.Sn b d).1).Win).Top)),(vs C ((((uM a.Cur a.Role a.Sn b d).1).Win).Bits).length D),(vi (((a).Old).N)),(vs H (((a).Old).Key).length I),(vi (((a).Old).Seq)),(vi ((((a).Old).Win).Top)),(vs J ((((a).Old).Win).Bits).length K),(vb ((a).HasOld)),(vi ((a).Until)),(vs L ((a).Next).length M)])] ⟨cL,trivial⟩
  have cO:Blk az aL 42 (HH ((uM a.Cur a.Role a.Sn b d).2.1) V W X Y Z aa ab ac ad ae af ah):=RK.fin cJ [(0,(HH ((uM a.Cur a.Role a.Sn b d).2.1) V W X Y Z aa ab ac ad ae af ah))] ⟨cM,trivial⟩
  refine sw<|aw (vi ((uM a.Cur a.Role a.Sn b d).2.2)) ?_
  refine n3 ?_
  have bb:=fun (E sz n:Nat) (v:Value) (an:List Value) (o:World.ownsRow aZ aM.heap.size E sz v n an) (y:World.ownsRow aZ aM.heap.size E sz v n an)=>(tC (tC (tC (tC (gc (gc (gc (gc (tC (gc o i) f (ne2 y (P))) e) u) O) av) ax (ne2 y (nT (z4 i f e u) aC))) ay (ne2 y (nT (z5 i f e u O) ai))) aD (ne2 y (P))) bp (fun g hg hlt hk=>Or.elim hk (fun hk=>(ne1 y (nL x j.size)) g hg hlt hk) (fun hk=>(ne1 y (aj)) g hg hlt hk)))
  have cP:=(bb _ _ _ _ _ Q Q)
  have ao:=fun (E sz n:Nat) (v:Value) (an:List Value) (o:World.ownsRow bl bk.heap.size E sz v n an) (y:World.ownsRow bl bk.heap.size E sz v n an)=>(tC (tC (tC (tC (gc (gc o O) av) ax (ne2 y (aC))) ay (ne2 y (nT O.size ai))) aD (ne1 y (nL ba (z2 f e)))) bp (fun g hg hlt hk=>Or.elim hk (fun hk=>(ne1 y (nL x (z5 j l i f e))) g hg hlt hk) (fun hk=>(ne1 y (nL aj (z4 l i f e))) g hg hlt hk)))
  have cQ:=(ao _ _ _ _ _ a4 a4)
  have cR:=(ao _ _ _ _ _ a5 a5)
  have cS:=(bb _ _ _ _ _ R R)
  have cT:=(bb _ _ _ _ _ S S)
  have cU:=(bb _ _ _ _ _ T T)
  have cV:=(ao _ _ _ _ _ a6 a6)
  have cW:=(ao _ _ _ _ _ a7 a7)
  have cX:=(ao _ _ _ _ _ a8 a8)
  have cY:=(ao _ _ _ _ _ a9 a9)
  have cZ:=(ao _ _ _ _ _ aA aA)
  have da:=(ao _ _ _ _ _ aB aB)
  refine Hu (.inl rfl) (va [(vi ((a).Role)),(vs F ((a).Sn).length G),(vi (((uM a.Cur a.Role a.Sn b d).1).N)),(vs A (((uM a.Cur a.Role a.Sn b d).1).Key).length B),(vi (((uM a.Cur a.Role a.Sn b d).1).Seq)),(vi ((((uM a.Cur a.Role a.Sn b d).1).Win).Top)),(vs C ((((uM a.Cur a.Role a.Sn b d).1).Win).Bits).length D),(vi (((a).Old).N)),(vs H (((a).Old).Key).length I),(vi (((a).Old).Seq)),(vi ((((a).Old).Win).Top)),(vs J ((((a).Old).Win).Bits).length K),(vb ((a).HasOld)),(vi ((a).Until)),(vs L ((a).Next).length M)]) (va (HH ((uM a.Cur a.Role a.Sn b d).2.1) V W X Y Z aa ab ac ad ae af ah)) (vi ((uM a.Cur a.Role a.Sn b d).2.2)) rfl (HL [(vi ((a).Role)),(vs F ((a).Sn).length G),(vi (((uM a.Cur a.Role a.Sn b d).1).N)),(vs A (((uM a.Cur a.Role a.Sn b d).1).Key).length B),(vi (((uM a.Cur a.Role a.Sn b d).1).Seq)),(vi ((((uM a.Cur a.Role a.Sn b d).1).Win).Top)),(vs C ((((uM a.Cur a.Role a.Sn b d).1).Win).Bits).length D),(vi (((a).Old).N)),(vs H (((a).Old).Key).length I),(vi (((a).Old).Seq)),(vi ((((a).Old).Win).Top)),(vs J ((((a).Old).Win).Bits).length K),(vb ((a).HasOld)),(vi ((a).Until)),(vs L ((a).Next).length M)] rfl cN wb uC) (HL (HH ((uM a.Cur a.Role a.Sn b d).2.1) V W X Y Z aa ab ac ad ae af ah) rfl cO Gg FD) rfl ?_
  refine ⟨cK.keep0,?_⟩
  simp only [IB,a2,cond_true,cond_false]
  have ap:=z7 r s j l i f e
  exact ⟨_,_,_,_,_,_,_,_,_,_,_,_,_,_,_,_,_,_,_,_,_,_,_,_,rfl,(tA cP (z3 r s j)),b8,(tA cQ ap),ck,(tA cR ap),cm,(tA cS (z3 r s j)),bB,(tA cT (z3 r s j)),bC,(tA cU (z3 r s j)),bD,(tA cV ap),cn,(tA cW ap),co,(tA cX ap),cp,(tA cY ap),cq,(tA cZ ap),cr,(tA da ap),cs,⟨⟨(Ap.lt Q a4 (z3 i f e)),⟨(Ap.lt Q a5 (z3 i f e)),⟨(p.1.2.2.1),⟨(p.1.2.2.2.1),⟨(p.1.2.2.2.2.1),⟨(Ap.lt Q a6 (z3 i f e)),⟨(Ap.lt Q a7 (z3 i f e)),⟨(Ap.lt Q a8 (z3 i f e)),⟨(Ap.lt Q a9 (z3 i f e)),⟨(Ap.lt Q aA (z3 i f e)),⟨(Ap.lt Q aB (z3 i f e)),trivial⟩⟩⟩⟩⟩⟩⟩⟩⟩⟩⟩,⟨⟨(m.1.1),⟨(Ap.lt R a4 (z3 i f e)).symm,⟨(Ap.lt S a4 (z3 i f e)).symm,⟨(Ap.lt T a4 (z3 i f e)).symm,⟨(m.1.2.1),⟨(m.1.2.2.1),⟨(m.1.2.2.2.1),⟨(m.1.2.2.2.2.1),⟨(m.1.2.2.2.2.2.1),⟨(m.1.2.2.2.2.2.2.1),trivial⟩⟩⟩⟩⟩⟩⟩⟩⟩⟩,⟨⟨(Ap.lt R a5 (z3 i f e)).symm,⟨(Ap.lt S a5 (z3 i f e)).symm,⟨(Ap.lt T a5 (z3 i f e)).symm,⟨(m.2.1.1),⟨(m.2.1.2.1),⟨(m.2.1.2.2.1),⟨(m.2.1.2.2.2.1),⟨(m.2.1.2.2.2.2.1),⟨(m.2.1.2.2.2.2.2.1),trivial⟩⟩⟩⟩⟩⟩⟩⟩⟩,⟨⟨(p.2.2.2.1.1),⟨(p.2.2.2.1.2.1),⟨(Ap.lt R a6 (z3 i f e)),⟨(Ap.lt R a7 (z3 i f e)),⟨(Ap.lt R a8 (z3 i f e)),⟨(Ap.lt R a9 (z3 i f e)),⟨(Ap.lt R aA (z3 i f e)),⟨(Ap.lt R aB (z3 i f e)),trivial⟩⟩⟩⟩⟩⟩⟩⟩,⟨⟨(p.2.2.2.2.1.1),⟨(Ap.lt S a6 (z3 i f e)),⟨(Ap.lt S a7 (z3 i f e)),⟨(Ap.lt S a8 (z3 i f e)),⟨(Ap.lt S a9 (z3 i f e)),⟨(Ap.lt S aA (z3 i f e)),⟨(Ap.lt S aB (z3 i f e)),trivial⟩⟩⟩⟩⟩⟩⟩,⟨⟨(Ap.lt T a6 (z3 i f e)),⟨(Ap.lt T a7 (z3 i f e)),⟨(Ap.lt T a8 (z3 i f e)),⟨(Ap.lt T a9 (z3 i f e)),⟨(Ap.lt T aA (z3 i f e)),⟨(Ap.lt T aB (z3 i f e)),trivial⟩⟩⟩⟩⟩⟩,⟨⟨(m.2.2.1.1),⟨(m.2.2.1.2.1),⟨(m.2.2.1.2.2.1),⟨(m.2.2.1.2.2.2.1),⟨(m.2.2.1.2.2.2.2.1),trivial⟩⟩⟩⟩⟩,⟨⟨(m.2.2.2.1.1),⟨(m.2.2.2.1.2.1),⟨(m.2.2.2.1.2.2.1),⟨(m.2.2.2.1.2.2.2.1),trivial⟩⟩⟩⟩,⟨⟨(m.2.2.2.2.1.1),⟨(m.2.2.2.2.1.2.1),⟨(m.2.2.2.2.1.2.2.1),trivial⟩⟩⟩,⟨⟨(m.2.2.2.2.2.1.1),⟨(m.2.2.2.2.2.1.2.1),trivial⟩⟩,⟨⟨(m.2.2.2.2.2.2.1.1),trivial⟩,⟨trivial,trivial⟩⟩⟩⟩⟩⟩⟩⟩⟩⟩⟩⟩⟩

theorem SX (f:World) (w:Value) (d:List UInt8) (D:HP f w d) (y:Value) (e:List UInt8) (E:HP f y e) :Fn Tryz.prog 45 #[w,y] f (fun v o=>Keep f o∧O_3 o f.heap.size v (Ij d e)):=by
 obtain ⟨i,j,rfl,s,R⟩:=D
 obtain ⟨l,m,rfl,t,S⟩:=E
 refine FI (n:=31) [(vs i d.length j),(vs l e.length m)] Tryz.func45 rfl rfl ?_
 refine sr<|aw (vi 0) ?_
 refine n4<|mw (vs i d.length j) ?_
 refine ln wN tD s ?_
 refine mw (vs l e.length m) ?_
 refine ln wN tD t ?_
 refine pu (vb (!(decide ((d.length:Int)=(e.length:Int))))) wN ?_
 refine n2 ?_
 rcases bf (decide ((d.length:Int)=(e.length:Int))) with q|q
 ·have T:=dF q
  refine ct (cA not q)<|sr<|aw (vi (-1)) ?_
  refine n1<|rt (vi (-1)) ?_
  refine ⟨Ch.refl _ _,?_⟩
  have F:Ij d e=(-1):=by first|exact LS (by omega)|exact LR (by omega) (by omega) (by omega)
  rw [F]
  exact rfl
 have V:=dT q
 refine cf (cA not q)<|y1<|aw (vi 0) ?_
 refine n4<|mw (vs i d.length j) ?_
 refine ln wN tD s ?_
 refine mw (vi 0) ?_
 refine uD<|rg<|uJ<|Ge [(0,(vs i d.length j)),(1,(vs l e.length m)),(4,(vi 0)),(5,(vi (orX d e 0))),(13,(vi (d.length:Int))),(14,(vi ((0:Nat):Int)))] ⟨rfl,rfl,rfl,(cA (Value.int .i64) (show (0:Int)=(orX d e 0) by rfl)),rfl,(cA (Value.int .i64) (show (0:Int)=((0:Nat):Int) by omega)),trivial⟩ (fun e' o=>∃ (k:Nat) (A:Env),e'=pt A [(0,(vs i d.length j)),(1,(vs l e.length m)),(4,(vi 0)),(5,(vi (orX d e k))),(13,(vi (d.length:Int))),(14,(vi ((k:Nat):Int)))]∧Ch (fun k=>f.heap.size≤k) f o∧Ch (fun k=>f.heap.size≤k) f o∧k≤d.length) (fun e' _=>d.length - ((intOf (e' 14))).toNat) ?_ ?_
 ·exact fun u=>⟨0,u,rfl,(Ch.base f),(Ch.refl (fun k=>f.heap.size≤k) f),(by omega)⟩
 ·rintro _ B ⟨k,A,rfl,p,G,W⟩
  have hob:=Ui d e k
  have X:(d.getD k 0^^^e.getD k 0).toNat < 256:=UInt8.toNat_lt _
  refine sr<|pu (vb (decide (((k:Nat):Int) < (d.length:Int)))) wN ?_
  refine uD<|rg<|uK ?_
  rcases bf (decide (((k:Nat):Int) < (d.length:Int))) with r|r
  ·have Y:=dF r
   refine cf r<|Gn<|uA<|uA<|wr<|rg<|sr<|mw (vi (orX d e k)) ?_
   refine aw (vi (orX d e k)) ?_
   refine n3<|rt (vi (orX d e k)) ?_
   refine ⟨p.keep0,?_⟩
   have H:Ij d e=(orX d e k):=by first|exact LS (by omega)|exact LR (by omega) (by omega) (by omega)
   rw [H]
   exact rfl
  have Z:=dT r
  refine ct r<|FR<|rg<|uK<|uJ<|sr<|mw (vi ((k:Nat):Int)) ?_
  refine aw (vi ((k:Nat):Int)) ?_
  refine n2<|Ga ([(17,[],[],(fun _ v _=>v=(vi (orX d e k)))),(18,[],[],(fun _ v _=>v=(vs i d.length j))),(19,[],[],(fun _ v _=>v=(vi ((k:Nat):Int)))),(20,[],[1,2],(fun _ v _=>v=(ve (vs i d.length j) ((((k:Nat):Int)).toNat*1)))),(21,[],[1,2,3],(fun _ v _=>v=(v8 ((d.getD k 0).toNat:Int)))),(22,[],[],(fun _ v _=>v=(vs l e.length m))),(23,[],[],(fun _ v _=>v=(vi ((k:Nat):Int)))),(24,[],[5,6],(fun _ v _=>v=(ve (vs l e.length m) ((((k:Nat):Int)).toNat*1)))),(25,[],[5,6,7],(fun _ v _=>v=(v8 ((e.getD k 0).toNat:Int)))),(26,[],[1,2,3,4,5,6,7,8],(fun _ v _=>v=(v8 (((d.getD k 0)^^^(e.getD k 0)).toNat:Int)))),(27,[],[1,2,3,4,5,6,7,8,9],(fun _ v _=>v=(vi (((d.getD k 0)^^^(e.getD k 0)).toNat:Int))))]:GV) (fun _ o=>Keep B o) [] GU rfl (by kernel_rfl) (by kernel_rfl) ?_ (fun _ _ h=>h) (fun _ _ _ _ h _ k=>h.trans k) trivial ?_ ?_ ?_
  ·exact ⟨hV,hE,⟨hV,hE,⟨hV,hE,⟨hV,hE,⟨hV,hE,⟨hV,hE,⟨hV,hE,⟨hV,hE,⟨hV,hE,⟨hV,hE,⟨hV,hE,trivial⟩⟩⟩⟩⟩⟩⟩⟩⟩⟩⟩
  ·exact trivial
  ·refine ⟨?_,⟨?_,⟨?_,⟨?_,⟨?_,⟨?_,⟨?_,⟨?_,⟨?_,⟨?_,⟨?_,trivial⟩⟩⟩⟩⟩⟩⟩⟩⟩⟩⟩
   ·intro _ g aa _
    rintro _ _ _ _ _ _ _ _ _ _ _
    refine sw<|mw (vi (orX d e k)) ?_
    exact f1
   ·intro _ g ab _
    rintro _ _ _ _ _ _ _ _ _ _ _
    refine sw<|mw (vs i d.length j) ?_
    exact f1
   ·intro _ g ac _
    rintro _ _ _ _ _ _ _ _ _ _ _
    refine sw<|mw (vi ((k:Nat):Int)) ?_
    exact f1
   ·intro _ g I _
    have J:=p.extk I
    rintro _ _ rfl _ rfl _ _ _ _ _ _ _ _
    refine sw<|ix wN ((k:Nat):Int) tD (s.from0 J) ?_
    exact f1
   ·intro _ g K _
    have L:=p.extk K
    rintro _ _ rfl _ rfl _ rfl _ _ _ _ _ _ _
    refine sw<|eb (x:=d) k wN HI (s.from0 L) ?_
    exact f1
   ·intro _ g ad _
    rintro _ _ _ _ _ _ _ _ _ _ _
    refine sw<|mw (vs l e.length m) ?_
    exact f1
   ·intro _ g ae _
    rintro _ _ _ _ _ _ _ _ _ _ _
    refine sw<|mw (vi ((k:Nat):Int)) ?_
    exact f1
   ·intro _ g M _
    have N:=p.extk M
    rintro _ _ _ _ _ _ rfl _ rfl _ _ _ _
    refine sw<|ix wN ((k:Nat):Int) tD (t.from0 N) ?_
    exact f1
   ·intro _ g O _
    have P:=p.extk O
    rintro _ _ _ _ _ _ rfl _ rfl _ rfl _ _ _
    refine sw<|eb (x:=e) k wN HI (t.from0 P) ?_
    exact f1
   ·intro _ g af _
    rintro _
    iterate 8 rintro _ rfl
    intro _ _
    refine sw<|Kj (d.getD k 0) (e.getD k 0) wN rfl rfl (by kernel_rfl) ?_
    exact f1
   ·intro _ g ah _
    rintro _
    iterate 9 rintro _ rfl
    intro _
    refine sw<|ar (((d.getD k 0)^^^(e.getD k 0)).toNat:Int) wN ?_
    exact f1
  ·intro _ g C
   have Q:=p.extk C
   iterate 11 rintro _ rfl
   refine sw<|NY (orX d e k) (((d.getD k 0)^^^(e.getD k 0)).toNat:Int) wN rfl rfl (by kernel_rfl) (by omega) (by omega) (by omega) (by omega) ?_
   have ai:=MP (a:=(orX d e k)) (b:=(((d.getD k 0)^^^(e.getD k 0)).toNat:Int)) (by omega) (by omega)
   refine aw (vi (orI (orX d e k) (((d.getD k 0)^^^(e.getD k 0)).toNat:Int))) ?_
   refine uD<|uB<|rg<|uG ?_
   refine ar (((k:Nat):Int)+1) wN ?_
   refine mw (vi (((k:Nat):Int)+1)) ?_
   refine uD<|FX (w0:=B) [(0,(vs i d.length j)),(1,(vs l e.length m)),(4,(vi 0)),(5,(vi (orX d e (k+1)))),(13,(vi (d.length:Int))),(14,(vi (((k+1):Nat):Int)))] ?_ ?_ ?_
   · exact ⟨rfl,rfl,rfl,(cA (Value.int .i64) (show ((orI (orX d e k) (((d.getD k 0)^^^(e.getD k 0)).toNat:Int)):Int)=(orX d e (k+1)) by rfl)),rfl,(cA (Value.int .i64) (show ((((k:Nat):Int)+1):Int)=(((k+1):Nat):Int) by omega)),trivial⟩
   · exact fun u=>⟨(k+1),u,rfl,Q,(((Ch.refl (fun k=>f.heap.size≤k) f).ext G (fun k hk=>hk)).extk C),(by omega)⟩
   · show d.length - ((((k+1):Nat):Int)).toNat < d.length - (((k:Nat):Int)).toNat;omega

def Gv (a:PWin) (b:Int):(Bool):=bif (IQ a) then (bif (i_within b 0 281474976710655) then (bif (decide (a.Top < b)) then (true) else (bif (decide (((a.Top - 1024)+1)≤b)) then (!(Gm a b)) else (false))) else (false)) else (false)
theorem So (h:World) (r:Value) (a:PWin) (A:PS h r a) (b:Int) :Fn Tryz.prog 119 #[r,(vi b)] h (fun v s=>Keep h s∧O_4 s h.heap.size v (Gv a b)):=by
 obtain ⟨i,j,rfl,t,u⟩:=A
 refine FI (n:=31) [(va (HQ a i j)),(vi b)] Tryz.func119 rfl rfl ?_
 refine sr<|bx (HQ a i j) wN ?_
 intro m B L M C w
 have o:=(Ch.base h).extk C
 refine aw (vb false) ?_
 refine n4<|jT1 [(1,(vi b)),(2,(vp m 0)),(4,(vb false))] (Gv a b=false) ?_ fun x=>?_
 ·intro D y E N
  have F:=o.extk E
  refine sr<|aw (vb false) ?_
  refine n1<|rt (vb false) ?_
  refine ⟨F.keep0,?_⟩
  rw [D]
  exact rfl
 refine lN (HQ a i j) wN Gj FH w ?_
 refine cl wN (QX B _ a (JD (t.from0 o) u)) ?_
 rintro _ y ⟨k,rfl⟩
 refine pu (vb (!(IQ a))) wN ?_
 refine mw (vb (!(IQ a))) ?_
 rcases bf (IQ a) with e|e
 ·iterate 3 refine sk (cA not e) ?_
  refine pk (vb true) wN (cA not e) ?_
  refine n2<|ct T1 ?_
  have G:Gv a b=false:=by simp only [Gv,e,cond_true,cond_false]
  exact wj (x G _ k)
 have O:=QA e
 refine mv (vi b) (wS (cA not e)) ?_
 refine cl (wS (cA not e)) (Hc y b 0 281474976710655) ?_
 rintro _ H ⟨p,rfl⟩
 have l:=(o.extk k).extk p
 refine pu (vb (!(i_within b 0 281474976710655))) (wS (cA not e)) ?_
 refine pf (vb (!(i_within b 0 281474976710655))) wN (cA not e) ?_
 refine n2 ?_
 rcases bf (i_within b 0 281474976710655) with g|g
 ·have P:=Gh g
  refine ct (cA not g) ?_
  have I:Gv a b=false:=by simp only [Gv,e,g,cond_true,cond_false]
  exact wj (x I _ (k.trans p))
 have Q:=FU g
 refine cf (cA not g)<|y1<|mw (vi b) ?_
 refine pu (vp m 0) wN ?_
 have q:=((w.kp k).kp p)
 refine ld (vi a.Top) wN tE q ?_
 refine pu (vb (decide (a.Top < b))) wN ?_
 refine mw (vb (decide (a.Top < b))) ?_
 rcases bt (decide (a.Top < b)) with d|d
 ·have R:=dT d
  iterate 7 refine sk d ?_
  refine su ?_
  refine su ?_
  refine su ?_
  refine su ?_
  refine sk d ?_
  refine pk (vb true) wN d ?_
  refine aw (vb true) ?_
  refine n3<|rt (vb true) ?_
  refine ⟨l.keep0,?_⟩
  simp only [Gv,e,g,d,cond_true,cond_false]
  exact rfl
 have S:=dF d
 refine mv (vi b) (wS d) ?_
 refine pu (vp m 0) (wS d) ?_
 refine ld (vi a.Top) (wS d) tE q ?_
 refine ar (a.Top - 1024) (wS d) ?_
 refine ar ((a.Top - 1024)+1) (wS d) ?_
 refine pu (vb (decide (((a.Top - 1024)+1)≤b))) (wS d) ?_
 refine mv (vb (decide (((a.Top - 1024)+1)≤b))) (wS d) ?_
 rcases bf (decide (((a.Top - 1024)+1)≤b)) with f|f
 ·have T:=dF f
  iterate 4 refine sk f ?_
  refine pf (vb false) (wS d) f ?_
  refine pf (vb false) wN d ?_
  refine aw (vb false) ?_
  refine n3<|rt (vb false) ?_
  refine ⟨l.keep0,?_⟩
  simp only [Gv,e,g,d,f,cond_true,cond_false]
  exact rfl
 have V:=dT f
 refine lN (HQ a i j) (wS f) Gj FH q ?_
 refine mv (vi b) (wS f) ?_
 refine cl (wS f) (Nd H _ a (JD (t.from0 l) u) b (by first|assumption|omega) (by first|assumption|omega)) ?_
 rintro _ W ⟨J,rfl⟩
 have K:=l.extk J
 refine pu (vb (!(Gm a b))) (wS f) ?_
 refine pk (vb (!(Gm a b))) (wS d) f ?_
 refine pf (vb (!(Gm a b))) wN d ?_
 refine aw (vb (!(Gm a b))) ?_
 refine n3<|rt (vb (!(Gm a b))) ?_
 refine ⟨K.keep0,?_⟩
 simp only [Gv,e,g,d,f,cond_true,cond_false]
 exact rfl
theorem Lo {w:PWin} {n:Int} (h:Gv w n=true):Iw w.Bits=true∧w.Bits.length=32 ∧ -1≤w.Top∧w.Top≤281474976710655∧0≤n∧n≤281474976710655:=by
  unfold Gv at h
  cases h1:IQ w with
  | false=>simp only [h1,cond_false] at h;cases h
  | true =>
    cases h2:i_within n 0 281474976710655 with
    | false=>simp only [h1,h2,cond_true,cond_false] at h;cases h
    | true =>
      have a:=QA h1
      have b:=FU h2
      exact ⟨a.1,a.2.1,a.2.2.1,a.2.2.2,b.1,b.2⟩

def Tb (w:World) (lo:Nat) (v:Value) (x:(PWin)×(Bool)):Prop:=∃ (a:Option Addr) (b:Nat),v=.tuple #[.agg #[.int .i64 x.1.Top,.slice a x.1.Bits.length b],.bool x.2]∧w.ownsRow lo 3 1 (.slice a x.1.Bits.length b) x.1.Bits.length (x.1.Bits.map iV)∧x.1.Bits.length≤1073741824∧Aps [(a,b)]
def ID (w:PWin) (n:Int):PWin×Bool:=bif Gv w n then ({Top:=if w.Top < n then n else w.Top,Bits:=NX w.Bits w.Top n:PWin},true) else (w,false)
theorem Sp (y:World) (X:Value) (d:PWin) (az:PS y X d) (e:Int) :Fn Tryz.prog 84 #[X,(vi e)] y (fun v o=>Keep y o∧Tb o y.heap.size v (ID d e)):=by
 obtain ⟨K,L,rfl,Y,Z⟩:=az
 refine FI (n:=57) [(va (HQ d K L)),(vi e)] Tryz.func84 rfl rfl ?_
 refine sr<|bx (HQ d K L) wN ?_
 intro I bd be Q s a0
 refine al [(vi 0),(vs none 0 0)] wN Jt ?_
 intro R B aa C p ab
 have ac:=((Ch.base y).extk s).extk p
 refine aw (vb false) ?_
 refine nx ?_
 have ad:=(a0.kp p)
 refine lN (HQ d K L) wN Gj FH ad ?_
 refine cl wN (NP B _ d (JD (Y.from0 ac) Z)) ?_
 rintro _ ae ⟨r,⟨g,i,rfl,m,af,bg⟩⟩
 refine al [(vi 0),(vs none 0 0)] wN Jt ?_
 intro t bh q bi D a1
 refine sv (HQ (d) g i) wN FH a1 ?_
 intro a2 E ah bj
 have ai:=((ac.extk r).extk D).ext E (fun k hk=>by subst hk;exact nT (z3 s p r) q)
 refine n4 ?_
 have aj:=(((ad.kp r).kp D).ch E (nN (nL Q (nT (z2 p r) q))))
 refine lN (HQ d K L) wN Gj FH aj ?_
 refine mw (vi e) ?_
 refine cl wN (So a2 _ d (JD (Y.from0 ai) Z) e) ?_
 rintro _ S ⟨A,rfl⟩
 have ak:=ai.extk A
 refine pu (vb (!(Gv d e))) wN ?_
 refine n2 ?_
 rcases bf (Gv d e) with F|F
 ·refine ct (cA not F)<|sr ?_
  have a3:=(ah.kp A)
  refine lN (HQ (d) g i) wN Gj FH a3 ?_
  have a4:=((((ab.kp r).kp D).ch E (nN (nL C (nT r.size q)))).kp A)
  refine sv (HQ (d) g i) wN FH a4 ?_
  intro M am a5 bk
  have a6:=ak.ext am (fun k hk=>by subst hk;exact nT s.size aa)
  refine aw (vb false) ?_
  refine n1 ?_
  have a7:=(tC (gc (tC (gc m D) E (ne2 m (q))) A) am (ne1 m (C)))
  refine Jv (.inl rfl) (va (HQ (d) g i)) (vb false) rfl (HL (HQ (d) g i) rfl a5 Gj FH) rfl ?_
  refine ⟨a6.keep0,?_⟩
  have a8:ID d e=((d),false):=by simp only [ID,F,cond_true,cond_false]
  rw [a8]
  exact ⟨_,_,rfl,(tA a7 (z2 s p)),af,⟨trivial,trivial⟩⟩
 have bl:=Lo F
 refine cf (cA not F)<|y2<|pu (vp I 0) wN ?_
 have an:=(aj.kp A)
 refine ld (vi d.Top) wN tE an ?_
 refine ar (d.Top+1) wN ?_
 refine mw (vi e) ?_
 refine ar (e - 1024) wN ?_
 refine ar ((e - 1024)+1) wN ?_
 refine pu (vi (if (d.Top+1) < ((e - 1024)+1) then ((e - 1024)+1) else (d.Top+1))) wN ?_
 refine aw (vi (if (d.Top+1) < ((e - 1024)+1) then ((e - 1024)+1) else (d.Top+1))) ?_
 refine uD<|rg<|uJ ?_
 have a9:=(gc (tC (gc m D) E (ne2 m (q))) A)
 have aA:((d).Bits:List Int)=HF d.Bits (if (d.Top+1) < ((e - 1024)+1) then ((e - 1024)+1) else (d.Top+1)) 0:=by rfl
 have aB:=(ah.kp A)
 refine Ge [(1,(vi e)),(2,(vp I 0)),(4,(vp R 0)),(5,(vb false)),(6,(vp t 0)),(7,(vi ((if (d.Top+1) < ((e - 1024)+1) then ((e - 1024)+1) else (d.Top+1))+((0:Nat):Int))))] ⟨rfl,rfl,rfl,rfl,rfl,(cA (Value.int .i64) (show ((if (d.Top+1) < ((e - 1024)+1) then ((e - 1024)+1) else (d.Top+1)):Int)=((if (d.Top+1) < ((e - 1024)+1) then ((e - 1024)+1) else (d.Top+1))+((0:Nat):Int)) by omega)),trivial⟩ (fun e' o=>∃ (j:Nat) (ao:Env),e'=pt ao [(1,(vi e)),(2,(vp I 0)),(4,(vp R 0)),(5,(vb false)),(6,(vp t 0)),(7,(vi ((if (d.Top+1) < ((e - 1024)+1) then ((e - 1024)+1) else (d.Top+1))+((j:Nat):Int))))]∧Ch (fun k=>y.heap.size≤k) y o∧Ch (fun k=>B.heap.size≤k) S o∧((if (d.Top+1) < ((e - 1024)+1) then ((e - 1024)+1) else (d.Top+1))+((j:Nat):Int)≤e∨j=0)∧j≤1024∧World.ownsRow o B.heap.size 3 1 (.slice g ((d).Bits).length i) ((d).Bits).length ((HF d.Bits (if (d.Top+1) < ((e - 1024)+1) then ((e - 1024)+1) else (d.Top+1)) j).map iV)∧Blk o t 34 [(vi ((d).Top)),(vs g ((d).Bits).length i)]) (fun e' _=>(e - (intOf (e' 7))).toNat) ?_ ?_
 ·exact fun u=>⟨0,u,rfl,ak,(Ch.refl (fun k=>B.heap.size≤k) S),(by omega),(by omega),(by rw [← aA];exact a9),aB⟩
 ·rintro _ M ⟨j,ao,rfl,ap,T,bm,bn,G,N⟩
  have hwl:=IH d.Bits (if (d.Top+1) < ((e - 1024)+1) then ((e - 1024)+1) else (d.Top+1)) j
  have hwi:=Ki (JX (l:=d.Bits) (Lo (w:=d) (n:=e) (by assumption)).1 (if (d.Top+1) < ((e - 1024)+1) then ((e - 1024)+1) else (d.Top+1)) j) ((((if (d.Top+1) < ((e - 1024)+1) then ((e - 1024)+1) else (d.Top+1))+((j:Nat):Int)) % 1024) / 32).toNat
  have hwn:=Ki (JX (l:=d.Bits) (Lo (w:=d) (n:=e) (by assumption)).1 (if (d.Top+1) < ((e - 1024)+1) then ((e - 1024)+1) else (d.Top+1)) j) ((e % 1024) / 32).toNat
  refine uK<|sr<|mw (vi ((if (d.Top+1) < ((e - 1024)+1) then ((e - 1024)+1) else (d.Top+1))+((j:Nat):Int))) ?_
  refine mw (vi e) ?_
  refine pu (vb (decide (((if (d.Top+1) < ((e - 1024)+1) then ((e - 1024)+1) else (d.Top+1))+((j:Nat):Int)) < e))) wN ?_
  refine n2 ?_
  rcases bf (decide (((if (d.Top+1) < ((e - 1024)+1) then ((e - 1024)+1) else (d.Top+1))+((j:Nat):Int)) < e)) with H|H
  ·have bo:=dF H
   refine cf H<|Gn<|uA<|uA<|wr<|rg<|uK<|Ga ([(39,[],[],(fun _ v _=>v=(vp t 1))),(40,[],[0],(fun _ v _=>v=(vs g ((d).Bits).length i))),(41,[],[],(fun _ v _=>v=(vi e))),(42,[],[2],(fun _ v _=>v=(vi (e % 1024)))),(43,[],[2,3],(fun _ v _=>v=(vi ((e % 1024) / 32)))),(44,[],[0,1,2,3,4],(fun _ v _=>v=(ve (vs g ((d).Bits).length i) ((((e % 1024) / 32)).toNat*1)))),(45,[],[0,1,2,3,4,5],(fun _ v _=>v=(vi ((HF d.Bits (if (d.Top+1) < ((e - 1024)+1) then ((e - 1024)+1) else (d.Top+1)) j).getD (((e % 1024) / 32)).toNat 0)))),(46,[],[],(fun _ v _=>v=(vi e))),(47,[],[7],(fun _ v _=>v=(vi (e % 32)))),(48,[],[7,8],(fun _ v _=>v=(vi (1*(2:Int) ^ ((e % 32)).toNat))))]:GV) (fun _ o=>Keep M o) [] GU rfl (by kernel_rfl) (by kernel_rfl) ?_ (fun _ _ h=>h) (fun _ _ _ _ h _ k=>h.trans k) trivial ?_ ?_ ?_
   ·exact ⟨hV,hE,⟨hV,hE,⟨hV,hE,⟨hV,hE,⟨hV,hE,⟨hV,hE,⟨hV,hE,⟨hV,hE,⟨hV,hE,⟨hV,hE,trivial⟩⟩⟩⟩⟩⟩⟩⟩⟩⟩
   ·exact trivial
   ·refine ⟨?_,⟨?_,⟨?_,⟨?_,⟨?_,⟨?_,⟨?_,⟨?_,⟨?_,⟨?_,trivial⟩⟩⟩⟩⟩⟩⟩⟩⟩⟩
    ·intro _ f bp _
     rintro _ _ _ _ _ _ _ _ _ _
     refine sw<|pu (vp t 1) wN ?_
     exact f1
    ·intro _ f aC _
     rintro _ rfl _ _ _ _ _ _ _ _ _
     refine sw ?_
     have aD:=(N.kp aC)
     refine ld (vs g ((d).Bits).length i) wN GO aD ?_
     exact f1
    ·intro _ f bq _
     rintro _ _ _ _ _ _ _ _ _ _
     refine sw<|mw (vi e) ?_
     exact f1
    ·intro _ f br _
     rintro _ _ _ rfl _ _ _ _ _ _ _
     refine sw<|Ig e 1024 wN rfl rfl (by kernel_rfl) (by first|omega|assumption) ?_
     exact f1
    ·intro _ f bu _
     rintro _ _ _ rfl _ rfl _ _ _ _ _ _
     refine sw<|Kh (e % 1024) 32 wN rfl rfl (by kernel_rfl) (by omega) (by omega) (by omega) ?_
     exact f1
    ·intro _ f aE _
     rintro _ rfl _ rfl _ rfl _ rfl _ rfl _ _ _ _ _
     refine sw ?_
     have aF:=(gc G aE)
     refine ix wN ((e % 1024) / 32) uQ (Rd.of_own aF) ?_
     exact f1
    ·intro _ f aG _
     rintro _ rfl _ rfl _ rfl _ rfl _ rfl _ rfl _ _ _ _
     refine sw ?_
     have aH:=(gc G aG)
     refine ei (x:=(HF d.Bits (if (d.Top+1) < ((e - 1024)+1) then ((e - 1024)+1) else (d.Top+1)) j)) ((((e % 1024) / 32)).toNat) wN tE (Rd.of_own aH) ?_
     exact f1
    ·intro _ f bv _
     rintro _ _ _ _ _ _ _ _ _ _
     refine sw<|mw (vi e) ?_
     exact f1
    ·intro _ f bw _
     rintro _ _ _ _ _ _ _ _ rfl _ _
     refine sw<|Ig e 32 wN rfl rfl (by kernel_rfl) (by first|omega|assumption) ?_
     exact f1
    ·intro _ f bz _
     rintro _ _ _ _ _ _ _ _ rfl _ rfl _
     refine sw<|LD 1 (e % 32) wN rfl rfl rfl rfl rfl (by omega) (by omega) (by omega) (by omega) ?_
     have b0:=Jx ((e % 32)).toNat (by omega)
     exact f1
   ·intro _ f J
    iterate 10 rintro _ rfl
    have b1:=Jx ((e % 32)).toNat (by omega)
    refine sw<|NY ((HF d.Bits (if (d.Top+1) < ((e - 1024)+1) then ((e - 1024)+1) else (d.Top+1)) j).getD (((e % 1024) / 32)).toNat 0) (1*(2:Int) ^ ((e % 32)).toNat) wN rfl rfl (by kernel_rfl) (by omega) (by omega) (by omega) (by omega) ?_
    have b2:=MP (a:=((HF d.Bits (if (d.Top+1) < ((e - 1024)+1) then ((e - 1024)+1) else (d.Top+1)) j).getD (((e % 1024) / 32)).toNat 0)) (b:=(1*(2:Int) ^ ((e % 32)).toNat)) (by omega) (by omega)
    have aq:=(gc G J)
    refine ix wN ((e % 1024) / 32) uQ (Rd.of_own aq) ?_
    refine Il (HF d.Bits (if (d.Top+1) < ((e - 1024)+1) then ((e - 1024)+1) else (d.Top+1)) j) ((((e % 1024) / 32)).toNat) ((orI ((HF d.Bits (if (d.Top+1) < ((e - 1024)+1) then ((e - 1024)+1) else (d.Top+1)) j).getD (((e % 1024) / 32)).toNat 0) (1*(2:Int) ^ ((e % 32)).toNat))) wN rfl rfl rfl (by simp) rfl GI aq (by first|omega|(simp only [List.length_append,List.length_replicate,List.length_take,List.length_set,List.length_map];omega)) ?_
    intro aI O aJ
    have aK:=(ap.extk J).ext O (fun k hk=>nT (z2 s p) (uI m k hk).1)
    refine nx<|pu (vp I 0) wN ?_
    have aL:=(((an.ch T (Nat.not_le.2 (nL Q p.size))).kp J).ch O (fun h=>by have:=(uI m _ h).1;have:=nL Q p.size;omega))
    refine ld (vi d.Top) wN tE aL ?_
    refine mw (vi e) ?_
    refine pu (vi (if d.Top < e then e else d.Top)) wN ?_
    refine pu (vp t 0) wN ?_
    have aM:=((N.kp J).ch O (fun h=>by have:=(uI m _ h).2;have:=nT (Nat.le_refl ae.heap.size) q;omega))
    refine st (vi (if d.Top < e then e else d.Top)) [(vi (if d.Top < e then e else d.Top))] [(vi (if d.Top < e then e else d.Top)),(vs g ((d).Bits).length i)] wN GI aM ?_
    intro b3 V aN b4
    have aO:=aK.ext V (fun k hk=>by subst hk;exact nT (z3 s p r) q)
    refine nx<|lN [(vi (if d.Top < e then e else d.Top)),(vs g ((d).Bits).length i)] wN Gj FH aN ?_
    have aP:=((((((((ab.kp r).kp D).ch E (nN (nL C (nT r.size q)))).kp A).ch T (Nat.not_le.2 (C))).kp J).ch O (fun h=>by have:=(uI m _ h).1;have:=nL C (Nat.le_refl B.heap.size);omega)).ch V (nN (nL C (nT r.size q))))
    refine sv [(vi (if d.Top < e then e else d.Top)),(vs g ((d).Bits).length i)] wN FH aP ?_
    intro b5 au aQ b6
    have aR:=aO.ext au (fun k hk=>by subst hk;exact nT s.size aa)
    refine aw (vb true) ?_
    refine n3 ?_
    have av:=(tC (tC aJ V (ne2 m (q))) au (ne1 m (C)))
    refine Jv (.inl rfl) (va [(vi (if d.Top < e then e else d.Top)),(vs g ((d).Bits).length i)]) (vb true) rfl (HL [(vi (if d.Top < e then e else d.Top)),(vs g ((d).Bits).length i)] rfl aQ Gj FH) rfl ?_
    refine ⟨aR.keep0,?_⟩
    have aS:ID d e=({Top:=(if d.Top < e then e else d.Top),Bits:=((HF d.Bits (if (d.Top+1) < ((e - 1024)+1) then ((e - 1024)+1) else (d.Top+1)) j).set ((((e % 1024) / 32)).toNat) (orI ((HF d.Bits (if (d.Top+1) < ((e - 1024)+1) then ((e - 1024)+1) else (d.Top+1)) j).getD (((e % 1024) / 32)).toNat 0) (1*(2:Int) ^ ((e % 32)).toNat))):PWin},true):=by have hz:=Rl (l:=d.Bits) (top:=d.Top) (n:=e) (a:=(if (d.Top+1) < ((e - 1024)+1) then ((e - 1024)+1) else (d.Top+1))) (j:=j) (by omega) (by omega) (by omega);simp only [ID,F,H,cond_true];rw [← hz];rfl
    rw [aS]
    have ax:((d).Bits).length=(((HF d.Bits (if (d.Top+1) < ((e - 1024)+1) then ((e - 1024)+1) else (d.Top+1)) j).set ((((e % 1024) / 32)).toNat) (orI ((HF d.Bits (if (d.Top+1) < ((e - 1024)+1) then ((e - 1024)+1) else (d.Top+1)) j).getD (((e % 1024) / 32)).toNat 0) (1*(2:Int) ^ ((e % 32)).toNat)))).length:=by first|(simp only [List.length_append,List.length_take,List.length_replicate,List.length_set,List.length_map];done)|(simp only [List.length_append,List.length_take,List.length_replicate,List.length_set,List.length_map];omega)
    rw [ax] at av ⊢
    exact ⟨_,_,rfl,(tA av (z2 s p)),(by rw [← ax];exact af),⟨trivial,trivial⟩⟩
  have b7:=dT H
  refine ct H<|FR<|rg<|uK<|uJ<|Ga ([(27,[],[],(fun _ v _=>v=(vp t 1))),(28,[],[0],(fun _ v _=>v=(vs g ((d).Bits).length i))),(29,[],[],(fun _ v _=>v=(vi ((if (d.Top+1) < ((e - 1024)+1) then ((e - 1024)+1) else (d.Top+1))+((j:Nat):Int))))),(30,[],[2],(fun _ v _=>v=(vi (((if (d.Top+1) < ((e - 1024)+1) then ((e - 1024)+1) else (d.Top+1))+((j:Nat):Int)) % 1024)))),(31,[],[2,3],(fun _ v _=>v=(vi ((((if (d.Top+1) < ((e - 1024)+1) then ((e - 1024)+1) else (d.Top+1))+((j:Nat):Int)) % 1024) / 32)))),(32,[],[0,1,2,3,4],(fun _ v _=>v=(ve (vs g ((d).Bits).length i) ((((((if (d.Top+1) < ((e - 1024)+1) then ((e - 1024)+1) else (d.Top+1))+((j:Nat):Int)) % 1024) / 32)).toNat*1)))),(33,[],[0,1,2,3,4,5],(fun _ v _=>v=(vi ((HF d.Bits (if (d.Top+1) < ((e - 1024)+1) then ((e - 1024)+1) else (d.Top+1)) j).getD (((((if (d.Top+1) < ((e - 1024)+1) then ((e - 1024)+1) else (d.Top+1))+((j:Nat):Int)) % 1024) / 32)).toNat 0)))),(34,[],[],(fun _ v _=>v=(vi ((if (d.Top+1) < ((e - 1024)+1) then ((e - 1024)+1) else (d.Top+1))+((j:Nat):Int))))),(35,[],[7],(fun _ v _=>v=(vi (((if (d.Top+1) < ((e - 1024)+1) then ((e - 1024)+1) else (d.Top+1))+((j:Nat):Int)) % 32)))),(36,[],[7,8],(fun _ v _=>v=(vi (1*(2:Int) ^ ((((if (d.Top+1) < ((e - 1024)+1) then ((e - 1024)+1) else (d.Top+1))+((j:Nat):Int)) % 32)).toNat))))]:GV) (fun _ o=>Keep M o) [] GU rfl (by kernel_rfl) (by kernel_rfl) ?_ (fun _ _ h=>h) (fun _ _ _ _ h _ k=>h.trans k) trivial ?_ ?_ ?_
  ·exact ⟨hV,hE,⟨hV,hE,⟨hV,hE,⟨hV,hE,⟨hV,hE,⟨hV,hE,⟨hV,hE,⟨hV,hE,⟨hV,hE,⟨hV,hE,trivial⟩⟩⟩⟩⟩⟩⟩⟩⟩⟩
  ·exact trivial
  ·refine ⟨?_,⟨?_,⟨?_,⟨?_,⟨?_,⟨?_,⟨?_,⟨?_,⟨?_,⟨?_,trivial⟩⟩⟩⟩⟩⟩⟩⟩⟩⟩
   ·intro _ f b8 _
    rintro _ _ _ _ _ _ _ _ _ _
    refine sw<|pu (vp t 1) wN ?_
    exact f1
   ·intro _ f aT _
    rintro _ rfl _ _ _ _ _ _ _ _ _
    refine sw ?_
    have aU:=(N.kp aT)
    refine ld (vs g ((d).Bits).length i) wN GO aU ?_
    exact f1
   ·intro _ f b9 _
    rintro _ _ _ _ _ _ _ _ _ _
    refine sw<|mw (vi ((if (d.Top+1) < ((e - 1024)+1) then ((e - 1024)+1) else (d.Top+1))+((j:Nat):Int))) ?_
    exact f1
   ·intro _ f bA _
    rintro _ _ _ rfl _ _ _ _ _ _ _
    refine sw<|Ig ((if (d.Top+1) < ((e - 1024)+1) then ((e - 1024)+1) else (d.Top+1))+((j:Nat):Int)) 1024 wN rfl rfl (by kernel_rfl) (by first|omega|assumption) ?_
    exact f1
   ·intro _ f bB _
    rintro _ _ _ rfl _ rfl _ _ _ _ _ _
    refine sw<|Kh (((if (d.Top+1) < ((e - 1024)+1) then ((e - 1024)+1) else (d.Top+1))+((j:Nat):Int)) % 1024) 32 wN rfl rfl (by kernel_rfl) (by omega) (by omega) (by omega) ?_
    exact f1
   ·intro _ f aV _
    rintro _ rfl _ rfl _ rfl _ rfl _ rfl _ _ _ _ _
    refine sw ?_
    have aW:=(gc G aV)
    refine ix wN ((((if (d.Top+1) < ((e - 1024)+1) then ((e - 1024)+1) else (d.Top+1))+((j:Nat):Int)) % 1024) / 32) uQ (Rd.of_own aW) ?_
    exact f1
   ·intro _ f aX _
    rintro _ rfl _ rfl _ rfl _ rfl _ rfl _ rfl _ _ _ _
    refine sw ?_
    have aY:=(gc G aX)
    refine ei (x:=(HF d.Bits (if (d.Top+1) < ((e - 1024)+1) then ((e - 1024)+1) else (d.Top+1)) j)) ((((((if (d.Top+1) < ((e - 1024)+1) then ((e - 1024)+1) else (d.Top+1))+((j:Nat):Int)) % 1024) / 32)).toNat) wN tE (Rd.of_own aY) ?_
    exact f1
   ·intro _ f bC _
    rintro _ _ _ _ _ _ _ _ _ _
    refine sw<|mw (vi ((if (d.Top+1) < ((e - 1024)+1) then ((e - 1024)+1) else (d.Top+1))+((j:Nat):Int))) ?_
    exact f1
   ·intro _ f bD _
    rintro _ _ _ _ _ _ _ _ rfl _ _
    refine sw<|Ig ((if (d.Top+1) < ((e - 1024)+1) then ((e - 1024)+1) else (d.Top+1))+((j:Nat):Int)) 32 wN rfl rfl (by kernel_rfl) (by first|omega|assumption) ?_
    exact f1
   ·intro _ f bE _
    rintro _ _ _ _ _ _ _ _ rfl _ rfl _
    refine sw<|LD 1 (((if (d.Top+1) < ((e - 1024)+1) then ((e - 1024)+1) else (d.Top+1))+((j:Nat):Int)) % 32) wN rfl rfl rfl rfl rfl (by omega) (by omega) (by omega) (by omega) ?_
    have bF:=Jx ((((if (d.Top+1) < ((e - 1024)+1) then ((e - 1024)+1) else (d.Top+1))+((j:Nat):Int)) % 32)).toNat (by omega)
    exact f1
  ·intro _ f P
   iterate 10 rintro _ rfl
   have bG:=Jx ((((if (d.Top+1) < ((e - 1024)+1) then ((e - 1024)+1) else (d.Top+1))+((j:Nat):Int)) % 32)).toNat (by omega)
   refine sw<|Qc ((HF d.Bits (if (d.Top+1) < ((e - 1024)+1) then ((e - 1024)+1) else (d.Top+1)) j).getD (((((if (d.Top+1) < ((e - 1024)+1) then ((e - 1024)+1) else (d.Top+1))+((j:Nat):Int)) % 1024) / 32)).toNat 0) (1*(2:Int) ^ ((((if (d.Top+1) < ((e - 1024)+1) then ((e - 1024)+1) else (d.Top+1))+((j:Nat):Int)) % 32)).toNat) wN rfl rfl (by kernel_rfl) (by omega) (by omega) (by omega) (by omega) ?_
   have bH:=Mc (a:=((HF d.Bits (if (d.Top+1) < ((e - 1024)+1) then ((e - 1024)+1) else (d.Top+1)) j).getD (((((if (d.Top+1) < ((e - 1024)+1) then ((e - 1024)+1) else (d.Top+1))+((j:Nat):Int)) % 1024) / 32)).toNat 0)) (b:=(1*(2:Int) ^ ((((if (d.Top+1) < ((e - 1024)+1) then ((e - 1024)+1) else (d.Top+1))+((j:Nat):Int)) % 32)).toNat)) (by omega)
   have ay:=(gc G P)
   refine ix wN ((((if (d.Top+1) < ((e - 1024)+1) then ((e - 1024)+1) else (d.Top+1))+((j:Nat):Int)) % 1024) / 32) uQ (Rd.of_own ay) ?_
   refine Il (HF d.Bits (if (d.Top+1) < ((e - 1024)+1) then ((e - 1024)+1) else (d.Top+1)) j) ((((((if (d.Top+1) < ((e - 1024)+1) then ((e - 1024)+1) else (d.Top+1))+((j:Nat):Int)) % 1024) / 32)).toNat) ((Lj ((HF d.Bits (if (d.Top+1) < ((e - 1024)+1) then ((e - 1024)+1) else (d.Top+1)) j).getD (((((if (d.Top+1) < ((e - 1024)+1) then ((e - 1024)+1) else (d.Top+1))+((j:Nat):Int)) % 1024) / 32)).toNat 0) (1*(2:Int) ^ ((((if (d.Top+1) < ((e - 1024)+1) then ((e - 1024)+1) else (d.Top+1))+((j:Nat):Int)) % 32)).toNat))) wN rfl rfl rfl (by simp) rfl GI ay (by first|omega|(simp only [List.length_append,List.length_replicate,List.length_take,List.length_set,List.length_map];omega)) ?_
   intro aI W aZ
   have ba:=(ap.extk P).ext W (fun k hk=>nT (z2 s p) (uI m k hk).1)
   refine uD<|uB<|rg<|uG ?_
   refine mw (vi ((if (d.Top+1) < ((e - 1024)+1) then ((e - 1024)+1) else (d.Top+1))+((j:Nat):Int))) ?_
   refine ar (((if (d.Top+1) < ((e - 1024)+1) then ((e - 1024)+1) else (d.Top+1))+((j:Nat):Int))+1) wN ?_
   refine aw (vi (((if (d.Top+1) < ((e - 1024)+1) then ((e - 1024)+1) else (d.Top+1))+((j:Nat):Int))+1)) ?_
   refine uD ?_
   have bb:(((HF d.Bits (if (d.Top+1) < ((e - 1024)+1) then ((e - 1024)+1) else (d.Top+1)) j).set ((((((if (d.Top+1) < ((e - 1024)+1) then ((e - 1024)+1) else (d.Top+1))+((j:Nat):Int)) % 1024) / 32)).toNat) (Lj ((HF d.Bits (if (d.Top+1) < ((e - 1024)+1) then ((e - 1024)+1) else (d.Top+1)) j).getD (((((if (d.Top+1) < ((e - 1024)+1) then ((e - 1024)+1) else (d.Top+1))+((j:Nat):Int)) % 1024) / 32)).toNat 0) (1*(2:Int) ^ ((((if (d.Top+1) < ((e - 1024)+1) then ((e - 1024)+1) else (d.Top+1))+((j:Nat):Int)) % 32)).toNat))):List Int)=HF d.Bits (if (d.Top+1) < ((e - 1024)+1) then ((e - 1024)+1) else (d.Top+1)) (j+1):=by first|rfl|exact Vo _ _
   have bc:=((N.kp P).ch W (fun h=>by have:=(uI m _ h).2;have:=nT (Nat.le_refl ae.heap.size) q;omega))
   refine FX (w0:=M) [(1,(vi e)),(2,(vp I 0)),(4,(vp R 0)),(5,(vb false)),(6,(vp t 0)),(7,(vi ((if (d.Top+1) < ((e - 1024)+1) then ((e - 1024)+1) else (d.Top+1))+(((j+1):Nat):Int))))] ?_ ?_ ?_
   · exact ⟨rfl,rfl,rfl,rfl,rfl,(cA (Value.int .i64) (show ((((if (d.Top+1) < ((e - 1024)+1) then ((e - 1024)+1) else (d.Top+1))+((j:Nat):Int))+1):Int)=((if (d.Top+1) < ((e - 1024)+1) then ((e - 1024)+1) else (d.Top+1))+(((j+1):Nat):Int)) by omega)),trivial⟩
   · exact fun u=>⟨(j+1),u,rfl,ba,((((Ch.refl (fun k=>B.heap.size≤k) S).ext T (fun k hk=>hk)).extk P).ext W (fun k hk=>nT (Nat.le_refl B.heap.size) (uI m k hk).1)),(by omega),(by omega),(by rw [← bb];exact aZ),bc⟩
   · show (e - ((if (d.Top+1) < ((e - 1024)+1) then ((e - 1024)+1) else (d.Top+1))+(((j+1):Nat):Int))).toNat < (e - ((if (d.Top+1) < ((e - 1024)+1) then ((e - 1024)+1) else (d.Top+1))+((j:Nat):Int))).toNat;omega

def It (a:List UInt8) (b:List UInt8):(Bool):=bif (decide ((a.length:Int)=16)) then (decide ((Ij a b)=0)) else (false)
theorem QY (e:World) (h:Value) (a:List UInt8) (o:HP e h a) (i:Value) (d:List UInt8) (p:HP e i d) :Fn Tryz.prog 120 #[h,i] e (fun v j=>Keep e j∧O_4 j e.heap.size v (It a d)):=by
 obtain ⟨f,g,rfl,k,q⟩:=o
 obtain ⟨l,m,rfl,r,s⟩:=p
 refine FI (n:=14) [(vs f a.length g),(vs l d.length m)] Tryz.func120 rfl rfl ?_
 refine sr<|aw (vb false) ?_
 refine nx<|mw (vs f a.length g) ?_
 refine ln wN tD k ?_
 refine pu (vb (decide ((a.length:Int)=16))) wN ?_
 refine mw (vb (decide ((a.length:Int)=16))) ?_
 rcases bf (decide ((a.length:Int)=16)) with b|b
 ·have w:=dF b
  iterate 4 refine sk b ?_
  refine pf (vb false) wN b ?_
  refine aw (vb false) ?_
  refine n3<|rt (vb false) ?_
  refine ⟨Ch.refl _ _,?_⟩
  simp only [It,b,cond_true,cond_false]
  exact rfl
 have x:=dT b
 refine mv (vs f a.length g) (wS b) ?_
 refine mv (vs l d.length m) (wS b) ?_
 refine cl (wS b) (SX e _ a (FV k q) _ d (FV r s)) ?_
 rintro _ y ⟨t,rfl⟩
 have u:=(Ch.base e).extk t
 refine pu (vb (decide ((Ij a d)=0))) (wS b) ?_
 refine pk (vb (decide ((Ij a d)=0))) wN b ?_
 refine aw (vb (decide ((Ij a d)=0))) ?_
 refine n3<|rt (vb (decide ((Ij a d)=0))) ?_
 refine ⟨u.keep0,?_⟩
 simp only [It,b,cond_true,cond_false]
 exact rfl

def GT (b:List UInt8) (d:Int) (a:PFrame):(List UInt8)×(Bool):=bif (decide ((b.length:Int)=32)) then (bif (decide (((uL d a).length:Int)=0)) then (([],false)) else (bif (It a.Tag (JQ b (uL d a))) then (((Ia b (FK d a.Sn a.Epoch a.Seq) a.Body),true)) else (([],false)))) else (([],false))
theorem Sq (x:World) (ac:Value) (f:List UInt8) (ax:HP x ac f) (d:Int) (ad:Value) (a:PFrame) (ay:MH x ad a) :Fn Tryz.prog 85 #[ac,(vi d),ad] x (fun v o=>Keep x o∧Rs o x.heap.size v (GT f d a)):=by
 obtain ⟨l,m,rfl,C,ae⟩:=ax
 obtain ⟨L,M,D,E,N,O,P,Q,F,G,H,I,rfl,az,a0,af,ah,a1,a2,a3,a4,ai,aj,ak,am⟩:=ay
 refine FI (n:=41) [(vs l f.length m),(vi d),(va (HH a L M D E N O P Q F G H I))] Tryz.func85 rfl rfl ?_
 refine sr<|bx (HH a L M D E N O P Q F G H I) wN ?_
 intro p R bp bq an y
 have q:=(Ch.base x).extk an
 refine aw (vs none 0 0) ?_
 refine aw (vb false) ?_
 refine nx<|mw (vi d) ?_
 refine lN (HH a L M D E N O P Q F G H I) wN Gg FD y ?_
 refine cl wN (Li R d _ a (IN (az.from0 q) a0 (af.from0 q) ah (a1.from0 q) a2 (a3.from0 q) a4 (ai.from0 q) aj (ak.from0 q) am)) ?_
 rintro _ K ⟨r,⟨s,t,rfl,S,a5,br⟩⟩
 have u:=q.extk r
 refine aw (vs s (uL d a).length t) ?_
 refine uD<|rg<|uK<|uK ?_
 rcases bf (decide ((f.length:Int)=32)) with i|i
 ·have bu:=dF i
  refine Ga ([(12,[],[],(fun _ v _=>v=(vs l f.length m))),(13,[],[0],(fun _ v _=>v=(vi (f.length:Int)))),(14,[],[0,1],(fun _ v _=>v=(vb (!(decide ((f.length:Int)=32)))))),(15,[],[0,1,2],(fun _ v _=>v=(vb (!(decide ((f.length:Int)=32)))))),(16,[],[0,1,2,3],(fun _ v _=>v=U)),(17,[],[0,1,2,3,4],(fun _ v _=>v=U)),(18,[],[0,1,2,3,4,5],(fun _ v _=>v=U)),(19,[],[0,1,2,3,4,5,6],(fun _ v _=>v=(vb true))),(20,[],[0,1,2,3,4,5,6,7],(fun _ v _=>v=(vb true))),(21,[],[0,1,2,3,4,5,6,7,8],(fun _ v _=>v=U)),(22,[],[0,1,2,3,4,5,6,7,8,9],(fun _ v _=>v=U)),(23,[],[0,1,2,3,4,5,6,7,8],(fun _ v _=>v=U)),(24,[],[0,1,2,3,4,5,6,7,8],(fun _ v _=>v=U)),(25,[],[0,1,2,3,4,5,6,7,8,11,12],(fun _ v _=>v=U))]:GV) (fun _ o=>Keep K o) [] GU rfl (by kernel_rfl) (by kernel_rfl) ?_ (fun _ _ h=>h) (fun _ _ _ _ h _ k=>h.trans k) trivial ?_ ?_ ?_
  ·exact ⟨hV,hE,⟨hV,hE,⟨hV,hE,⟨hV,hE,⟨hV,hE,⟨hV,hE,⟨hV,hE,⟨hV,hE,⟨hV,hE,⟨hV,hE,⟨hV,hE,⟨hV,hE,⟨hV,hE,⟨hV,hE,trivial⟩⟩⟩⟩⟩⟩⟩⟩⟩⟩⟩⟩⟩⟩
  ·exact trivial
  ·refine ⟨?_,⟨?_,⟨?_,⟨?_,⟨?_,⟨?_,⟨?_,⟨?_,⟨?_,⟨?_,⟨?_,⟨?_,⟨?_,⟨?_,trivial⟩⟩⟩⟩⟩⟩⟩⟩⟩⟩⟩⟩⟩⟩
   ·intro _ b bv _
    iterate 14 intro _
    refine sw<|mw (vs l f.length m) ?_
    exact f1
   ·intro _ b a6 _
    have a7:=u.extk a6
    rintro _ rfl;iterate 13 intro _
    refine sw<|ln wN tD (C.from0 a7) ?_
    exact f1
   ·intro _ b bw _
    rintro _ rfl _ rfl _ _ _ _ _ _ _ _ _ _ _ _
    refine sw<|pu (vb (!(decide ((f.length:Int)=32)))) wN ?_
    exact f1
   ·intro _ b bz _
    rintro _ rfl _ rfl _ rfl _ _ _ _ _ _ _ _ _ _ _
    refine sw<|mw (vb (!(decide ((f.length:Int)=32)))) ?_
    exact f1
   ·intro _ b b0 _
    rintro _ rfl _ rfl _ rfl _ rfl _ _ _ _ _ _ _ _ _ _
    refine sw<|sk (cA not i) ?_
    exact f1
   ·intro _ b b1 _
    rintro _ rfl _ rfl _ rfl _ rfl _ rfl _ _ _ _ _ _ _ _ _
    refine sw<|sk (cA not i) ?_
    exact f1
   ·intro _ b b2 _
    rintro _ rfl _ rfl _ rfl _ rfl _ rfl _ rfl _ _ _ _ _ _ _ _
    refine sw<|sk (cA not i) ?_
    exact f1
   ·intro _ b b3 _
    iterate 7 rintro _ rfl
    intro _ _ _ _ _ _ _
    refine sw<|pk (vb true) wN (cA not i) ?_
    exact f1
   ·intro _ b b4 _
    iterate 8 rintro _ rfl
    intro _ _ _ _ _ _
    refine sw<|mw (vb true) ?_
    exact f1
   ·intro _ b b5 _
    iterate 9 rintro _ rfl
    intro _ _ _ _ _
    refine sw<|sk T1 ?_
    exact f1
   ·intro _ b b6 _
    iterate 10 rintro _ rfl
    intro _ _ _ _
    refine sw<|sk T1 ?_
    exact f1
   ·intro _ b b7 _
    iterate 9 rintro _ rfl
    intro _ _ _ _ _
    refine sw<|sk T1 ?_
    exact f1
   ·intro _ b b8 _
    iterate 9 rintro _ rfl
    intro _ _ _ _ _
    refine sw<|sk T1 ?_
    exact f1
   ·intro _ b b9 _
    iterate 9 rintro _ rfl
    rintro _ _ _ rfl _ rfl _
    refine sw<|sk T1 ?_
    exact f1
  ·intro _ b a8
   have a9:=u.extk a8
   iterate 14 rintro _ rfl
   refine sw ?_
   iterate 2 refine sk T1 ?_
   refine pk (vb true) wN T1 ?_
   refine n2<|ct T1<|sr<|aw (vs none 0 0) ?_
   refine aw (vb false) ?_
   refine n1<|Jv (.inl rfl) (vs none 0 0) (vb false) rfl rfl rfl ?_
   refine ⟨a9.keep0,?_⟩
   simp only [GT,i,cond_true,cond_false]
   exact ⟨_,_,rfl,(by first|exact FL _ _ _ _|exact OLv.nil _ _ _ _),(by simp),⟨trivial,trivial⟩⟩
 have bA:=dT i
 rcases bt (decide (((uL d a).length:Int)=0)) with g|g
 ·have bB:=dT g
  refine Ga ([(12,[],[],(fun _ v _=>v=(vs l f.length m))),(13,[],[0],(fun _ v _=>v=(vi (f.length:Int)))),(14,[],[0,1],(fun _ v _=>v=(vb (!(decide ((f.length:Int)=32)))))),(15,[],[0,1,2],(fun _ v _=>v=(vb (!(decide ((f.length:Int)=32)))))),(16,[],[0,1,2,3],(fun _ v _=>v=(vs s (uL d a).length t))),(17,[],[0,1,2,3,4],(fun _ v _=>v=(vi ((uL d a).length:Int)))),(18,[],[0,1,2,3,4,5],(fun _ v _=>v=(vb (decide (((uL d a).length:Int)=0))))),(19,[],[0,1,2,3,4,5,6],(fun _ v _=>v=(vb (decide (((uL d a).length:Int)=0))))),(20,[],[0,1,2,3,4,5,6,7],(fun _ v _=>v=(vb (decide (((uL d a).length:Int)=0))))),(21,[],[0,1,2,3,4,5,6,7,8],(fun _ v _=>v=U)),(22,[],[0,1,2,3,4,5,6,7,8,9],(fun _ v _=>v=U)),(23,[],[0,1,2,3,4,5,6,7,8],(fun _ v _=>v=U)),(24,[],[0,1,2,3,4,5,6,7,8],(fun _ v _=>v=U)),(25,[],[0,1,2,3,4,5,6,7,8,11,12],(fun _ v _=>v=U))]:GV) (fun _ o=>Keep K o) [] GU rfl (by kernel_rfl) (by kernel_rfl) ?_ (fun _ _ h=>h) (fun _ _ _ _ h _ k=>h.trans k) trivial ?_ ?_ ?_
  ·exact ⟨hV,hE,⟨hV,hE,⟨hV,hE,⟨hV,hE,⟨hV,hE,⟨hV,hE,⟨hV,hE,⟨hV,hE,⟨hV,hE,⟨hV,hE,⟨hV,hE,⟨hV,hE,⟨hV,hE,⟨hV,hE,trivial⟩⟩⟩⟩⟩⟩⟩⟩⟩⟩⟩⟩⟩⟩
  ·exact trivial
  ·refine ⟨?_,⟨?_,⟨?_,⟨?_,⟨?_,⟨?_,⟨?_,⟨?_,⟨?_,⟨?_,⟨?_,⟨?_,⟨?_,⟨?_,trivial⟩⟩⟩⟩⟩⟩⟩⟩⟩⟩⟩⟩⟩⟩
   ·intro _ b bC _
    iterate 14 intro _
    refine sw<|mw (vs l f.length m) ?_
    exact f1
   ·intro _ b aA _
    have aB:=u.extk aA
    rintro _ rfl;iterate 13 intro _
    refine sw<|ln wN tD (C.from0 aB) ?_
    exact f1
   ·intro _ b bD _
    rintro _ rfl _ rfl _ _ _ _ _ _ _ _ _ _ _ _
    refine sw<|pu (vb (!(decide ((f.length:Int)=32)))) wN ?_
    exact f1
   ·intro _ b bE _
    rintro _ rfl _ rfl _ rfl _ _ _ _ _ _ _ _ _ _ _
    refine sw<|mw (vb (!(decide ((f.length:Int)=32)))) ?_
    exact f1
   ·intro _ b bF _
    rintro _ rfl _ rfl _ rfl _ rfl _ _ _ _ _ _ _ _ _ _
    refine sw<|mv (vs s (uL d a).length t) (wS (cA not i)) ?_
    exact f1
   ·intro _ b aC _
    rintro _ rfl _ rfl _ rfl _ rfl _ rfl _ _ _ _ _ _ _ _ _
    refine sw ?_
    have aD:=(gc S aC)
    refine ln (wS (cA not i)) tD (Rd.of_own aD) ?_
    exact f1
   ·intro _ b bG _
    rintro _ rfl _ rfl _ rfl _ rfl _ rfl _ rfl _ _ _ _ _ _ _ _
    refine sw<|pu (vb (decide (((uL d a).length:Int)=0))) (wS (cA not i)) ?_
    exact f1
   ·intro _ b bH _
    iterate 7 rintro _ rfl
    intro _ _ _ _ _ _ _
    refine sw<|pf (vb (decide (((uL d a).length:Int)=0))) wN (cA not i) ?_
    exact f1
   ·intro _ b bI _
    iterate 8 rintro _ rfl
    intro _ _ _ _ _ _
    refine sw<|mw (vb (decide (((uL d a).length:Int)=0))) ?_
    exact f1
   ·intro _ b bJ _
    iterate 9 rintro _ rfl
    intro _ _ _ _ _
    refine sw<|sk g ?_
    exact f1
   ·intro _ b bK _
    iterate 10 rintro _ rfl
    intro _ _ _ _
    refine sw<|sk g ?_
    exact f1
   ·intro _ b bL _
    iterate 9 rintro _ rfl
    intro _ _ _ _ _
    refine sw<|sk g ?_
    exact f1
   ·intro _ b bM _
    iterate 9 rintro _ rfl
    intro _ _ _ _ _
    refine sw<|sk g ?_
    exact f1
   ·intro _ b bN _
    iterate 9 rintro _ rfl
    rintro _ _ _ rfl _ rfl _
    refine sw<|sk g ?_
    exact f1
  ·intro _ b aE
   have aF:=u.extk aE
   iterate 14 rintro _ rfl
   refine sw ?_
   iterate 2 refine sk g ?_
   refine pk (vb true) wN g ?_
   refine n2<|ct T1<|sr<|aw (vs none 0 0) ?_
   refine aw (vb false) ?_
   refine n1<|Jv (.inl rfl) (vs none 0 0) (vb false) rfl rfl rfl ?_
   refine ⟨aF.keep0,?_⟩
   simp only [GT,i,g,cond_true,cond_false]
   exact ⟨_,_,rfl,(by first|exact FL _ _ _ _|exact OLv.nil _ _ _ _),(by simp),⟨trivial,trivial⟩⟩
 have bO:=dF g
 refine Ga ([(12,[],[],(fun _ v _=>v=(vs l f.length m))),(13,[],[0],(fun _ v _=>v=(vi (f.length:Int)))),(14,[],[0,1],(fun _ v _=>v=(vb (!(decide ((f.length:Int)=32)))))),(15,[],[0,1,2],(fun _ v _=>v=(vb (!(decide ((f.length:Int)=32)))))),(16,[],[0,1,2,3],(fun _ v _=>v=(vs s (uL d a).length t))),(17,[],[0,1,2,3,4],(fun _ v _=>v=(vi ((uL d a).length:Int)))),(18,[],[0,1,2,3,4,5],(fun _ v _=>v=(vb (decide (((uL d a).length:Int)=0))))),(19,[],[0,1,2,3,4,5,6],(fun _ v _=>v=(vb (decide (((uL d a).length:Int)=0))))),(20,[],[0,1,2,3,4,5,6,7],(fun _ v _=>v=(vb (decide (((uL d a).length:Int)=0))))),(21,[],[0,1,2,3,4,5,6,7,8],(fun _ v _=>v=(vp p 10))),(22,[],[0,1,2,3,4,5,6,7,8,9],(fun _ v _=>v=(vs H a.Tag.length I))),(23,[],[0,1,2,3,4,5,6,7,8],(fun _ v _=>v=(vs l f.length m))),(24,[],[0,1,2,3,4,5,6,7,8],(fun _ v _=>v=(vs s (uL d a).length t))),(25,[],[0,1,2,3,4,5,6,7,8,11,12],(fun _ v w=>JF w K.heap.size v (JQ f (uL d a))))]:GV) (fun _ o=>Keep K o) [] GU rfl (by kernel_rfl) (by kernel_rfl) ?_ (fun _ _ h=>h) (fun _ _ _ _ h _ k=>h.trans k) trivial ?_ ?_ ?_
 ·exact ⟨hV,hE,⟨hV,hE,⟨hV,hE,⟨hV,hE,⟨hV,hE,⟨hV,hE,⟨hV,hE,⟨hV,hE,⟨hV,hE,⟨hV,hE,⟨hV,hE,⟨hV,hE,⟨hV,hE,⟨(fun e v w R h hk=>by obtain ⟨T,V,he,W,X,hap⟩:=h;exact ⟨T,V,he,gc W hk,X,hap⟩),hE,trivial⟩⟩⟩⟩⟩⟩⟩⟩⟩⟩⟩⟩⟩⟩
 ·exact trivial
 ·refine ⟨?_,⟨?_,⟨?_,⟨?_,⟨?_,⟨?_,⟨?_,⟨?_,⟨?_,⟨?_,⟨?_,⟨?_,⟨?_,⟨?_,trivial⟩⟩⟩⟩⟩⟩⟩⟩⟩⟩⟩⟩⟩⟩
  ·intro _ b bP _
   iterate 14 intro _
   refine sw<|mw (vs l f.length m) ?_
   exact f1
  ·intro _ b aG _
   have aH:=u.extk aG
   rintro _ rfl;iterate 13 intro _
   refine sw<|ln wN tD (C.from0 aH) ?_
   exact f1
  ·intro _ b bQ _
   rintro _ rfl _ rfl _ _ _ _ _ _ _ _ _ _ _ _
   refine sw<|pu (vb (!(decide ((f.length:Int)=32)))) wN ?_
   exact f1
  ·intro _ b bR _
   rintro _ rfl _ rfl _ rfl _ _ _ _ _ _ _ _ _ _ _
   refine sw<|mw (vb (!(decide ((f.length:Int)=32)))) ?_
   exact f1
  ·intro _ b bS _
   rintro _ rfl _ rfl _ rfl _ rfl _ _ _ _ _ _ _ _ _ _
   refine sw<|mv (vs s (uL d a).length t) (wS (cA not i)) ?_
   exact f1
  ·intro _ b aI _
   rintro _ rfl _ rfl _ rfl _ rfl _ rfl _ _ _ _ _ _ _ _ _
   refine sw ?_
   have aJ:=(gc S aI)
   refine ln (wS (cA not i)) tD (Rd.of_own aJ) ?_
   exact f1
  ·intro _ b bT _
   rintro _ rfl _ rfl _ rfl _ rfl _ rfl _ rfl _ _ _ _ _ _ _ _
   refine sw<|pu (vb (decide (((uL d a).length:Int)=0))) (wS (cA not i)) ?_
   exact f1
  ·intro _ b bU _
   iterate 7 rintro _ rfl
   intro _ _ _ _ _ _ _
   refine sw<|pf (vb (decide (((uL d a).length:Int)=0))) wN (cA not i) ?_
   exact f1
  ·intro _ b bW _
   iterate 8 rintro _ rfl
   intro _ _ _ _ _ _
   refine sw<|mw (vb (decide (((uL d a).length:Int)=0))) ?_
   exact f1
  ·intro _ b bX _
   iterate 9 rintro _ rfl
   intro _ _ _ _ _
   refine sw<|pu (vp p 10) (wS g) ?_
   exact f1
  ·intro _ b aK _
   iterate 10 rintro _ rfl
   intro _ _ _ _
   refine sw ?_
   have aL:=((y.kp r).kp aK)
   refine ld (vs H a.Tag.length I) (wS g) uH aL ?_
   exact f1
  ·intro _ b bY _
   iterate 9 rintro _ rfl
   intro _ _ _ _ _
   refine sw<|mv (vs l f.length m) (wS g) ?_
   exact f1
  ·intro _ b bZ _
   iterate 9 rintro _ rfl
   intro _ _ _ _ _
   refine sw<|mv (vs s (uL d a).length t) (wS g) ?_
   exact f1
  ·intro _ b Y _
   have aM:=u.extk Y
   iterate 9 rintro _ rfl
   rintro _ _ _ rfl _ rfl _
   refine sw ?_
   have aN:=(gc S Y)
   refine cl (wS g) (Uz b _ f (FV (C.from0 aM) ae) _ (uL d a) (FV (Rd.of_own aN) a5)) ?_
   rintro _ Z ⟨aO,⟨ca,cb,rfl,aP,aQ,aR⟩⟩
   have cc:=Ky f (uL d a)
   exact FY aO ⟨_,_,rfl,(tA aP Y.size),aQ,aR⟩
 ·intro _ b A
  have ao:=u.extk A
  iterate 13 rintro _ rfl
  rintro _ ⟨cd,ce,rfl,aS,aT,cg⟩
  have ci:=Ky f (uL d a)
  refine sw<|cl (wS g) (QY b _ a.Tag (FV (ak.from0 ao) am) _ (JQ f (uL d a)) (FV (Rd.of_own aS) aT)) ?_
  rintro _ Z ⟨B,rfl⟩
  have aa:=ao.extk B
  refine pu (vb (!(It a.Tag (JQ f (uL d a))))) (wS g) ?_
  refine pf (vb (!(It a.Tag (JQ f (uL d a))))) wN g ?_
  refine n2 ?_
  rcases bf (It a.Tag (JQ f (uL d a))) with J|J
  ·refine ct (cA not J)<|sr<|aw (vs none 0 0) ?_
   refine aw (vb false) ?_
   refine n1<|Jv (.inl rfl) (vs none 0 0) (vb false) rfl rfl rfl ?_
   refine ⟨aa.keep0,?_⟩
   simp only [GT,i,g,J,cond_true,cond_false]
   exact ⟨_,_,rfl,(by first|exact FL _ _ _ _|exact OLv.nil _ _ _ _),(by simp),⟨trivial,trivial⟩⟩
  refine cf (cA not J)<|FR<|rg<|uK<|Ga ([(29,[],[],(fun _ v _=>v=(vs l f.length m))),(30,[],[],(fun _ v _=>v=(vi d))),(31,[],[],(fun _ v _=>v=(vp p 3))),(32,[],[2],(fun _ v _=>v=(vs D a.Sn.length E))),(33,[],[],(fun _ v _=>v=(vp p 7))),(34,[],[4],(fun _ v _=>v=(vi a.Epoch))),(35,[],[],(fun _ v _=>v=(vp p 8))),(36,[],[6],(fun _ v _=>v=(vi a.Seq))),(37,[],[1,2,3,4,5,6,7],(fun _ v w=>JF w Z.heap.size v (FK d a.Sn a.Epoch a.Seq))),(38,[],[],(fun _ v _=>v=(vp p 9))),(39,[],[9],(fun _ v _=>v=(vs F a.Body.length G)))]:GV) (fun _ o=>Keep Z o) [] GU rfl (by kernel_rfl) (by kernel_rfl) ?_ (fun _ _ h=>h) (fun _ _ _ _ h _ k=>h.trans k) trivial ?_ ?_ ?_
  ·exact ⟨hV,hE,⟨hV,hE,⟨hV,hE,⟨hV,hE,⟨hV,hE,⟨hV,hE,⟨hV,hE,⟨hV,hE,⟨(fun e v w R h hk=>by obtain ⟨T,V,he,W,X,hap⟩:=h;exact ⟨T,V,he,gc W hk,X,hap⟩),hE,⟨hV,hE,⟨hV,hE,trivial⟩⟩⟩⟩⟩⟩⟩⟩⟩⟩⟩
  ·exact trivial
  ·refine ⟨?_,⟨?_,⟨?_,⟨?_,⟨?_,⟨?_,⟨?_,⟨?_,⟨?_,⟨?_,⟨?_,trivial⟩⟩⟩⟩⟩⟩⟩⟩⟩⟩⟩
   ·intro _ j cj _
    rintro _ _ _ _ _ _ _ _ _ _ _
    refine sw<|mw (vs l f.length m) ?_
    exact f1
   ·intro _ j ck _
    rintro _ _ _ _ _ _ _ _ _ _ _
    refine sw<|mw (vi d) ?_
    exact f1
   ·intro _ j cm _
    rintro _ _ _ _ _ _ _ _ _ _ _
    refine sw<|pu (vp p 3) wN ?_
    exact f1
   ·intro _ j aU _
    rintro _ _ _ rfl _ _ _ _ _ _ _ _
    refine sw ?_
    have aV:=((((y.kp r).kp A).kp B).kp aU)
    refine ld (vs D a.Sn.length E) wN uH aV ?_
    exact f1
   ·intro _ j cn _
    rintro _ _ _ _ _ _ _ _ _ _ _
    refine sw<|pu (vp p 7) wN ?_
    exact f1
   ·intro _ j aW _
    rintro _ _ _ _ _ rfl _ _ _ _ _ _
    refine sw ?_
    have aX:=((((y.kp r).kp A).kp B).kp aW)
    refine ld (vi a.Epoch) wN tE aX ?_
    exact f1
   ·intro _ j co _
    rintro _ _ _ _ _ _ _ _ _ _ _
    refine sw<|pu (vp p 8) wN ?_
    exact f1
   ·intro _ j aY _
    rintro _ _ _ _ _ _ _ rfl _ _ _ _
    refine sw ?_
    have aZ:=((((y.kp r).kp A).kp B).kp aY)
    refine ld (vi a.Seq) wN tE aZ ?_
    exact f1
   ·intro _ j ap _
    have ba:=aa.extk ap
    rintro _
    iterate 7 rintro _ rfl
    intro _ _ _
    refine sw<|cl wN (Nf j d _ a.Sn (FV (af.from0 ba) ah) a.Epoch a.Seq) ?_
    rintro _ bb ⟨bc,⟨cp,cq,rfl,bd,be,bg⟩⟩
    have cr:=Hw d a.Sn a.Epoch a.Seq
    exact FY bc ⟨_,_,rfl,(tA bd ap.size),be,bg⟩
   ·intro _ j cs _
    rintro _ _ _ _ _ _ _ _ _ _ _
    refine sw<|pu (vp p 9) wN ?_
    exact f1
   ·intro _ j bh _
    rintro _ _ _ _ _ _ _ _ _ _ rfl _
    refine sw ?_
    have bi:=((((y.kp r).kp A).kp B).kp bh)
    refine ld (vs F a.Body.length G) wN uH bi ?_
    exact f1
  ·intro _ j aq
   have ab:=aa.extk aq
   iterate 8 rintro _ rfl
   rintro _ ⟨cu,cv,rfl,bj,bk,cw⟩
   have cx:=Hw d a.Sn a.Epoch a.Seq
   rintro _ rfl _ rfl
   refine sw<|cl wN (UA j _ f (FV (C.from0 ab) ae) _ (FK d a.Sn a.Epoch a.Seq) (FV (Rd.of_own bj) bk) _ a.Body (FV (ai.from0 ab) aj)) ?_
   rintro _ bb ⟨bl,⟨au,av,rfl,bm,bn,cy⟩⟩
   have bo:=ab.extk bl
   have cz:=KG f (FK d a.Sn a.Epoch a.Seq) a.Body
   refine aw (vs au (Ia f (FK d a.Sn a.Epoch a.Seq) a.Body).length av) ?_
   refine aw (vb true) ?_
   refine n3<|Jv (.inl rfl) (vs au (Ia f (FK d a.Sn a.Epoch a.Seq) a.Body).length av) (vb true) rfl rfl rfl ?_
   refine ⟨bo.keep0,?_⟩
   simp only [GT,i,g,J,cond_true,cond_false]
   exact ⟨_,_,rfl,(tA bm (z5 an r A B aq)),bn,⟨trivial,trivial⟩⟩

def NU (w:World) (lo:Nat) (v:Value) (x:(PEp)×(List UInt8)×(Int)):Prop:=∃ (a:Option Addr) (b:Nat) (d:Option Addr) (e:Nat) (f:Option Addr) (g:Nat),v=.tuple #[.agg #[.int .i64 x.1.N,.slice a x.1.Key.length b,.int .i64 x.1.Seq,.int .i64 x.1.Win.Top,.slice d x.1.Win.Bits.length e],.slice f x.2.1.length g,.int .i64 x.2.2]∧w.ownsRow lo 5 1 (.slice a x.1.Key.length b) x.1.Key.length (x.1.Key.map bV)∧x.1.Key.length≤1073741824∧w.ownsRow lo 3 1 (.slice d x.1.Win.Bits.length e) x.1.Win.Bits.length (x.1.Win.Bits.map iV)∧x.1.Win.Bits.length≤1073741824∧w.ownsRow lo 5 1 (.slice f x.2.1.length g) x.2.1.length (x.2.1.map bV)∧x.2.1.length≤1073741824∧Aps [(a,b),(d,e),(f,g)]
def mz (a:PEp) (d:Int) (b:PFrame):(PEp)×(List UInt8)×(Int):=bif (Hm a) then (bif (decide (((uL d b).length:Int)=0)) then (((a),[],1)) else (bif (decide (b.Epoch=a.N)) then (bif ((ID a.Win b.Seq).2) then (bif ((GT a.Key d b).2) then (({N:=(a).N,Key:=(a).Key,Seq:=(a).Seq,Win:=((ID a.Win b.Seq).1):PEp},(GT a.Key d b).1,0)) else (((a),[],2))) else (((a),[],3))) else (((a),[],1)))) else (((a),[],1))
theorem Ng (Q:World) (aG:Value) (a:PEp) (bm:Pn Q aG a) (g:Int) (aH:Value) (b:PFrame) (bn:MH Q aH b) :Fn Tryz.prog 47 #[aG,(vi g),aH] Q (fun v aI=>Keep Q aI∧NU aI Q.heap.size v (mz a g b)):=by
 obtain ⟨X,Y,Z,aa,rfl,a5,a6,a7,a8⟩:=bm
 obtain ⟨af,ah,ai,aj,ak,am,an,ao,ap,aq,au,av,rfl,aJ,aK,aL,aM,aN,aO,aP,aQ,aR,aS,aT,aU⟩:=bn
 refine FI (n:=59) [(va (Gx a X Y Z aa)),(vi g),(va (HH b af ah ai aj ak am an ao ap aq au av))] Tryz.func47 rfl rfl ?_
 refine sr<|bx (Gx a X Y Z aa) wN ?_
 intro ax cg ci aV t bo
 refine bx (HH b af ah ai aj ak am an ao ap aq au av) wN ?_
 intro a9 cj ck aW l bp
 refine al Ks wN Hy ?_
 intro bq J ay y m az
 have aA:=(((Ch.base Q).extk t).extk l).extk m
 refine aw (vs none 0 0) ?_
 refine aw (vi 0) ?_
 refine nx ?_
 have aX:=((bo.kp l).kp m)
 refine lN (Gx a X Y Z aa) wN FE uE aX ?_
 refine cl wN (LA J _ a (IP (a5.from0 aA) a6 (a7.from0 aA) a8)) ?_
 rintro _ O ⟨i,⟨p,q,B,C,rfl,I,a0,R,aB,aC⟩⟩
 refine al Ks wN Hy ?_
 intro aY cm A ab j br
 refine sv (Gx (a) p q B C) wN uE br ?_
 intro bu f a1 cn
 have a2:=((aA.extk i).extk j).ext f (fun k hk=>by subst hk;exact nT (z4 t l m i) A)
 refine n4<|jT1 [(1,(vi g)),(3,(vp ax 0)),(5,(vp a9 0)),(6,(vp bq 0)),(7,(vs none 0 0)),(8,(vi 0)),(9,(vp aY 0))] (mz a g b=((a),[],1)) ?_ fun aD=>?_
 ·intro bv aZ a3 co
  refine sr ?_
  have bw:=(a1.kp a3)
  refine lN (Gx (a) p q B C) wN FE uE bw ?_
  have bz:=((((az.kp i).kp j).ch f (nN (nL y (nT i.size A)))).kp a3)
  refine sv (Gx (a) p q B C) wN uE bz ?_
  intro ba bb b0 cp
  have b1:=(a2.extk a3).ext bb (fun k hk=>by subst hk;exact nT (z2 t l) ay)
  refine aw (vs none 0 0) ?_
  refine aw (vi 1) ?_
  refine n1 ?_
  have bc:=fun (E sz n:Nat) (v:Value) (F:List Value) (o:World.ownsRow O J.heap.size E sz v n F) (x:World.ownsRow O J.heap.size E sz v n F)=>(tC (gc (tC (gc o j) f (ne2 x (A))) a3) bb (ne1 x (y)))
  have b2:=(bc _ _ _ _ _ I I)
  have b3:=(bc _ _ _ _ _ R R)
  refine Hu (.inl rfl) (va (Gx (a) p q B C)) (vs none 0 0) (vi 1) rfl (HL (Gx (a) p q B C) rfl b0 FE uE) rfl rfl ?_
  refine ⟨b1.keep0,?_⟩
  rw [bv]
  exact ⟨_,_,_,_,_,_,rfl,(tA b2 (z3 t l m)),a0,(tA b3 (z3 t l m)),aB,(by first|exact FL _ _ _ _|exact OLv.nil _ _ _ _),(by simp),⟨⟨(aC.1.1),⟨(Ap.nr _),trivial⟩⟩,⟨⟨(Ap.nr _),trivial⟩,⟨trivial,trivial⟩⟩⟩⟩
 have bd:=(((aX.kp i).kp j).ch f (nN (nL aV (nT (z3 l m i) A))))
 refine lN (Gx a X Y Z aa) wN FE uE bd ?_
 refine cl wN (Pc bu _ a (IP (a5.from0 a2) a6 (a7.from0 a2) a8)) ?_
 rintro _ aZ ⟨d,rfl⟩
 have P:=a2.extk d
 refine pu (vb (!(Hm a))) wN ?_
 refine mw (vb (!(Hm a))) ?_
 rcases bf (Hm a) with u|u
 ·iterate 5 refine sk (cA not u) ?_
  refine pk (vb true) wN (cA not u) ?_
  refine mw (vb true) ?_
  iterate 5 refine sk T1 ?_
  refine pk (vb true) wN T1 ?_
  refine n2<|ct T1 ?_
  have b4:mz a g b=((a),[],1):=by simp only [mz,u,cond_true,cond_false]
  exact wj (aD b4 _ d)
 have cq:=Jk u
 refine mv (vi g) (wS (cA not u)) ?_
 have be:=(((((bp.kp m).kp i).kp j).ch f (nN (nL aW (nT (z2 m i) A)))).kp d)
 refine lN (HH b af ah ai aj ak am an ao ap aq au av) (wS (cA not u)) Gg FD be ?_
 refine cl (wS (cA not u)) (Li aZ g _ b (IN (aJ.from0 P) aK (aL.from0 P) aM (aN.from0 P) aO (aP.from0 P) aQ (aR.from0 P) aS (aT.from0 P) aU)) ?_
 rintro _ ba ⟨e,⟨cr,cs,rfl,b5,_⟩⟩
 have bg:=P.extk e
 refine ln (wS (cA not u)) tD (Rd.of_own b5) ?_
 refine pu (vb (decide (((uL g b).length:Int)=0))) (wS (cA not u)) ?_
 refine pf (vb (decide (((uL g b).length:Int)=0))) wN (cA not u) ?_
 refine mw (vb (decide (((uL g b).length:Int)=0))) ?_
 rcases bt (decide (((uL g b).length:Int)=0)) with w|w
 ·have cu:=dT w
  iterate 5 refine sk w ?_
  refine pk (vb true) wN w ?_
  refine n2<|ct T1 ?_
  have b6:mz a g b=((a),[],1):=by simp only [mz,u,w,cond_true,cond_false]
  exact wj (aD b6 _ (d.trans e))
 have cv:=dF w
 refine pu (vp a9 7) (wS w) ?_
 have aE:=(be.kp e)
 refine ld (vi b.Epoch) (wS w) tE aE ?_
 refine pu (vp ax 0) (wS w) ?_
 have aF:=((bd.kp d).kp e)
 refine ld (vi a.N) (wS w) tE aF ?_
 refine pu (vb (!(decide (b.Epoch=a.N)))) (wS w) ?_
 refine pf (vb (!(decide (b.Epoch=a.N)))) wN w ?_
 refine n2 ?_
 rcases bf (decide (b.Epoch=a.N)) with K|K
 ·have cw:=dF K
  refine ct (cA not K) ?_
  have b7:mz a g b=((a),[],1):=by simp only [mz,u,w,K,cond_true,cond_false]
  exact wj (aD b7 _ (d.trans e))
 have cx:=dT K
 refine cf (cA not K)<|y1<|pu (vp ax 3) wN ?_
 refine lN (HQ a.Win Z aa) wN Gj FH aF ?_
 refine pu (vp a9 8) wN ?_
 refine ld (vi b.Seq) wN tE aE ?_
 refine cl wN (Sp ba _ a.Win (JD (a7.from0 bg) a8) b.Seq) ?_
 rintro _ cy ⟨h,⟨G,H,rfl,S,b8,cz⟩⟩
 refine mw (.tuple #[(va (HQ ((ID a.Win b.Seq).1) G H)),(vb ((ID a.Win b.Seq).2))]) ?_
 refine pu (va (HQ ((ID a.Win b.Seq).1) G H)) wN ?_
 refine pu (vb ((ID a.Win b.Seq).2)) wN ?_
 refine al [(vi 0),(vs none 0 0)] wN Jt ?_
 intro c0 c1 D c2 r b9
 refine sv (HQ ((ID a.Win b.Seq).1) G H) wN FH b9 ?_
 intro bA s bB c3
 have L:=((bg.extk h).extk r).ext s (fun k hk=>by subst hk;exact nT (z9 t l m i j f d e h) D)
 refine aw (vb ((ID a.Win b.Seq).2)) ?_
 refine n4<|mw (vb ((ID a.Win b.Seq).2)) ?_
 refine pu (vb (!((ID a.Win b.Seq).2))) wN ?_
 refine n2 ?_
 rcases bf ((ID a.Win b.Seq).2) with T|T
 ·refine ct (cA not T)<|sr ?_
  have bC:=(((((a1.kp d).kp e).kp h).kp r).ch s (nN (nL ab (nT (z4 f d e h) D))))
  refine lN (Gx (a) p q B C) wN FE uE bC ?_
  have bD:=((((((((az.kp i).kp j).ch f (nN (nL y (nT i.size A)))).kp d).kp e).kp h).kp r).ch s (nN (nL y (nT (z6 i j f d e h) D))))
  refine sv (Gx (a) p q B C) wN uE bD ?_
  intro bE bh bF c4
  have bG:=L.ext bh (fun k hk=>by subst hk;exact nT (z2 t l) ay)
  refine aw (vs none 0 0) ?_
  refine aw (vi 3) ?_
  refine n1 ?_
  have bi:=fun (E sz n:Nat) (v:Value) (F:List Value) (o:World.ownsRow O J.heap.size E sz v n F) (x:World.ownsRow O J.heap.size E sz v n F)=>(tC (tC (gc (gc (gc (gc (tC (gc o j) f (ne2 x (A))) d) e) h) r) s (ne2 x (nT (z5 j f d e h) D))) bh (ne1 x (y)))
  have bH:=(bi _ _ _ _ _ I I)
  have bI:=(bi _ _ _ _ _ R R)
  refine Hu (.inl rfl) (va (Gx (a) p q B C)) (vs none 0 0) (vi 3) rfl (HL (Gx (a) p q B C) rfl bF FE uE) rfl rfl ?_
  refine ⟨bG.keep0,?_⟩
  simp only [mz,u,w,K,T,cond_true,cond_false]
  exact ⟨_,_,_,_,_,_,rfl,(tA bH (z3 t l m)),a0,(tA bI (z3 t l m)),aB,(by first|exact FL _ _ _ _|exact OLv.nil _ _ _ _),(by simp),⟨⟨(aC.1.1),⟨(Ap.nr _),trivial⟩⟩,⟨⟨(Ap.nr _),trivial⟩,⟨trivial,trivial⟩⟩⟩⟩
 refine cf (cA not T)<|y1<|pu (vp ax 1) wN ?_
 have bJ:=(((aF.kp h).kp r).ch s (nN (nL aV (nT (z8 l m i j f d e h) D))))
 refine ld (vs X a.Key.length Y) wN uH bJ ?_
 refine mw (vi g) ?_
 have bK:=(((aE.kp h).kp r).ch s (nN (nL aW (nT (z7 m i j f d e h) D))))
 refine lN (HH b af ah ai aj ak am an ao ap aq au av) wN Gg FD bK ?_
 refine cl wN (Sq bA _ a.Key (FV (a5.from0 L) a6) g _ b (IN (aJ.from0 L) aK (aL.from0 L) aM (aN.from0 L) aO (aP.from0 L) aQ (aR.from0 L) aS (aT.from0 L) aU)) ?_
 rintro _ bE ⟨M,⟨V,W,rfl,ac,bL,c5⟩⟩
 have bj:=L.extk M
 refine mw (.tuple #[(vs V ((GT a.Key g b).1).length W),(vb ((GT a.Key g b).2))]) ?_
 refine pu (vs V ((GT a.Key g b).1).length W) wN ?_
 refine pu (vb ((GT a.Key g b).2)) wN ?_
 refine aw (vs V ((GT a.Key g b).1).length W) ?_
 refine aw (vb ((GT a.Key g b).2)) ?_
 refine n4<|mw (vb ((GT a.Key g b).2)) ?_
 refine pu (vb (!((GT a.Key g b).2))) wN ?_
 refine n2 ?_
 rcases bf ((GT a.Key g b).2) with ad|ad
 ·refine ct (cA not ad)<|sr ?_
  have bM:=((((((a1.kp d).kp e).kp h).kp r).ch s (nN (nL ab (nT (z4 f d e h) D)))).kp M)
  refine lN (Gx (a) p q B C) wN FE uE bM ?_
  have bN:=(((((((((az.kp i).kp j).ch f (nN (nL y (nT i.size A)))).kp d).kp e).kp h).kp r).ch s (nN (nL y (nT (z6 i j f d e h) D)))).kp M)
  refine sv (Gx (a) p q B C) wN uE bN ?_
  intro bO bk bP c6
  have bQ:=bj.ext bk (fun k hk=>by subst hk;exact nT (z2 t l) ay)
  refine aw (vs none 0 0) ?_
  refine aw (vi 2) ?_
  refine n1 ?_
  have bl:=fun (E sz n:Nat) (v:Value) (F:List Value) (o:World.ownsRow O J.heap.size E sz v n F) (x:World.ownsRow O J.heap.size E sz v n F)=>(tC (gc (tC (gc (gc (gc (gc (tC (gc o j) f (ne2 x (A))) d) e) h) r) s (ne2 x (nT (z5 j f d e h) D))) M) bk (ne1 x (y)))
  have bR:=(bl _ _ _ _ _ I I)
  have bS:=(bl _ _ _ _ _ R R)
  refine Hu (.inl rfl) (va (Gx (a) p q B C)) (vs none 0 0) (vi 2) rfl (HL (Gx (a) p q B C) rfl bP FE uE) rfl rfl ?_
  refine ⟨bQ.keep0,?_⟩
  simp only [mz,u,w,K,T,ad,cond_true,cond_false]
  exact ⟨_,_,_,_,_,_,rfl,(tA bR (z3 t l m)),a0,(tA bS (z3 t l m)),aB,(by first|exact FL _ _ _ _|exact OLv.nil _ _ _ _),(by simp),⟨⟨(aC.1.1),⟨(Ap.nr _),trivial⟩⟩,⟨⟨(Ap.nr _),trivial⟩,⟨trivial,trivial⟩⟩⟩⟩
 refine cf (cA not ad)<|y1 ?_
 have bT:=(bB.kp M)
 refine lN (HQ ((ID a.Win b.Seq).1) G H) wN Gj FH bT ?_
 refine pu (vp aY 3) wN ?_
 have bU:=((((((a1.kp d).kp e).kp h).kp r).ch s (nN (nL ab (nT (z4 f d e h) D)))).kp M)
 refine st (va (HQ ((ID a.Win b.Seq).1) G H)) (HQ ((ID a.Win b.Seq).1) G H) [(vi ((a).N)),(vs p ((a).Key).length q),(vi ((a).Seq)),(vi (((ID a.Win b.Seq).1).Top)),(vs G (((ID a.Win b.Seq).1).Bits).length H)] wN FH bU ?_
 intro bO ae bW c7
 have bX:=bj.ext ae (fun k hk=>by subst hk;exact nT (z4 t l m i) A)
 refine nx<|lN [(vi ((a).N)),(vs p ((a).Key).length q),(vi ((a).Seq)),(vi (((ID a.Win b.Seq).1).Top)),(vs G (((ID a.Win b.Seq).1).Bits).length H)] wN FE uE bW ?_
 refine mw (vs V ((GT a.Key g b).1).length W) ?_
 have bY:=((((((((((az.kp i).kp j).ch f (nN (nL y (nT i.size A)))).kp d).kp e).kp h).kp r).ch s (nN (nL y (nT (z6 i j f d e h) D)))).kp M).ch ae (nN (nL y (nT i.size A))))
 refine sv [(vi ((a).N)),(vs p ((a).Key).length q),(vi ((a).Seq)),(vi (((ID a.Win b.Seq).1).Top)),(vs G (((ID a.Win b.Seq).1).Bits).length H)] wN uE bY ?_
 intro c8 a4 bZ c9
 have ca:=bX.ext a4 (fun k hk=>by subst hk;exact nT (z2 t l) ay)
 refine aw (vs V ((GT a.Key g b).1).length W) ?_
 refine aw (vi 0) ?_
 refine n3 ?_
 have cb:=fun (E sz n:Nat) (v:Value) (F:List Value) (o:World.ownsRow O J.heap.size E sz v n F) (x:World.ownsRow O J.heap.size E sz v n F)=>(tC (tC (gc (tC (gc (gc (gc (gc (tC (gc o j) f (ne2 x (A))) d) e) h) r) s (ne2 x (nT (z5 j f d e h) D))) M) ae (ne2 x (A))) a4 (ne1 x (y)))
 have cc:=(cb _ _ _ _ _ I I)
 have cd:=(tC (tC (gc (tC (gc S r) s (ne2 S (D))) M) ae (ne1 S (nL ab (z3 f d e)))) a4 (ne1 S (nL y (z5 i j f d e))))
 have ce:=(tC (tC ac ae (ne1 ac (nL ab (z6 f d e h r s)))) a4 (ne1 ac (nL y (z8 i j f d e h r s))))
 refine Hu (.inl rfl) (va [(vi ((a).N)),(vs p ((a).Key).length q),(vi ((a).Seq)),(vi (((ID a.Win b.Seq).1).Top)),(vs G (((ID a.Win b.Seq).1).Bits).length H)]) (vs V ((GT a.Key g b).1).length W) (vi 0) rfl (HL [(vi ((a).N)),(vs p ((a).Key).length q),(vi ((a).Seq)),(vi (((ID a.Win b.Seq).1).Top)),(vs G (((ID a.Win b.Seq).1).Bits).length H)] rfl bZ FE uE) rfl rfl ?_
 refine ⟨ca.keep0,?_⟩
 simp only [mz,u,w,K,T,ad,cond_true,cond_false]
 exact ⟨_,_,_,_,_,_,rfl,(tA cc (z3 t l m)),a0,(tA cd (z8 t l m i j f d e)),b8,(tA ce (z11 t l m i j f d e h r s)),bL,⟨⟨(Ap.lt I S (z4 j f d e)),⟨(Ap.lt I ac (z7 j f d e h r s)),trivial⟩⟩,⟨⟨(Ap.lt S ac (z2 r s)),trivial⟩,⟨trivial,trivial⟩⟩⟩⟩
end Go.Proofs.YtacoceibbheccaaGreat.K
