import Derived.Test.YtacoceibbheccaaCore
import Derived.Test.YtacoceibbheccaaProg
import Derived.Test.YtacoceibbheccaaHeld
import Derived.Test.YtacoceibbheccaaFun
import Derived.Test.YtacoceibbheccaaFunZ
import Derived.Test.YtacoceibbheccaaSqz
import Derived.Test.YtacoceibbheccaaHash
import Derived.Test.YtacoceibbheccaaCur
import Derived.Test.YtacoceibbheccaaDrawW
import Derived.Test.YtacoceibbheccaaCurZ
import Derived.Test.YtacoceibbheccaaAead
import Derived.Test.YtacoceibbheccaaWm2
namespace Go.Proofs.Ytacoceibbheccaa.K
open Go.RowKit
set_option linter.unusedVariables false
set_option linter.unusedSimpArgs false
set_option maxRecDepth 100000
set_option maxHeartbeats 4000000
theorem ciBlockOf (f:World) (p:Value) (d:List UInt8) (I:R_22 f p d) (q:Value) (a:List UInt8) (J:R_22 f q a) (b:Int) :Fn Try.prog 81 #[p,q,(vi b)] f (fun v r=>Keep f r∧O_22 r f.heap.size v (blkOf d a b)):=by
 obtain ⟨k,l,rfl,K,M⟩:=I
 obtain ⟨g,h,rfl,s,N⟩:=J
 refine fn_ofS (n:=23) [(vs k d.length l),(vs g a.length h),(vi b)] Try.func81 rfl rfl ?_
 refine sr ?_
 refine aw (vs none 0 0) ?_
 refine n4 ?_
 refine jT1 [(0,(vs k d.length l)),(1,(vs g a.length h)),(2,(vi b)),(6,(vs none 0 0))] (blkOf d a b=[]) ?_ fun t=>?_
 ·intro O P Q ak
  have R:=(Ch.base f).extk Q
  refine sr ?_
  refine aw (vs none 0 0) ?_
  refine n1 ?_
  refine rt (vs none 0 0) ?_
  refine ⟨R.keep0,?_⟩
  rw [O]
  exact ⟨_,_,rfl,(by first|exact own_nil _ _ _ _|exact OLv.nil _ _ _ _),(by simp),⟨trivial,trivial⟩⟩
 refine mw (vi b) ?_
 refine cl wN (ciwithin f b 0 6) ?_
 rintro _ P ⟨j,rfl⟩
 have u:=(Ch.base f).extk j
 refine pu (vb (!(i_within b 0 6))) wN ?_
 refine mw (vb (!(i_within b 0 6))) ?_
 rcases bf (i_within b 0 6) with e|e
 ·have am:=impl_within_f e
  iterate 3 refine sk (cA not e) ?_
  refine pk (vb true) wN (cA not e) ?_
  refine n2 ?_
  refine ct (Eq.refl true) ?_
  have S:blkOf d a b=[]:=by first|exact blkOf_f (by omega)|exact blkOf_t (by omega) (by omega) (by omega) (by simp [joinB])
  exact wj (t S _ j)
 have an:=impl_within_t e
 refine mv (vs g a.length h) (wS (cA not e)) ?_
 refine ln (wS (cA not e)) slTy_22 (s.from0 u) ?_
 refine pu (vb (decide (100 < (a.length:Int)))) (wS (cA not e)) ?_
 refine pf (vb (decide (100 < (a.length:Int)))) wN (cA not e) ?_
 refine n2 ?_
 rcases bt (decide (100 < (a.length:Int))) with i|i
 ·have ao:=dT i
  refine ct i ?_
  have T:blkOf d a b=[]:=by first|exact blkOf_f (by omega)|exact blkOf_t (by omega) (by omega) (by omega) (by simp [joinB])
  exact wj (t T _ j)
 have ap:=dF i
 refine cf i ?_
 refine y1 ?_
 refine mw (vs k d.length l) ?_
 refine ltB ([115]:List UInt8) wN slTy_22 ?_
 intro x y aq A V
 refine mw (vs g a.length h) ?_
 refine wl_lit [(vs x ([115]:List UInt8).length y),(vs g a.length h)] wN rfl rfl slTy_56 (m:=2) rfl (by simp only [maxLen];omega) (fun w=>by kernel_rfl) ?_
 intro au W o B
 obtain ⟨av,ax,rfl⟩:=own_form B
 have C:=(u.extk A).extk o
 have X:=(own_kp V o)
 refine cl wN (cijoined W _ [([115]:List UInt8),a] (mR_56 (RLv.mk (L:=LT_22) [(([115]:List UInt8),[(x,y)]),(a,[(g,h)])] (Rd.of_own B) rfl ⟨⟨⟨(Rd.of_own X),(by simp)⟩,trivial⟩,⟨⟨⟨(s.from0 C),N⟩,trivial⟩,trivial⟩⟩ (by first|decide|exact Nat.le_of_ble_eq_true rfl)) (by first|decide|exact Nat.le_of_ble_eq_true rfl)) (by first|omega|(rw [joinB_l2];omega)|(rw [joinB_l2];simp only [List.length_cons,List.length_nil,maskB_len];omega)|(rw [joinB_l3];simp only [List.length_cons,List.length_nil,maskB_len];omega)|(simp only [joinB,List.flatten_cons,List.flatten_nil,List.length_append,List.length_cons,List.length_nil,maskB_len];omega))) ?_
 rintro _ Y ⟨D,⟨ay,az,rfl,Z,aa,a0⟩⟩
 have a1:=(show (joinB [([115]:List UInt8),a]).length=1+a.length by simp only [joinB,List.flatten_cons,List.flatten_nil,List.length_append,List.length_cons,List.length_nil];omega)
 refine mw (vi b) ?_
 refine cl wN (ciPutN Y _ (joinB [([115]:List UInt8),a]) (mR_22 (Rd.of_own Z) aa) b 4 (by first|omega|(simp;done)|(simp;omega)|(simp only [List.length_append,List.length_cons,List.length_nil] at *;omega))) ?_
 rintro _ ab ⟨E,⟨a2,a3,rfl,ac,ad,a4⟩⟩
 have F:=(C.extk D).extk E
 have a5:=putN_len (joinB [([115]:List UInt8),a]) b 4
 refine cl wN (ciHmac ab _ d (mR_22 (K.from0 F) M) _ (putN (joinB [([115]:List UInt8),a]) b 4) (mR_22 (Rd.of_own ac) ad)) ?_
 rintro _ a6 ⟨ae,⟨G,H,rfl,af,ah,a7⟩⟩
 have ai:=F.extk ae
 have a8:=hmac_le d (putN (joinB [([115]:List UInt8),a]) b 4)
 refine aw (vs G (hmac d (putN (joinB [([115]:List UInt8),a]) b 4)).length H) ?_
 refine n3 ?_
 refine rt (vs G (hmac d (putN (joinB [([115]:List UInt8),a]) b 4)).length H) ?_
 refine ⟨ai.keep0,?_⟩
 have aj:blkOf d a b=(hmac d (putN (joinB [([115]:List UInt8),a]) b 4)):=by first|exact blkOf_f (by omega)|exact blkOf_t (by omega) (by omega) (by omega) (by simp [joinB])
 rw [aj]
 exact ⟨_,_,rfl,(own_lo af (z5 j A o D E)),ah,⟨trivial,trivial⟩⟩

theorem ciStream (e:World) (L:Value) (b:List UInt8) (X:R_22 e L b) (M:Value) (a:List UInt8) (Y:R_22 e M a) (d:Int) :Fn Try.prog 64 #[L,M,(vi d)] e (fun v o=>Keep e o∧O_22 o e.heap.size v (stream b a d)):=by
 obtain ⟨h,i,rfl,N,Z⟩:=X
 obtain ⟨j,m,rfl,O,aa⟩:=Y
 refine fn_ofS (n:=39) [(vs h b.length i),(vs j a.length m),(vi d)] Try.func64 rfl rfl ?_
 refine sr ?_
 refine aw (vs none 0 0) ?_
 refine n4 ?_
 refine jT1 [(0,(vs h b.length i)),(1,(vs j a.length m)),(2,(vi d)),(6,(vs none 0 0))] (stream b a d=[]) ?_ fun E=>?_
 ·intro ab p ac a3
  have ad:=(Ch.base e).extk ac
  refine sr ?_
  refine aw (vs none 0 0) ?_
  refine n1 ?_
  refine rt (vs none 0 0) ?_
  refine ⟨ad.keep0,?_⟩
  rw [ab]
  exact ⟨_,_,rfl,(by first|exact own_nil _ _ _ _|exact OLv.nil _ _ _ _),(by simp),⟨trivial,trivial⟩⟩
 refine mw (vi d) ?_
 refine cl wN (ciwithin e d 0 200) ?_
 rintro _ p ⟨q,rfl⟩
 have F:=(Ch.base e).extk q
 refine pu (vb (!(i_within d 0 200))) wN ?_
 refine mw (vb (!(i_within d 0 200))) ?_
 rcases bf (i_within d 0 200) with f|f
 ·have a4:=impl_within_f f
  iterate 3 refine sk (cA not f) ?_
  refine pk (vb true) wN (cA not f) ?_
  refine mw (vb true) ?_
  iterate 3 refine sk (Eq.refl true) ?_
  refine pk (vb true) wN (Eq.refl true) ?_
  refine n2 ?_
  refine ct (Eq.refl true) ?_
  have ae:stream b a d=[]:=by first|exact stream_f (by omega)|exact stream_t (by omega) (by omega) (by omega) (by omega) (by omega) (by omega)
  exact wj (E ae _ q)
 have a5:=impl_within_t f
 refine mv (vs j a.length m) (wS (cA not f)) ?_
 refine ln (wS (cA not f)) slTy_22 (O.from0 F) ?_
 refine pu (vb (decide (100 < (a.length:Int)))) (wS (cA not f)) ?_
 refine pf (vb (decide (100 < (a.length:Int)))) wN (cA not f) ?_
 refine mw (vb (decide (100 < (a.length:Int)))) ?_
 rcases bt (decide (100 < (a.length:Int))) with g|g
 ·have a6:=dT g
  iterate 3 refine sk g ?_
  refine pk (vb true) wN g ?_
  refine n2 ?_
  refine ct (Eq.refl true) ?_
  have af:stream b a d=[]:=by first|exact stream_f (by omega)|exact stream_t (by omega) (by omega) (by omega) (by omega) (by omega) (by omega)
  exact wj (E af _ q)
 have a7:=dF g
 refine mv (vs h b.length i) (wS g) ?_
 refine ln (wS g) slTy_22 (N.from0 F) ?_
 refine pu (vb (decide (1048576 < (b.length:Int)))) (wS g) ?_
 refine pf (vb (decide (1048576 < (b.length:Int)))) wN g ?_
 refine n2 ?_
 rcases bt (decide (1048576 < (b.length:Int))) with x|x
 ·have a8:=dT x
  refine ct x ?_
  have ah:stream b a d=[]:=by first|exact stream_f (by omega)|exact stream_t (by omega) (by omega) (by omega) (by omega) (by omega) (by omega)
  exact wj (E ah _ q)
 have a9:=dF x
 refine cf x ?_
 refine y1 ?_
 refine wl_lit0 wN rfl rfl slTy_22 (fun w=>by kernel_rfl) ?_
 intro G H I ai
 have aj:=F.extk I
 refine aw (vs (some G) 0 0) ?_
 refine n4 ?_
 refine aw (vi 0) ?_
 refine wl_nil<|wq_then<|wc_block ?_
 have P:([]:List UInt8)=strN b a 0:=by rfl
 have Q:0=(strN b a 0).length:=by rw [← P];try (first|rfl|simp only [List.length_set]|simp)
 refine wc_loopP [(0,(vs h b.length i)),(1,(vs j a.length m)),(2,(vi d)),(6,(vs none 0 0)),(7,(.slice (some G) (strN b a 0).length 0)),(8,(vi ((0:Nat):Int)))] ⟨rfl,rfl,rfl,rfl,rfl,(cA (Value.int .i64) (show (0:Int)=((0:Nat):Int) by omega)),trivial⟩ (fun e' o=>∃ (k:Nat) (R:Env) (r:Option Addr) (s:Nat),e'=pt R [(0,(vs h b.length i)),(1,(vs j a.length m)),(2,(vi d)),(6,(vs none 0 0)),(7,(.slice r (strN b a k).length s)),(8,(vi ((k:Nat):Int)))]∧Ch (fun k=>e.heap.size≤k) e o∧Ch (fun k=>p.heap.size≤k) H o∧32*((k:Nat):Int) < d+32∧(World.ownsRow o p.heap.size 5 1 (.slice r (strN b a k).length s) (strN b a k).length ((strN b a k).map bV)∧(strN b a k).length≤1073741824)) (fun e' _=>d.toNat - (lenOf (e' 7))) ?_ ?_
 ·exact fun u=>⟨0,u,(some G),0,rfl,aj,(Ch.refl (fun k=>p.heap.size≤k) H),(by omega),⟨(by rw [← Q,← P];exact ai),(by rw [← Q];first|exact (by simp)|(simp only [List.length_append,List.length_take,List.length_replicate];omega))⟩⟩
 ·rintro _ J ⟨k,R,r,s,rfl,A,K,aA,⟨t,ak⟩⟩
  have hsl:=strN_or (key:=b) (head:=a) (by omega) (by omega) k
  have hsm:=strN_or (key:=b) (head:=a) (by omega) (by omega) (k+1)
  refine wc_seq<|sr ?_
  refine mw (vs r (strN b a k).length s) ?_
  refine ln wN slTy_22 (Rd.of_own t) ?_
  refine mw (vi d) ?_
  refine pu (vb (decide (((strN b a k).length:Int) < d))) wN ?_
  refine n2 ?_
  rcases bt (decide (((strN b a k).length:Int) < d)) with y|y
  ·have aB:=dT y
   refine ct y ?_
   refine wc_skip<|wq_then<|wc_seq<|wc_block<|wc_region ?_
   refine mw (vs r (strN b a k).length s) ?_
   refine mw (vs h b.length i) ?_
   refine mw (vs j a.length m) ?_
   refine mw (vi ((k:Nat):Int)) ?_
   refine cl wN (ciBlockOf J _ b (mR_22 (N.from0 A) Z) _ a (mR_22 (O.from0 A) aa) ((k:Nat):Int)) ?_
   rintro _ am ⟨B,⟨aC,aD,rfl,an,_⟩⟩
   have aE:=blkOf_len b a ((k:Nat):Int)
   have ao:=(own_kp t B)
   refine apB (strN b a k) (blkOf b a ((k:Nat):Int)) wN slTy_22 ao (Rd.of_own an) (z3 I K B) ?_
   intro C D aF S ap aG aq
   have au:=(A.extk B).ext S (fun k hk=>nT q.size (own_lt t k hk).1)
   refine aw (vs C ((strN b a k)++(blkOf b a ((k:Nat):Int))).length D) ?_
   refine wl_nil<|wq_blk_normal<|wq_then<|wc_region ?_
   refine mw (vi ((k:Nat):Int)) ?_
   refine ar (((k:Nat):Int)+1) wN ?_
   refine aw (vi (((k:Nat):Int)+1)) ?_
   refine wl_nil ?_
   have T:(((strN b a k)++(blkOf b a ((k:Nat):Int))):List UInt8)=strN b a (k+1):=by rfl
   refine wq_loopP (w0:=J) [(0,(vs h b.length i)),(1,(vs j a.length m)),(2,(vi d)),(6,(vs none 0 0)),(7,(.slice C (strN b a (k+1)).length D)),(8,(vi (((k+1):Nat):Int)))] ?_ ?_ ?_
   · exact ⟨rfl,rfl,rfl,rfl,(cA (fun l:List UInt8=>Value.slice C l.length D) T),(cA (Value.int .i64) (show ((((k:Nat):Int)+1):Int)=(((k+1):Nat):Int) by omega)),trivial⟩
   · exact fun u=>⟨(k+1),u,C,D,rfl,au,((((Ch.refl (fun k=>p.heap.size≤k) H).ext K (fun k hk=>hk)).extk B).ext S (fun k hk=>nT (Nat.le_refl p.heap.size) (own_lt t k hk).1)),(by omega),(T ▸ ⟨ap,aq⟩)⟩
   · show d.toNat - (strN b a (k+1)).length < d.toNat - (strN b a k).length;omega
  have aH:=dF y
  refine cf y ?_
  refine wc_exit<|wq_then_exit<|wq_then_exit<|wq_blk_exit<|wq_then<|sr ?_
  refine mw (vs r (strN b a k).length s) ?_
  refine mw (vi d) ?_
  refine slv ((strN b a k).take ((d).toNat)) 0 ((d).toNat) wN slTy_22 (Rd.of_own t) (by first|omega|(simp <;> omega)) (by first|omega|(simp <;> omega)) (by first|rfl|(simp;done)|(rw [List.take_of_length_le (by first|(simp;done)|(simp;omega))])) rfl rfl rfl rfl (.inl ⟨rfl,rfl⟩) (.inr ⟨_,_,_,rfl,rfl,by omega⟩) ?_
  have av:0≤((d).toNat):=(by first|omega|(simp <;> omega))
  have ax:((d).toNat)≤(strN b a k).length:=(by first|omega|(simp <;> omega))
  refine cl wN (ciclone J _ ((strN b a k).take ((d).toNat)) (mR_22 (Rd.subV (x':=((strN b a k).take ((d).toNat))) (Rd.of_own t) av ax (by first|rfl|(simp;done)|(rw [List.take_of_length_le (by first|(simp;done)|(simp;omega))]))) (nT (by simp only [List.length_take,List.length_drop];omega) ak))) ?_
  rintro _ am ⟨ay,⟨V,W,rfl,az,a0,aI⟩⟩
  have a1:=A.extk ay
  refine aw (vs V (((strN b a k).take ((d).toNat))).length W) ?_
  refine n3 ?_
  refine rt (vs V (((strN b a k).take ((d).toNat))).length W) ?_
  refine ⟨a1.keep0,?_⟩
  have a2:stream b a d=(((strN b a k).take ((d).toNat))):=by first|exact stream_f (by omega)|exact stream_t (by omega) (by omega) (by omega) (by omega) (by omega) (by omega)
  rw [a2]
  exact ⟨_,_,rfl,(own_lo az (z3 q I K)),a0,⟨trivial,trivial⟩⟩

theorem ciMix (e:World) (X:Value) (d:List UInt8) (ap:R_22 e X d) (Y:Value) (b:List UInt8) (aq:R_22 e Y b) (Z:Value) (a:List UInt8) (au:R_22 e Z a) :Fn Try.prog 45 #[X,Y,Z] e (fun v p=>Keep e p∧O_22 p e.heap.size v (mixB d b a)):=by
 obtain ⟨B,C,rfl,aa,av⟩:=ap
 obtain ⟨D,E,rfl,ab,ax⟩:=aq
 obtain ⟨i,j,rfl,F,aJ⟩:=au
 refine fn_ofS (n:=46) [(vs B d.length C),(vs D b.length E),(vs i a.length j)] Try.func45 rfl rfl ?_
 refine sr ?_
 refine aw (vs none 0 0) ?_
 refine n4 ?_
 refine jT1 [(0,(vs B d.length C)),(1,(vs D b.length E)),(2,(vs i a.length j)),(6,(vs none 0 0))] (mixB d b a=[]) ?_ fun M=>?_
 ·intro ay G az aK
  have a0:=(Ch.base e).extk az
  refine sr ?_
  refine aw (vs none 0 0) ?_
  refine n1 ?_
  refine rt (vs none 0 0) ?_
  refine ⟨a0.keep0,?_⟩
  rw [ay]
  exact ⟨_,_,rfl,(by first|exact own_nil _ _ _ _|exact OLv.nil _ _ _ _),(by simp),⟨trivial,trivial⟩⟩
 refine mw (vs i a.length j) ?_
 refine ln wN slTy_22 F ?_
 refine pu (vb (decide (200 < (a.length:Int)))) wN ?_
 refine mw (vb (decide (200 < (a.length:Int)))) ?_
 rcases bt (decide (200 < (a.length:Int))) with f|f
 ·have aL:=dT f
  iterate 3 refine sk f ?_
  refine pk (vb true) wN f ?_
  refine mw (vb true) ?_
  iterate 3 refine sk (Eq.refl true) ?_
  refine pk (vb true) wN (Eq.refl true) ?_
  refine n2 ?_
  refine ct (Eq.refl true) ?_
  have a1:mixB d b a=[]:=by first|exact mixB_f (by omega)|exact mixB_t (by omega) (by omega) (by omega) (by omega)
  exact wj (M a1 _ (Ch.refl _ _))
 have aM:=dF f
 refine mv (vs D b.length E) (wS f) ?_
 refine ln (wS f) slTy_22 ab ?_
 refine pu (vb (decide (100 < (b.length:Int)))) (wS f) ?_
 refine pf (vb (decide (100 < (b.length:Int)))) wN f ?_
 refine mw (vb (decide (100 < (b.length:Int)))) ?_
 rcases bt (decide (100 < (b.length:Int))) with h|h
 ·have aN:=dT h
  iterate 3 refine sk h ?_
  refine pk (vb true) wN h ?_
  refine n2 ?_
  refine ct (Eq.refl true) ?_
  have a2:mixB d b a=[]:=by first|exact mixB_f (by omega)|exact mixB_t (by omega) (by omega) (by omega) (by omega)
  exact wj (M a2 _ (Ch.refl _ _))
 have aO:=dF h
 refine mv (vs B d.length C) (wS h) ?_
 refine ln (wS h) slTy_22 aa ?_
 refine pu (vb (decide (1048576 < (d.length:Int)))) (wS h) ?_
 refine pf (vb (decide (1048576 < (d.length:Int)))) wN h ?_
 refine n2 ?_
 rcases bt (decide (1048576 < (d.length:Int))) with t|t
 ·have aP:=dT t
  refine ct t ?_
  have a3:mixB d b a=[]:=by first|exact mixB_f (by omega)|exact mixB_t (by omega) (by omega) (by omega) (by omega)
  exact wj (M a3 _ (Ch.refl _ _))
 have aQ:=dF t
 refine cf t ?_
 refine y1 ?_
 refine wl_lit0 wN rfl rfl slTy_22 (fun w=>by kernel_rfl) ?_
 intro N G ac ad
 have H:=(Ch.base e).extk ac
 refine aw (vs (some N) 0 0) ?_
 refine n4 ?_
 refine mw (vs B d.length C) ?_
 refine mw (vs D b.length E) ?_
 refine mw (vs i a.length j) ?_
 refine ln wN slTy_22 (F.from0 H) ?_
 refine cl wN (ciStream G _ d (mR_22 (aa.from0 H) av) _ b (mR_22 (ab.from0 H) ax) (a.length:Int)) ?_
 rintro _ O ⟨P,⟨Q,R,rfl,S,a4,aR⟩⟩
 have a5:=H.extk P
 have aS:=stream_len d b (a.length:Int)
 refine ln wN slTy_22 (Rd.of_own S) ?_
 refine mw (vi 0) ?_
 refine wl_nil<|wq_then<|wc_block ?_
 have ae:((stream d b (a.length:Int)):List UInt8)=(stream d b (a.length:Int)):=by rfl
 have a6:=(own_kp ad P)
 have af:([]:List UInt8)=zipX (a.take 0) ((stream d b (a.length:Int)).take 0):=by rfl
 have ah:0=(zipX (a.take 0) ((stream d b (a.length:Int)).take 0)).length:=by rw [← af];try (first|rfl|simp only [List.length_set]|simp)
 refine wc_loopP [(2,(vs i a.length j)),(6,(vs none 0 0)),(7,(.slice (some N) (zipX (a.take 0) ((stream d b (a.length:Int)).take 0)).length 0)),(28,(.slice Q ((stream d b (a.length:Int))).length R)),(29,(vi ((stream d b (a.length:Int)).length:Int))),(30,(vi ((0:Nat):Int)))] ⟨rfl,rfl,rfl,(cA (fun l:List UInt8=>Value.slice Q l.length R) ae),rfl,(cA (Value.int .i64) (show (0:Int)=((0:Nat):Int) by omega)),trivial⟩ (fun e' p=>∃ (k:Nat) (ai:Env) (q:Option Addr) (s:Nat) (o:Option Addr) (r:Nat),e'=pt ai [(2,(vs i a.length j)),(6,(vs none 0 0)),(7,(.slice o (zipX (a.take k) ((stream d b (a.length:Int)).take k)).length r)),(28,(.slice q ((stream d b (a.length:Int))).length s)),(29,(vi ((stream d b (a.length:Int)).length:Int))),(30,(vi ((k:Nat):Int)))]∧Ch (fun k=>e.heap.size≤k) e p∧Ch (fun k=>e.heap.size≤k) O p∧k≤a.length∧(World.ownsRow p G.heap.size 5 1 (.slice q ((stream d b (a.length:Int))).length s) ((stream d b (a.length:Int))).length (((stream d b (a.length:Int))).map bV)∧((stream d b (a.length:Int))).length≤1073741824)∧(World.ownsRow p e.heap.size 5 1 (.slice o (zipX (a.take k) ((stream d b (a.length:Int)).take k)).length r) (zipX (a.take k) ((stream d b (a.length:Int)).take k)).length ((zipX (a.take k) ((stream d b (a.length:Int)).take k)).map bV)∧(zipX (a.take k) ((stream d b (a.length:Int)).take k)).length≤1073741824)∧NeS o q) (fun e' _=>a.length - ((intOf (e' 30))).toNat) ?_ ?_
 ·exact fun u=>⟨0,u,Q,R,(some N),0,rfl,a5,(Ch.refl (fun k=>e.heap.size≤k) O),(by omega),(ae ▸ ⟨S,a4⟩),⟨(by rw [← ah,← af];exact a6),(by rw [← ah];first|exact (by simp)|(simp only [List.length_append,List.length_take,List.length_replicate];omega))⟩,(NeS.lt ad S (Nat.le_refl G.heap.size))⟩
 ·rintro _ a7 ⟨k,ai,q,s,o,r,rfl,I,aj,aT,⟨T,a8⟩,⟨J,a9⟩,ak⟩
  have hzl:=zipX_le a (stream d b (a.length:Int)) k
  have hsl:=stream_len d b (a.length:Int)
  refine sr ?_
  refine pu (vb (decide (((k:Nat):Int) < ((stream d b (a.length:Int)).length:Int)))) wN ?_
  refine wl_nil<|wq_then<|wc_seq ?_
  rcases bf (decide (((k:Nat):Int) < ((stream d b (a.length:Int)).length:Int))) with y|y
  ·have aU:=dF y
   refine cf y ?_
   refine wc_exit<|wq_then_exit<|wq_then_exit<|wq_blk_exit<|wq_then<|sr ?_
   refine mw (vs o (zipX (a.take k) ((stream d b (a.length:Int)).take k)).length r) ?_
   refine aw (vs o (zipX (a.take k) ((stream d b (a.length:Int)).take k)).length r) ?_
   refine n3 ?_
   refine rt (vs o (zipX (a.take k) ((stream d b (a.length:Int)).take k)).length r) ?_
   refine ⟨I.keep0,?_⟩
   have aA:mixB d b a=(zipX (a.take k) ((stream d b (a.length:Int)).take k)):=by first|exact mixB_f (by omega)|exact mixB_t (by omega) (by omega) (by omega) (by omega)
   rw [aA]
   exact ⟨_,_,rfl,J,a9,⟨trivial,trivial⟩⟩
  have aV:=dT y
  refine ct y ?_
  refine wc_skip<|wq_then<|wc_seq<|wc_block<|sr ?_
  refine mw (vi ((k:Nat):Int)) ?_
  refine ix wN ((k:Nat):Int) slTy_22 (Rd.of_own T) ?_
  refine eb (x:=(stream d b (a.length:Int))) k wN isAgg_5 (Rd.of_own T) ?_
  refine aw (vi ((k:Nat):Int)) ?_
  refine aw (v8 (((stream d b (a.length:Int)).getD k 0).toNat:Int)) ?_
  refine wl_nil<|wq_then<|wc_region ?_
  refine mw (vs o (zipX (a.take k) ((stream d b (a.length:Int)).take k)).length r) ?_
  refine mw (v8 (((stream d b (a.length:Int)).getD k 0).toNat:Int)) ?_
  refine mw (vs i a.length j) ?_
  refine mw (vi ((k:Nat):Int)) ?_
  refine ix wN ((k:Nat):Int) slTy_22 (F.from0 I) ?_
  refine eb (x:=a) k wN isAgg_5 (F.from0 I) ?_
  refine wl_xor8 ((stream d b (a.length:Int)).getD k 0) (a.getD k 0) wN rfl rfl (by kernel_rfl) ?_
  refine ltB ([(((stream d b (a.length:Int)).getD k 0)^^^(a.getD k 0))]:List UInt8) wN slTy_22 ?_
  intro aW aX aY A aB
  have aC:=(own_kp J A)
  refine apB (zipX (a.take k) ((stream d b (a.length:Int)).take k)) ([(((stream d b (a.length:Int)).getD k 0)^^^(a.getD k 0))]:List UInt8) wN slTy_22 aC (Rd.of_own aB) (z4 ac P aj A) ?_
  intro K L aZ V aD aE aF
  have aG:=(I.extk A).ext V (fun k hk=>nT (Nat.le_refl e.heap.size) (own_lt J k hk).1)
  have am:=(own_kp T A)
  have aH:=NeS.app ak aE am
  refine aw (vs K ((zipX (a.take k) ((stream d b (a.length:Int)).take k))++([(((stream d b (a.length:Int)).getD k 0)^^^(a.getD k 0))]:List UInt8)).length L) ?_
  refine wl_nil<|wq_blk_normal<|wq_then<|wc_region ?_
  refine ar (((k:Nat):Int)+1) wN ?_
  refine mw (vi (((k:Nat):Int)+1)) ?_
  refine wl_nil ?_
  have aI:=(own_ch am V (fun g hg hlt hk=>NeS.no (NeS.symm ak) hg hk))
  have an:((stream d b (a.length:Int)):List UInt8)=(stream d b (a.length:Int)):=by rfl
  have W:((stream d b (a.length:Int))).length=((stream d b (a.length:Int))).length:=by rw [← an];try (first|rfl|simp only [List.length_set]|simp)
  have ao:(((zipX (a.take k) ((stream d b (a.length:Int)).take k))++([(((stream d b (a.length:Int)).getD k 0)^^^(a.getD k 0))]:List UInt8)):List UInt8)=zipX (a.take (k+1)) ((stream d b (a.length:Int)).take (k+1)):=by exact zipX_next' (by omega) (by omega)
  refine wq_loopP (w0:=a7) [(2,(vs i a.length j)),(6,(vs none 0 0)),(7,(.slice K (zipX (a.take (k+1)) ((stream d b (a.length:Int)).take (k+1))).length L)),(28,(.slice q ((stream d b (a.length:Int))).length s)),(29,(vi ((stream d b (a.length:Int)).length:Int))),(30,(vi (((k+1):Nat):Int)))] ?_ ?_ ?_
  · exact ⟨rfl,rfl,(cA (fun l:List UInt8=>Value.slice K l.length L) ao),(cA (fun m:Nat=>Value.slice q m s) W),rfl,(cA (Value.int .i64) (show ((((k:Nat):Int)+1):Int)=(((k+1):Nat):Int) by omega)),trivial⟩
  · exact fun u=>⟨(k+1),u,q,s,K,L,rfl,aG,((((Ch.refl (fun k=>e.heap.size≤k) O).ext aj (fun k hk=>hk)).extk A).ext V (fun k hk=>nT (Nat.le_refl e.heap.size) (own_lt J k hk).1)),(by omega),⟨(by rw [← W,← an];exact aI),(by rw [← W];first|exact a8|(simp only [List.length_append,List.length_take,List.length_replicate];omega))⟩,(ao ▸ ⟨aD,aF⟩),aH⟩
  · show a.length - ((((k+1):Nat):Int)).toNat < a.length - (((k:Nat):Int)).toNat;omega

def i_TagInput (b:Int) (a:PFrame):(List UInt8):=bif (i_isRole b) then (bif (i_Sealed a.Kind) then (bif (i_FrameOk a) then ((joinB [([116]:List UInt8),(headOf b a.Sn a.Epoch a.Seq),([(by8 a.Kind)]:List UInt8),a.Body])) else ([])) else ([])) else ([])
theorem ciTagInput (x:World) (b:Int) (V:Value) (a:PFrame) (ax:R_32 x V a) :Fn Try.prog 48 #[(vi b),V] x (fun v H=>Keep x H∧O_22 H x.heap.size v (i_TagInput b a)):=by
 obtain ⟨i,M,y,A,N,O,P,Q,o,p,R,S,rfl,ay,az,W,X,a0,a1,a2,a3,Y,Z,a4,a5⟩:=ax
 refine fn_ofS (n:=36) [(vi b),(va (L_32 a i M y A N O P Q o p R S))] Try.func48 rfl rfl ?_
 refine sr ?_
 refine bx (L_32 a i M y A N O P Q o p R S) wN ?_
 intro g I bn bo aa a6
 have ab:=(Ch.base x).extk aa
 refine aw (vs none 0 0) ?_
 refine n4 ?_
 refine jT1 [(0,(vi b)),(3,(vp g 0)),(4,(vs none 0 0))] (i_TagInput b a=[]) ?_ fun T=>?_
 ·intro a7 ac a8 bp
  have a9:=ab.extk a8
  refine sr ?_
  refine aw (vs none 0 0) ?_
  refine n1 ?_
  refine rt (vs none 0 0) ?_
  refine ⟨a9.keep0,?_⟩
  rw [a7]
  exact ⟨_,_,rfl,(by first|exact own_nil _ _ _ _|exact OLv.nil _ _ _ _),(by simp),⟨trivial,trivial⟩⟩
 refine mw (vi b) ?_
 refine cl wN (ciisRole I b) ?_
 rintro _ ac ⟨s,rfl⟩
 refine pu (vb (!(i_isRole b))) wN ?_
 refine mw (vb (!(i_isRole b))) ?_
 rcases bf (i_isRole b) with f|f
 ·have bq:=isRole_f f
  iterate 4 refine sk (cA not f) ?_
  refine pk (vb true) wN (cA not f) ?_
  refine mw (vb true) ?_
  iterate 3 refine sk (Eq.refl true) ?_
  refine pk (vb true) wN (Eq.refl true) ?_
  refine n2 ?_
  refine ct (Eq.refl true) ?_
  have aA:i_TagInput b a=[]:=by simp only [i_TagInput,f,cond_true,cond_false]
  exact wj (T aA _ s)
 have br:=isRole_t f
 refine pu (vp g 0) (wS (cA not f)) ?_
 have ad:=(a6.kp s)
 refine ld (vi a.Kind) (wS (cA not f)) isAgg_3 ad ?_
 refine cl (wS (cA not f)) (ciSealed ac a.Kind) ?_
 rintro _ aB ⟨B,rfl⟩
 have q:=(ab.extk s).extk B
 refine pu (vb (!(i_Sealed a.Kind))) (wS (cA not f)) ?_
 refine pf (vb (!(i_Sealed a.Kind))) wN (cA not f) ?_
 refine mw (vb (!(i_Sealed a.Kind))) ?_
 rcases bf (i_Sealed a.Kind) with j|j
 ·iterate 3 refine sk (cA not j) ?_
  refine pk (vb true) wN (cA not j) ?_
  refine n2 ?_
  refine ct (Eq.refl true) ?_
  have aC:i_TagInput b a=[]:=by simp only [i_TagInput,f,j,cond_true,cond_false]
  exact wj (T aC _ (s.trans B))
 have t:=(ad.kp B)
 refine lN (L_32 a i M y A N O P Q o p R S) (wS (cA not j)) isAgg_32 sizeOf_32 t ?_
 refine cl (wS (cA not j)) (ciFrameOk aB _ a (mR_32 (ay.from0 q) az (W.from0 q) X (a0.from0 q) a1 (a2.from0 q) a3 (Y.from0 q) Z (a4.from0 q) a5)) ?_
 rintro _ J ⟨l,rfl⟩
 have ae:=q.extk l
 refine pu (vb (!(i_FrameOk a))) (wS (cA not j)) ?_
 refine pf (vb (!(i_FrameOk a))) wN (cA not j) ?_
 refine n2 ?_
 rcases bf (i_FrameOk a) with u|u
 ·refine ct (cA not u) ?_
  have aD:i_TagInput b a=[]:=by simp only [i_TagInput,f,j,u,cond_true,cond_false]
  exact wj (T aD _ ((s.trans B).trans l))
 have bu:=frameOk_i u
 refine cf (cA not u) ?_
 refine wc_skip<|wq_then<|wc_seq ?_
 refine wc_drawT ([(19,[],[],(fun _ v w=>∃ (i:Option Addr) (r:Nat),v=.slice i ([116]:List UInt8).length r∧w.ownsRow J.heap.size 5 1 (.slice i ([116]:List UInt8).length r) ([116]:List UInt8).length (([116]:List UInt8).map bV)∧([116]:List UInt8).length≤1073741824∧Aps [(i,r)])),(20,[],[],(fun _ v _=>v=(vi b))),(21,[],[],(fun _ v _=>v=(vp g 3))),(22,[],[2],(fun _ v _=>v=(vs y a.Sn.length A))),(23,[],[],(fun _ v _=>v=(vp g 7))),(24,[],[4],(fun _ v _=>v=(vi a.Epoch))),(25,[],[],(fun _ v _=>v=(vp g 8))),(26,[],[6],(fun _ v _=>v=(vi a.Seq))),(27,[],[1,2,3,4,5,6,7],(fun _ v w=>O_22 w J.heap.size v (headOf b a.Sn a.Epoch a.Seq))),(28,[],[],(fun _ v _=>v=(vp g 0))),(29,[],[9],(fun _ v _=>v=(vi a.Kind))),(30,[],[9,10],(fun _ v _=>v=(v8 ((by8 a.Kind).toNat:Int)))),(31,[],[9,10,11],(fun _ v w=>∃ (i:Option Addr) (r:Nat),v=.slice i ([(by8 a.Kind)]:List UInt8).length r∧w.ownsRow J.heap.size 5 1 (.slice i ([(by8 a.Kind)]:List UInt8).length r) ([(by8 a.Kind)]:List UInt8).length (([(by8 a.Kind)]:List UInt8).map bV)∧([(by8 a.Kind)]:List UInt8).length≤1073741824∧Aps [(i,r)])),(32,[],[],(fun _ v _=>v=(vp g 9))),(33,[],[13],(fun _ v _=>v=(vs o a.Body.length p)))]:GV) (fun _ H=>Keep J H) [] mixed rfl (by kernel_rfl) (by kernel_rfl) ?_ (fun _ _ h=>h) (fun _ _ _ _ h _ k=>h.trans k) trivial ?_ ?_ ?_
 ·exact ⟨(fun e v w I h hk=>by obtain ⟨C,D,he,E,F,hap⟩:=h;exact ⟨C,D,he,own_kp E hk,F,hap⟩),hE,⟨hV,hE,⟨hV,hE,⟨hV,hE,⟨hV,hE,⟨hV,hE,⟨hV,hE,⟨hV,hE,⟨(fun e v w I h hk=>by obtain ⟨C,D,he,E,F,hap⟩:=h;exact ⟨C,D,he,own_kp E hk,F,hap⟩),hE,⟨hV,hE,⟨hV,hE,⟨hV,hE,⟨(fun e v w I h hk=>by obtain ⟨C,D,he,E,F,hap⟩:=h;exact ⟨C,D,he,own_kp E hk,F,hap⟩),hE,⟨hV,hE,⟨hV,hE,trivial⟩⟩⟩⟩⟩⟩⟩⟩⟩⟩⟩⟩⟩⟩⟩
 ·exact trivial
 ·refine ⟨?_,⟨?_,⟨?_,⟨?_,⟨?_,⟨?_,⟨?_,⟨?_,⟨?_,⟨?_,⟨?_,⟨?_,⟨?_,⟨?_,⟨?_,trivial⟩⟩⟩⟩⟩⟩⟩⟩⟩⟩⟩⟩⟩⟩⟩
  ·intro _ d aE _
   rintro _ _ _ _ _ _ _ _ _ _ _ _ _ _ _
   refine sw ?_
   refine ltB ([116]:List UInt8) wN slTy_22 ?_
   intro bv bw K aF aG
   exact wl_finT aF ⟨_,_,rfl,(own_lo aG aE.size),(by simp),⟨trivial,trivial⟩⟩
  ·intro _ d bz _
   rintro _ _ _ _ _ _ _ _ _ _ _ _ _ _ _
   refine sw ?_
   refine mw (vi b) ?_
   exact f1
  ·intro _ d b0 _
   rintro _ _ _ _ _ _ _ _ _ _ _ _ _ _ _
   refine sw ?_
   refine pu (vp g 3) wN ?_
   exact f1
  ·intro _ d aH _
   rintro _ _ _ rfl _ _ _ _ _ _ _ _ _ _ _ _
   refine sw ?_
   have aI:=((t.kp l).kp aH)
   refine ld (vs y a.Sn.length A) wN isAgg_22 aI ?_
   exact f1
  ·intro _ d b1 _
   rintro _ _ _ _ _ _ _ _ _ _ _ _ _ _ _
   refine sw ?_
   refine pu (vp g 7) wN ?_
   exact f1
  ·intro _ d aJ _
   rintro _ _ _ _ _ rfl _ _ _ _ _ _ _ _ _ _
   refine sw ?_
   have aK:=((t.kp l).kp aJ)
   refine ld (vi a.Epoch) wN isAgg_3 aK ?_
   exact f1
  ·intro _ d b2 _
   rintro _ _ _ _ _ _ _ _ _ _ _ _ _ _ _
   refine sw ?_
   refine pu (vp g 8) wN ?_
   exact f1
  ·intro _ d aL _
   rintro _ _ _ _ _ _ _ rfl _ _ _ _ _ _ _ _
   refine sw ?_
   have aM:=((t.kp l).kp aL)
   refine ld (vi a.Seq) wN isAgg_3 aM ?_
   exact f1
  ·intro _ d af _
   have aN:=ae.extk af
   rintro _ _ rfl _ rfl _ rfl _ rfl _ rfl _ rfl _ rfl _ _ _ _ _ _ _
   refine sw ?_
   refine cl wN (ciHeadOf d b _ a.Sn (mR_22 (W.from0 aN) X) a.Epoch a.Seq) ?_
   rintro _ K ⟨aO,⟨b3,b4,rfl,aP,aQ,aR⟩⟩
   have b5:=headOf_len b a.Sn a.Epoch a.Seq
   exact wl_finT aO ⟨_,_,rfl,(own_lo aP af.size),aQ,aR⟩
  ·intro _ d b6 _
   rintro _ _ _ _ _ _ _ _ _ _ _ _ _ _ _
   refine sw ?_
   refine pu (vp g 0) wN ?_
   exact f1
  ·intro _ d aS _
   rintro _ _ _ _ _ _ _ _ _ _ rfl _ _ _ _ _
   refine sw ?_
   have aT:=((t.kp l).kp aS)
   refine ld (vi a.Kind) wN isAgg_3 aT ?_
   exact f1
  ·intro _ d b7 _
   rintro _ _ _ _ _ _ _ _ _ _ rfl _ rfl _ _ _ _
   refine sw ?_
   refine wl_conv8 a.Kind wN rfl rfl (by kernel_rfl) ?_
   exact f1
  ·intro _ d aU _
   rintro _ _ _ _ _ _ _ _ _ _ rfl _ rfl _ rfl _ _ _
   refine sw ?_
   refine ltB ([(by8 a.Kind)]:List UInt8) wN slTy_22 ?_
   intro b8 b9 K aV aW
   exact wl_finT aV ⟨_,_,rfl,(own_lo aW aU.size),(by simp),⟨trivial,trivial⟩⟩
  ·intro _ d bA _
   rintro _ _ _ _ _ _ _ _ _ _ _ _ _ _ _
   refine sw ?_
   refine pu (vp g 9) wN ?_
   exact f1
  ·intro _ d aX _
   rintro _ _ _ _ _ _ _ _ _ _ _ _ _ _ rfl _
   refine sw ?_
   have aY:=((t.kp l).kp aX)
   refine ld (vs o a.Body.length p) wN isAgg_22 aY ?_
   exact f1
 ·intro _ d ah
  rintro _ ⟨ai,aj,rfl,aZ,ba,-⟩ _ rfl _ rfl _ rfl _ rfl _ rfl _ rfl _ rfl _ ⟨ak,am,rfl,bb,bc,bB⟩
  have bC:=headOf_len b a.Sn a.Epoch a.Seq
  rintro _ rfl _ rfl _ rfl _ ⟨an,ao,rfl,bd,be,-⟩ _ rfl _ rfl
  refine sw ?_
  refine wl_lit [(vs ai ([116]:List UInt8).length aj),(vs ak (headOf b a.Sn a.Epoch a.Seq).length am),(vs an ([(by8 a.Kind)]:List UInt8).length ao),(vs o a.Body.length p)] wN rfl rfl slTy_56 (m:=4) rfl (by simp only [maxLen];omega) (fun w=>by kernel_rfl) ?_
  intro bD K G ap
  obtain ⟨bE,bF,rfl⟩:=own_form ap
  have aq:=(ae.extk ah).extk G
  have bg:=(own_kp bd G)
  have bh:=(own_kp bb G)
  have bi:=(own_kp aZ G)
  refine cl wN (cijoined K _ [([116]:List UInt8),(headOf b a.Sn a.Epoch a.Seq),([(by8 a.Kind)]:List UInt8),a.Body] (mR_56 (RLv.mk (L:=LT_22) [(([116]:List UInt8),[(ai,aj)]),((headOf b a.Sn a.Epoch a.Seq),[(ak,am)]),(([(by8 a.Kind)]:List UInt8),[(an,ao)]),(a.Body,[(o,p)])] (Rd.of_own ap) rfl ⟨⟨⟨(Rd.of_own bi),ba⟩,trivial⟩,⟨⟨⟨(Rd.of_own bh),bc⟩,trivial⟩,⟨⟨⟨(Rd.of_own bg),be⟩,trivial⟩,⟨⟨⟨(Y.from0 aq),Z⟩,trivial⟩,trivial⟩⟩⟩⟩ (by first|decide|exact Nat.le_of_ble_eq_true rfl)) (by first|decide|exact Nat.le_of_ble_eq_true rfl)) (by first|omega|(rw [joinB_l2];omega)|(rw [joinB_l2];simp only [List.length_cons,List.length_nil,maskB_len];omega)|(rw [joinB_l3];simp only [List.length_cons,List.length_nil,maskB_len];omega)|(simp only [joinB,List.flatten_cons,List.flatten_nil,List.length_append,List.length_cons,List.length_nil,maskB_len];omega))) ?_
  rintro _ bG ⟨bj,⟨au,av,rfl,bk,bl,bH⟩⟩
  have bm:=aq.extk bj
  have bI:=(show (joinB [([116]:List UInt8),(headOf b a.Sn a.Epoch a.Seq),([(by8 a.Kind)]:List UInt8),a.Body]).length=1+(headOf b a.Sn a.Epoch a.Seq).length+1+a.Body.length by simp only [joinB,List.flatten_cons,List.flatten_nil,List.length_append,List.length_cons,List.length_nil];omega)
  refine aw (vs au (joinB [([116]:List UInt8),(headOf b a.Sn a.Epoch a.Seq),([(by8 a.Kind)]:List UInt8),a.Body]).length av) ?_
  refine n3 ?_
  refine rt (vs au (joinB [([116]:List UInt8),(headOf b a.Sn a.Epoch a.Seq),([(by8 a.Kind)]:List UInt8),a.Body]).length av) ?_
  refine ⟨bm.keep0,?_⟩
  simp only [i_TagInput,f,j,u,cond_true,cond_false]
  exact ⟨_,_,rfl,(own_lo bk (z6 aa s B l ah G)),bl,⟨trivial,trivial⟩⟩

theorem ciTag (d:World) (i:Value) (a:List UInt8) (u:R_22 d i a) (j:Value) (b:List UInt8) (w:R_22 d j b) :Fn Try.prog 47 #[i,j] d (fun v k=>Keep d k∧O_22 k d.heap.size v (tagP a b)):=by
 obtain ⟨l,m,rfl,x,y⟩:=u
 obtain ⟨o,p,rfl,A,B⟩:=w
 refine fn_ofS (n:=15) [(vs l a.length m),(vs o b.length p)] Try.func47 rfl rfl ?_
 refine sr ?_
 refine aw (vs none 0 0) ?_
 refine nx ?_
 refine mw (vs l a.length m) ?_
 refine mw (vs o b.length p) ?_
 refine cl wN (ciHmac d _ a (mR_22 x y) _ b (mR_22 A B)) ?_
 rintro _ C ⟨q,⟨f,g,rfl,h,D,M⟩⟩
 have r:=(Ch.base d).extk q
 have N:=hmac_le a b
 refine aw (vs f (hmac a b).length g) ?_
 refine n4 ?_
 refine mw (vs f (hmac a b).length g) ?_
 refine ln wN slTy_22 (Rd.of_own h) ?_
 refine pu (vb (decide (((hmac a b).length:Int)=0))) wN ?_
 refine n2 ?_
 rcases bt (decide (((hmac a b).length:Int)=0)) with e|e
 ·have O:=dT e
  refine ct e ?_
  refine sr ?_
  refine aw (vs none 0 0) ?_
  refine n1 ?_
  refine rt (vs none 0 0) ?_
  refine ⟨r.keep0,?_⟩
  have E:tagP a b=[]:=by first|exact tagP_f (by omega)|rfl
  rw [E]
  exact ⟨_,_,rfl,(by first|exact own_nil _ _ _ _|exact OLv.nil _ _ _ _),(by simp),⟨trivial,trivial⟩⟩
 have P:=dF e
 refine cf e ?_
 refine y1 ?_
 refine mw (vs f (hmac a b).length g) ?_
 refine slv ((hmac a b).take 16) 0 16 wN slTy_22 (Rd.of_own h) (by first|omega|(simp <;> omega)) (by first|omega|(simp <;> omega)) (by first|rfl|(simp;done)|(rw [List.take_of_length_le (by first|(simp;done)|(simp;omega))])) rfl rfl rfl rfl (.inl ⟨rfl,rfl⟩) (.inr ⟨_,_,_,rfl,rfl,by omega⟩) ?_
 have F:0≤16:=(by first|omega|(simp <;> omega))
 have G:16≤(hmac a b).length:=(by first|omega|(simp <;> omega))
 refine cl wN (ciclone C _ ((hmac a b).take 16) (mR_22 (Rd.subV (x':=((hmac a b).take 16)) (Rd.of_own h) F G (by first|rfl|(simp;done)|(rw [List.take_of_length_le (by first|(simp;done)|(simp;omega))]))) (nT (by simp only [List.length_take,List.length_drop];omega) D))) ?_
 rintro _ Q ⟨H,⟨s,t,rfl,I,J,R⟩⟩
 have K:=r.extk H
 refine aw (vs s (((hmac a b).take 16)).length t) ?_
 refine n3 ?_
 refine rt (vs s (((hmac a b).take 16)).length t) ?_
 refine ⟨K.keep0,?_⟩
 have L:tagP a b=(((hmac a b).take 16)):=by first|exact tagP_f (by omega)|rfl
 rw [L]
 exact ⟨_,_,rfl,(own_lo I q.size),J,⟨trivial,trivial⟩⟩

theorem alU_32 {w:World} {v:Value} {lo:Nat} (h:∃ (g:Nat) (a b d e f i j k l m o:Value),v=vp g 0∧lo≤g∧Blk w g 32 [a,b,d,e,f,i,j,k,l,m,o]):∃ (g:Nat) (u:Nat→Value),v=vp g 0∧lo≤g∧Blk w g 32 [u 0,u 1,u 2,u 3,u 4,u 5,u 6,u 7,u 8,u 9,u 10]:=by
  obtain ⟨g,a,b,d,e,f,i,j,k,l,m,o,p,q,r⟩:=h
  exact ⟨g,unL [a,b,d,e,f,i,j,k,l,m,o],p,q,r⟩
def O_32_4 (w:World) (lo:Nat) (v:Value) (x:(PFrame)×(Bool)):Prop:=∃ (a:Option Addr) (b:Nat) (d:Option Addr) (e:Nat) (f:Option Addr) (g:Nat) (h:Option Addr) (i:Nat) (j:Option Addr) (k:Nat) (l:Option Addr) (m:Nat),v=.tuple #[.agg #[.int .i64 x.1.Kind,.int .i64 x.1.Id,.slice a x.1.Cn.length b,.slice d x.1.Sn.length e,.int .i64 x.1.Tick,.slice f x.1.Cookie.length g,.slice h x.1.Proof.length i,.int .i64 x.1.Epoch,.int .i64 x.1.Seq,.slice j x.1.Body.length k,.slice l x.1.Tag.length m],.bool x.2]∧w.ownsRow lo 5 1 (.slice a x.1.Cn.length b) x.1.Cn.length (x.1.Cn.map bV)∧x.1.Cn.length≤1073741824∧w.ownsRow lo 5 1 (.slice d x.1.Sn.length e) x.1.Sn.length (x.1.Sn.map bV)∧x.1.Sn.length≤1073741824∧w.ownsRow lo 5 1 (.slice f x.1.Cookie.length g) x.1.Cookie.length (x.1.Cookie.map bV)∧x.1.Cookie.length≤1073741824∧w.ownsRow lo 5 1 (.slice h x.1.Proof.length i) x.1.Proof.length (x.1.Proof.map bV)∧x.1.Proof.length≤1073741824∧w.ownsRow lo 5 1 (.slice j x.1.Body.length k) x.1.Body.length (x.1.Body.map bV)∧x.1.Body.length≤1073741824∧w.ownsRow lo 5 1 (.slice l x.1.Tag.length m) x.1.Tag.length (x.1.Tag.map bV)∧x.1.Tag.length≤1073741824∧Aps [(a,b),(d,e),(f,g),(h,i),(j,k),(l,m)]
def i_Seal (e:List UInt8) (f:Int) (a:List UInt8) (b:Int) (d:Int) (g:Int) (h:List UInt8):(PFrame)×(Bool):=bif (decide ((e.length:Int)=32)) then (bif (i_isRole f) then (bif (i_Sealed g) then (bif (i_FrameOk {Kind:=g,Id:=0,Cn:=[],Sn:=(a),Tick:=0,Cookie:=[],Proof:=[],Epoch:=b,Seq:=d,Body:=(h),Tag:=(List.replicate 16 (0:UInt8)):PFrame}) then (({Kind:=g,Id:=0,Cn:=[],Sn:=(a),Tick:=0,Cookie:=[],Proof:=[],Epoch:=b,Seq:=d,Body:=(mixB e (headOf f a b d) h),Tag:=(tagP e (i_TagInput f {Kind:=g,Id:=0,Cn:=[],Sn:=(a),Tick:=0,Cookie:=[],Proof:=[],Epoch:=b,Seq:=d,Body:=(mixB e (headOf f a b d) h),Tag:=(List.replicate 16 (0:UInt8)):PFrame})):PFrame},true)) else (({Kind:=0,Id:=0,Cn:=[],Sn:=[],Tick:=0,Cookie:=[],Proof:=[],Epoch:=0,Seq:=0,Body:=[],Tag:=[]:PFrame},false))) else (({Kind:=0,Id:=0,Cn:=[],Sn:=[],Tick:=0,Cookie:=[],Proof:=[],Epoch:=0,Seq:=0,Body:=[],Tag:=[]:PFrame},false))) else (({Kind:=0,Id:=0,Cn:=[],Sn:=[],Tick:=0,Cookie:=[],Proof:=[],Epoch:=0,Seq:=0,Body:=[],Tag:=[]:PFrame},false))) else (({Kind:=0,Id:=0,Cn:=[],Sn:=[],Tick:=0,Cookie:=[],Proof:=[],Epoch:=0,Seq:=0,Body:=[],Tag:=[]:PFrame},false))
theorem ciSeal (I:World) (a5:Value) (i:List UInt8) (bi:R_22 I a5 i) (f:Int) (a6:Value) (a:List UInt8) (bj:R_22 I a6 a) (b:Int) (d:Int) (l:Int) (a7:Value) (j:List UInt8) (bk:R_22 I a7 j) :Fn Try.prog 21 #[a5,(vi f),a6,(vi b),(vi d),(vi l),a7] I (fun v aj=>Keep I aj∧O_32_4 aj I.heap.size v (i_Seal i f a b d l j)):=by
 obtain ⟨F,S,rfl,ao,a8⟩:=bi
 obtain ⟨T,V,rfl,a9,aA⟩:=bj
 obtain ⟨W,X,rfl,aB,aC⟩:=bk
 refine fn_ofS (n:=61) [(vs F i.length S),(vi f),(vs T a.length V),(vi b),(vi d),(vi l),(vs W j.length X)] Try.func21 rfl rfl ?_
 refine sr ?_
 refine al Z_32 wN zero_32 ?_
 intro bl G aD Y J aE
 have ap:=(Ch.base I).extk J
 refine aw (vb false) ?_
 refine wl_nil<|wq_then<|wc_seq ?_
 refine wc_drawT ([(17,[],[],(fun _ v _=>v=(vi l))),(18,[],[],(fun _ v _=>v=(vs T a.length V))),(19,[],[1],(fun _ v w=>O_22 w G.heap.size v a)),(20,[],[],(fun _ v _=>v=(vi b))),(21,[],[],(fun _ v _=>v=(vi d))),(22,[],[],(fun _ v _=>v=(vs W j.length X))),(23,[19],[1,2,5],(fun e v w=>KO_22 w G.heap.size v j (fun bm=>Ap (sp (e 19)) bm))),(24,[],[],(fun _ v w=>∃ (F:Option Addr) (aq:Nat),v=.slice F (List.replicate 16 (0:UInt8)).length aq∧w.ownsRow G.heap.size 5 1 (.slice F (List.replicate 16 (0:UInt8)).length aq) (List.replicate 16 (0:UInt8)).length ((List.replicate 16 (0:UInt8)).map bV)∧(List.replicate 16 (0:UInt8)).length≤1073741824∧Aps [(F,aq)])),(25,[19,23,24],[0,1,2,3,4,5,6,7],(fun e v _=>v=(.agg #[(vi l),(vi 0),(vs none 0 0),(e 19),(vi 0),(vs none 0 0),(vs none 0 0),(vi b),(vi d),(e 23),(e 24)]))),(16,[],[],(fun _ v w=>∃ (g:Nat) (aF aG aH aI aJ aK aL aM aN aO aP:Value),v=vp g 0∧G.heap.size≤g∧Blk w g 32 [aF,aG,aH,aI,aJ,aK,aL,aM,aN,aO,aP]))]:GV) (fun _ aj=>Keep G aj) [] mixed rfl (by kernel_rfl) (by kernel_rfl) ?_ (fun _ _ h=>h) (fun _ _ _ _ h _ k=>h.trans k) trivial ?_ ?_ ?_
 ·exact ⟨hV,hE,⟨hV,hE,⟨(fun e v w G h hk=>by obtain ⟨Z,aa,he,ab,ac,hap⟩:=h;exact ⟨Z,aa,he,own_kp ab hk,ac,hap⟩),hE,⟨hV,hE,⟨hV,hE,⟨hV,hE,⟨(fun e v w G h hk=>by obtain ⟨Z,aa,he,ab,ac,hap,hx⟩:=h;exact ⟨Z,aa,he,own_kp ab hk,ac,hap,hx⟩),(fun bn bo v w hx h=>by have au:=hx 19 (by simp);simp only [au] at h;exact h),⟨(fun e v w G h hk=>by obtain ⟨Z,aa,he,ab,ac,hap⟩:=h;exact ⟨Z,aa,he,own_kp ab hk,ac,hap⟩),hE,⟨hV,(fun bn bo v w hx h=>by have au:=hx 19 (by simp);have bp:=hx 23 (by simp);have bq:=hx 24 (by simp);simp only [au,bp,bq] at h;exact h),⟨(fun e v w G h hk=>by obtain ⟨g,aF,aG,aH,aI,aJ,aK,aL,aM,aN,aO,aP,he,hle,hb⟩:=h;exact ⟨g,_,_,_,_,_,_,_,_,_,_,_,he,hle,hb.kp hk⟩),hE,trivial⟩⟩⟩⟩⟩⟩⟩⟩⟩⟩
 ·exact trivial
 ·refine ⟨?_,⟨?_,⟨?_,⟨?_,⟨?_,⟨?_,⟨?_,⟨?_,⟨?_,⟨?_,trivial⟩⟩⟩⟩⟩⟩⟩⟩⟩⟩
  ·intro _ u cu _
   rintro _ _ _ _ _ _ _ _ _ _
   refine sw ?_
   refine mw (vi l) ?_
   exact f1
  ·intro _ u cv _
   rintro _ _ _ _ _ _ _ _ _ _
   refine sw ?_
   refine mw (vs T a.length V) ?_
   exact f1
  ·intro _ u aQ _
   have br:=ap.extk aQ
   rintro _ _ rfl _ _ _ _ _ _ _ _
   refine sw ?_
   refine cl wN (ciclone u _ a (mR_22 (a9.from0 br) aA)) ?_
   rintro _ ad ⟨bu,⟨cw,cx,rfl,bv,bw,bz⟩⟩
   exact wl_finT bu ⟨_,_,rfl,(own_lo bv aQ.size),bw,bz⟩
  ·intro _ u cy _
   rintro _ _ _ _ _ _ _ _ _ _
   refine sw ?_
   refine mw (vi b) ?_
   exact f1
  ·intro _ u cz _
   rintro _ _ _ _ _ _ _ _ _ _
   refine sw ?_
   refine mw (vi d) ?_
   exact f1
  ·intro _ u c0 _
   rintro _ _ _ _ _ _ _ _ _ _
   refine sw ?_
   refine mw (vs W j.length X) ?_
   exact f1
  ·intro _ u aR _
   have b0:=ap.extk aR
   rintro _ _ rfl _ ⟨c1,c2,rfl,b1,_⟩ _ _ _ rfl _ _ _ _
   refine sw ?_
   refine cl wN (ciclone u _ j (mR_22 (aB.from0 b0) aC)) ?_
   rintro _ ad ⟨b2,⟨c3,c4,rfl,aS,b3,b4⟩⟩
   exact wl_finT b2 ⟨_,_,rfl,(own_lo aS aR.size),b3,b4,(Ap.lt b1 aS (Nat.le_refl _))⟩
  ·intro _ u b5 _
   rintro _ _ _ _ _ _ _ _ _ _
   refine sw ?_
   refine wl_makeB (16) wN rfl rfl rfl slTy_22 16 rfl (by omega) (by first|(simp only [List.length_append,List.length_cons,List.length_nil,List.length_replicate,List.length_take,List.length_drop];omega)|omega) (by first|(simp only [List.length_append,List.length_cons,List.length_nil,List.length_replicate,List.length_take,List.length_drop];omega)|omega) ?_
   intro c5 c6 ad b6 b7
   exact wl_finT b6 ⟨_,_,rfl,(own_lo b7 b5.size),(by rw [List.length_replicate];first|assumption|omega),⟨trivial,trivial⟩⟩
  ·intro _ u c7 _
   rintro _ rfl _ rfl _ ⟨b8,b9,rfl,_⟩ _ rfl _ rfl _ rfl _ ⟨bA,bB,rfl,_⟩ _ ⟨bC,bD,rfl,c8,c9,-⟩ _ _
   refine sw ?_
   refine pu (va [(vi l),(vi 0),(vs none 0 0),(vs b8 (a).length b9),(vi 0),(vs none 0 0),(vs none 0 0),(vi b),(vi d),(vs bA (j).length bB),(vs bC (List.replicate 16 (0:UInt8)).length bD)]) wN ?_
   exact f1
  ·intro _ u bE _
   rintro _ _ _ _ _ _ _ _ _ _
   refine sw ?_
   refine al Z_32 wN zero_32 ?_
   intro cC ad bF cD bG bH
   exact wl_finT bG ⟨_,_,_,_,_,_,_,_,_,_,_,_,rfl,(nT bE.size bF),bH⟩
 ·intro _ u K
  rintro _ rfl _ rfl _ ⟨x,y,rfl,ak,av,cE⟩ _ rfl _ rfl _ rfl _ ⟨ax,ay,rfl,bI,bJ,_⟩ _ ⟨O,P,rfl,bK,aT,-⟩ _ rfl _ bL
  obtain ⟨az,cF,rfl,ae,L⟩:=alU_32 bL
  refine sw ?_
  refine sv [(vi l),(vi 0),(vs none 0 0),(vs x (a).length y),(vi 0),(vs none 0 0),(vs none 0 0),(vi b),(vi d),(vs ax (j).length ay),(vs O (List.replicate 16 (0:UInt8)).length P)] wN sizeOf_32 L ?_
  intro ad p bM cG
  have a0:=(ap.extk K).ext p (fun k hk=>by subst hk;exact nT J.size ae)
  refine n4 ?_
  refine jT1 [(0,(vs F i.length S)),(1,(vi f)),(2,(vs T a.length V)),(3,(vi b)),(4,(vi d)),(6,(vs W j.length X)),(14,(vp bl 0)),(15,(vb false)),(16,(vp az 0))] (i_Seal i f a b d l j=({Kind:=0,Id:=0,Cn:=[],Sn:=[],Tick:=0,Cookie:=[],Proof:=[],Epoch:=0,Seq:=0,Body:=[],Tag:=[]:PFrame},false)) ?_ fun am=>?_
  ·intro bN aU aV cH
   refine sr ?_
   refine pu (va Z_32) wN ?_
   have bO:=(((aE.kp K).ch p (nN (nL Y (ae)))).kp aV)
   refine sv Z_32 wN sizeOf_32 bO ?_
   intro a1 bP bQ cI
   have bR:=(a0.extk aV).ext bP (fun k hk=>by subst hk;exact aD)
   refine aw (vb false) ?_
   refine n1 ?_
   refine ret_2 (.inl rfl) (va Z_32) (vb false) rfl (rv_c Z_32 rfl bQ isAgg_32 sizeOf_32) rfl ?_
   refine ⟨bR.keep0,?_⟩
   rw [bN]
   exact ⟨_,_,_,_,_,_,_,_,_,_,_,_,rfl,(by first|exact own_nil _ _ _ _|exact OLv.nil _ _ _ _),(by simp),(by first|exact own_nil _ _ _ _|exact OLv.nil _ _ _ _),(by simp),(by first|exact own_nil _ _ _ _|exact OLv.nil _ _ _ _),(by simp),(by first|exact own_nil _ _ _ _|exact OLv.nil _ _ _ _),(by simp),(by first|exact own_nil _ _ _ _|exact OLv.nil _ _ _ _),(by simp),(by first|exact own_nil _ _ _ _|exact OLv.nil _ _ _ _),(by simp),⟨⟨(Ap.nl _),⟨(Ap.nl _),⟨(Ap.nl _),⟨(Ap.nl _),⟨(Ap.nl _),trivial⟩⟩⟩⟩⟩,⟨⟨(Ap.nl _),⟨(Ap.nl _),⟨(Ap.nl _),⟨(Ap.nl _),trivial⟩⟩⟩⟩,⟨⟨(Ap.nl _),⟨(Ap.nl _),⟨(Ap.nl _),trivial⟩⟩⟩,⟨⟨(Ap.nl _),⟨(Ap.nl _),trivial⟩⟩,⟨⟨(Ap.nl _),trivial⟩,⟨trivial,trivial⟩⟩⟩⟩⟩⟩⟩
  refine mw (vs F i.length S) ?_
  refine ln wN slTy_22 (ao.from0 a0) ?_
  refine pu (vb (!(decide ((i.length:Int)=32)))) wN ?_
  refine mw (vb (!(decide ((i.length:Int)=32)))) ?_
  rcases bf (decide ((i.length:Int)=32)) with r|r
  ·have cJ:=dF r
   iterate 3 refine sk (cA not r) ?_
   refine pk (vb true) wN (cA not r) ?_
   refine mw (vb true) ?_
   iterate 3 refine sk (Eq.refl true) ?_
   refine pk (vb true) wN (Eq.refl true) ?_
   refine mw (vb true) ?_
   iterate 3 refine sk (Eq.refl true) ?_
   refine pk (vb true) wN (Eq.refl true) ?_
   refine n2 ?_
   refine ct (Eq.refl true) ?_
   have bS:i_Seal i f a b d l j=({Kind:=0,Id:=0,Cn:=[],Sn:=[],Tick:=0,Cookie:=[],Proof:=[],Epoch:=0,Seq:=0,Body:=[],Tag:=[]:PFrame},false):=by simp only [i_Seal,r,cond_true,cond_false]
   exact wj (am bS _ (Ch.refl _ _))
  have cK:=dT r
  refine mv (vi f) (wS (cA not r)) ?_
  refine cl (wS (cA not r)) (ciisRole ad f) ?_
  rintro _ aU ⟨m,rfl⟩
  refine pu (vb (!(i_isRole f))) (wS (cA not r)) ?_
  refine pf (vb (!(i_isRole f))) wN (cA not r) ?_
  refine mw (vb (!(i_isRole f))) ?_
  rcases bf (i_isRole f) with t|t
  ·have cL:=isRole_f t
   iterate 3 refine sk (cA not t) ?_
   refine pk (vb true) wN (cA not t) ?_
   refine mw (vb true) ?_
   iterate 3 refine sk (Eq.refl true) ?_
   refine pk (vb true) wN (Eq.refl true) ?_
   refine n2 ?_
   refine ct (Eq.refl true) ?_
   have bT:i_Seal i f a b d l j=({Kind:=0,Id:=0,Cn:=[],Sn:=[],Tick:=0,Cookie:=[],Proof:=[],Epoch:=0,Seq:=0,Body:=[],Tag:=[]:PFrame},false):=by simp only [i_Seal,r,t,cond_true,cond_false]
   exact wj (am bT _ m)
  have cM:=isRole_t t
  refine mv (vi l) (wS (cA not t)) ?_
  refine cl (wS (cA not t)) (ciSealed aU l) ?_
  rintro _ a1 ⟨o,rfl⟩
  refine pu (vb (!(i_Sealed l))) (wS (cA not t)) ?_
  refine pf (vb (!(i_Sealed l))) wN (cA not t) ?_
  refine mw (vb (!(i_Sealed l))) ?_
  rcases bf (i_Sealed l) with A|A
  ·iterate 3 refine sk (cA not A) ?_
   refine pk (vb true) wN (cA not A) ?_
   refine n2 ?_
   refine ct (Eq.refl true) ?_
   have bU:i_Seal i f a b d l j=({Kind:=0,Id:=0,Cn:=[],Sn:=[],Tick:=0,Cookie:=[],Proof:=[],Epoch:=0,Seq:=0,Body:=[],Tag:=[]:PFrame},false):=by simp only [i_Seal,r,t,A,cond_true,cond_false]
   exact wj (am bU _ (m.trans o))
  have aW:=((bM.kp m).kp o)
  refine lN [(vi l),(vi 0),(vs none 0 0),(vs x (a).length y),(vi 0),(vs none 0 0),(vs none 0 0),(vi b),(vi d),(vs ax (j).length ay),(vs O (List.replicate 16 (0:UInt8)).length P)] (wS (cA not A)) isAgg_32 sizeOf_32 aW ?_
  have aX:=(own_kp (own_kp (own_blk ak L (by decide) p) m) o)
  have bW:=(own_kp (own_kp (own_blk bI L (by decide) p) m) o)
  have aY:=(own_kp (own_kp (own_blk bK L (by decide) p) m) o)
  refine cl (wS (cA not A)) (ciFrameOk a1 _ _ (show R_32 a1 (va [(vi l),(vi 0),(vs none 0 0),(vs x (a).length y),(vi 0),(vs none 0 0),(vs none 0 0),(vi b),(vi d),(vs ax (j).length ay),(vs O (List.replicate 16 (0:UInt8)).length P)]) {Kind:=l,Id:=0,Cn:=[],Sn:=(a),Tick:=0,Cookie:=[],Proof:=[],Epoch:=b,Seq:=d,Body:=(j),Tag:=(List.replicate 16 (0:UInt8)):PFrame} from ⟨_,_,_,_,_,_,_,_,_,_,_,_,rfl,(Rd.nil _ _),(by simp),(Rd.of_own aX),av,(Rd.nil _ _),(by simp),(Rd.nil _ _),(by simp),(Rd.of_own bW),bJ,(Rd.of_own aY),aT⟩)) ?_
  rintro _ bX ⟨q,rfl⟩
  have aZ:=((a0.extk m).extk o).extk q
  refine pu (vb (!(i_FrameOk {Kind:=l,Id:=0,Cn:=[],Sn:=(a),Tick:=0,Cookie:=[],Proof:=[],Epoch:=b,Seq:=d,Body:=(j),Tag:=(List.replicate 16 (0:UInt8)):PFrame}))) (wS (cA not A)) ?_
  refine pf (vb (!(i_FrameOk {Kind:=l,Id:=0,Cn:=[],Sn:=(a),Tick:=0,Cookie:=[],Proof:=[],Epoch:=b,Seq:=d,Body:=(j),Tag:=(List.replicate 16 (0:UInt8)):PFrame}))) wN (cA not A) ?_
  refine n2 ?_
  rcases bf (i_FrameOk {Kind:=l,Id:=0,Cn:=[],Sn:=(a),Tick:=0,Cookie:=[],Proof:=[],Epoch:=b,Seq:=d,Body:=(j),Tag:=(List.replicate 16 (0:UInt8)):PFrame}) with Q|Q
  ·refine ct (cA not Q) ?_
   have bY:i_Seal i f a b d l j=({Kind:=0,Id:=0,Cn:=[],Sn:=[],Tick:=0,Cookie:=[],Proof:=[],Epoch:=0,Seq:=0,Body:=[],Tag:=[]:PFrame},false):=by simp only [i_Seal,r,t,A,Q,cond_true,cond_false]
   exact wj (am bY _ ((m.trans o).trans q))
  have cN:=frameOk_i Q
  refine cf (cA not Q) ?_
  refine y1 ?_
  refine mw (vs F i.length S) ?_
  refine mw (vi f) ?_
  refine mw (vs T a.length V) ?_
  refine mw (vi b) ?_
  refine mw (vi d) ?_
  refine cl wN (ciHeadOf bX f _ a (mR_22 (a9.from0 aZ) aA) b d) ?_
  rintro _ bZ ⟨s,⟨cO,cP,rfl,ca,cb,cQ⟩⟩
  have a2:=aZ.extk s
  have cR:=headOf_len f a b d
  refine mw (vs W j.length X) ?_
  refine cl wN (ciMix bZ _ i (mR_22 (ao.from0 a2) a8) _ (headOf f a b d) (mR_22 (Rd.of_own ca) cb) _ j (mR_22 (aB.from0 a2) aC)) ?_
  rintro _ cS ⟨H,⟨B,C,rfl,R,ba,cT⟩⟩
  have cU:=mixB_len i (headOf f a b d) j
  refine pu (vp az 9) wN ?_
  have a3:=(((aW.kp q).kp s).kp H)
  refine st (vs B (mixB i (headOf f a b d) j).length C) [(vs B (mixB i (headOf f a b d) j).length C)] [(vi l),(vi 0),(vs none 0 0),(vs x (a).length y),(vi 0),(vs none 0 0),(vs none 0 0),(vi b),(vi d),(vs B (mixB i (headOf f a b d) j).length C),(vs O (List.replicate 16 (0:UInt8)).length P)] wN sizeOf_22 a3 ?_
  intro bb D bc cV
  have cc:=(a2.extk H).ext D (fun k hk=>by subst hk;exact nT J.size ae)
  refine nx ?_
  refine mw (vs F i.length S) ?_
  refine mw (vi f) ?_
  refine lN [(vi l),(vi 0),(vs none 0 0),(vs x (a).length y),(vi 0),(vs none 0 0),(vs none 0 0),(vi b),(vi d),(vs B (mixB i (headOf f a b d) j).length C),(vs O (List.replicate 16 (0:UInt8)).length P)] wN isAgg_32 sizeOf_32 bc ?_
  have bd:=(own_blk (own_kp (own_kp (own_kp aX q) s) H) a3 (by decide) D)
  have be:=(own_ch R D (ne1 R (nL (Blk.lt L) (z5 p m o q s))))
  have cd:=(own_blk (own_kp (own_kp (own_kp aY q) s) H) a3 (by decide) D)
  refine cl wN (ciTagInput bb f _ _ (show R_32 bb (va [(vi l),(vi 0),(vs none 0 0),(vs x (a).length y),(vi 0),(vs none 0 0),(vs none 0 0),(vi b),(vi d),(vs B (mixB i (headOf f a b d) j).length C),(vs O (List.replicate 16 (0:UInt8)).length P)]) {Kind:=l,Id:=0,Cn:=[],Sn:=(a),Tick:=0,Cookie:=[],Proof:=[],Epoch:=b,Seq:=d,Body:=(mixB i (headOf f a b d) j),Tag:=(List.replicate 16 (0:UInt8)):PFrame} from ⟨_,_,_,_,_,_,_,_,_,_,_,_,rfl,(Rd.nil _ _),(by simp),(Rd.of_own bd),av,(Rd.nil _ _),(by simp),(Rd.nil _ _),(by simp),(Rd.of_own be),ba,(Rd.of_own cd),aT⟩)) ?_
  rintro _ ce ⟨E,⟨cW,cX,rfl,cg,ci,cY⟩⟩
  have bg:=cc.extk E
  refine cl wN (ciTag ce _ i (mR_22 (ao.from0 bg) a8) _ (i_TagInput f {Kind:=l,Id:=0,Cn:=[],Sn:=(a),Tick:=0,Cookie:=[],Proof:=[],Epoch:=b,Seq:=d,Body:=(mixB i (headOf f a b d) j),Tag:=(List.replicate 16 (0:UInt8)):PFrame}) (mR_22 (Rd.of_own cg) ci)) ?_
  rintro _ cZ ⟨af,⟨M,N,rfl,ah,cj,da⟩⟩
  have db:=tagP_len i (i_TagInput f {Kind:=l,Id:=0,Cn:=[],Sn:=(a),Tick:=0,Cookie:=[],Proof:=[],Epoch:=b,Seq:=d,Body:=(mixB i (headOf f a b d) j),Tag:=(List.replicate 16 (0:UInt8)):PFrame})
  refine pu (vp az 10) wN ?_
  have bh:=((bc.kp E).kp af)
  refine st (vs M (tagP i (i_TagInput f {Kind:=l,Id:=0,Cn:=[],Sn:=(a),Tick:=0,Cookie:=[],Proof:=[],Epoch:=b,Seq:=d,Body:=(mixB i (headOf f a b d) j),Tag:=(List.replicate 16 (0:UInt8)):PFrame})).length N) [(vs M (tagP i (i_TagInput f {Kind:=l,Id:=0,Cn:=[],Sn:=(a),Tick:=0,Cookie:=[],Proof:=[],Epoch:=b,Seq:=d,Body:=(mixB i (headOf f a b d) j),Tag:=(List.replicate 16 (0:UInt8)):PFrame})).length N)] [(vi l),(vi 0),(vs none 0 0),(vs x (a).length y),(vi 0),(vs none 0 0),(vs none 0 0),(vi b),(vi d),(vs B (mixB i (headOf f a b d) j).length C),(vs M (tagP i (i_TagInput f {Kind:=l,Id:=0,Cn:=[],Sn:=(a),Tick:=0,Cookie:=[],Proof:=[],Epoch:=b,Seq:=d,Body:=(mixB i (headOf f a b d) j),Tag:=(List.replicate 16 (0:UInt8)):PFrame})).length N)] wN sizeOf_22 bh ?_
  intro dc ai ck dd
  have cm:=(bg.extk af).ext ai (fun k hk=>by subst hk;exact nT J.size ae)
  refine nx ?_
  refine lN [(vi l),(vi 0),(vs none 0 0),(vs x (a).length y),(vi 0),(vs none 0 0),(vs none 0 0),(vi b),(vi d),(vs B (mixB i (headOf f a b d) j).length C),(vs M (tagP i (i_TagInput f {Kind:=l,Id:=0,Cn:=[],Sn:=(a),Tick:=0,Cookie:=[],Proof:=[],Epoch:=b,Seq:=d,Body:=(mixB i (headOf f a b d) j),Tag:=(List.replicate 16 (0:UInt8)):PFrame})).length N)] wN isAgg_32 sizeOf_32 ck ?_
  have a4:=nL Y (ae)
  have cn:=(((((((((((aE.kp K).ch p (nN a4)).kp m).kp o).kp q).kp s).kp H).ch D (nN a4)).kp E).kp af).ch ai (nN a4))
  refine sv [(vi l),(vi 0),(vs none 0 0),(vs x (a).length y),(vi 0),(vs none 0 0),(vs none 0 0),(vi b),(vi d),(vs B (mixB i (headOf f a b d) j).length C),(vs M (tagP i (i_TagInput f {Kind:=l,Id:=0,Cn:=[],Sn:=(a),Tick:=0,Cookie:=[],Proof:=[],Epoch:=b,Seq:=d,Body:=(mixB i (headOf f a b d) j),Tag:=(List.replicate 16 (0:UInt8)):PFrame})).length N)] wN sizeOf_32 cn ?_
  intro de an co df
  have cp:=cm.ext an (fun k hk=>by subst hk;exact aD)
  refine aw (vb true) ?_
  refine n3 ?_
  have cq:=(own_ch (own_blk (own_kp (own_kp bd E) af) bh (by decide) ai) an (ne1 ak (Y)))
  have cr:=(own_ch (own_ch (own_kp (own_kp be E) af) ai (ne1 R (nL (Blk.lt L) (z5 p m o q s)))) an (ne1 R (nL Y (z6 K p m o q s))))
  have cs:=(own_ch (own_ch ah ai (ne1 ah (nL (Blk.lt L) (z8 p m o q s H D E)))) an (ne1 ah (nL Y (z9 K p m o q s H D E))))
  refine ret_2 (.inl rfl) (va [(vi l),(vi 0),(vs none 0 0),(vs x (a).length y),(vi 0),(vs none 0 0),(vs none 0 0),(vi b),(vi d),(vs B (mixB i (headOf f a b d) j).length C),(vs M (tagP i (i_TagInput f {Kind:=l,Id:=0,Cn:=[],Sn:=(a),Tick:=0,Cookie:=[],Proof:=[],Epoch:=b,Seq:=d,Body:=(mixB i (headOf f a b d) j),Tag:=(List.replicate 16 (0:UInt8)):PFrame})).length N)]) (vb true) rfl (rv_c [(vi l),(vi 0),(vs none 0 0),(vs x (a).length y),(vi 0),(vs none 0 0),(vs none 0 0),(vi b),(vi d),(vs B (mixB i (headOf f a b d) j).length C),(vs M (tagP i (i_TagInput f {Kind:=l,Id:=0,Cn:=[],Sn:=(a),Tick:=0,Cookie:=[],Proof:=[],Epoch:=b,Seq:=d,Body:=(mixB i (headOf f a b d) j),Tag:=(List.replicate 16 (0:UInt8)):PFrame})).length N)] rfl co isAgg_32 sizeOf_32) rfl ?_
  refine ⟨cp.keep0,?_⟩
  simp only [i_Seal,r,t,A,Q,cond_true,cond_false]
  exact ⟨_,_,_,_,_,_,_,_,_,_,_,_,rfl,(by first|exact own_nil _ _ _ _|exact OLv.nil _ _ _ _),(by simp),(own_lo cq J.size),av,(by first|exact own_nil _ _ _ _|exact OLv.nil _ _ _ _),(by simp),(by first|exact own_nil _ _ _ _|exact OLv.nil _ _ _ _),(by simp),(own_lo cr (z7 J K p m o q s)),ba,(own_lo cs (z10 J K p m o q s H D E)),cj,⟨⟨(Ap.nl _),⟨(Ap.nl _),⟨(Ap.nl _),⟨(Ap.nl _),⟨(Ap.nl _),trivial⟩⟩⟩⟩⟩,⟨⟨(Ap.nr _),⟨(Ap.nr _),⟨(Ap.lt ak R (z5 p m o q s)),⟨(Ap.lt ak ah (z8 p m o q s H D E)),trivial⟩⟩⟩⟩,⟨⟨(Ap.nl _),⟨(Ap.nl _),⟨(Ap.nl _),trivial⟩⟩⟩,⟨⟨(Ap.nl _),⟨(Ap.nl _),trivial⟩⟩,⟨⟨(Ap.lt R ah (z2 D E)),trivial⟩,⟨trivial,trivial⟩⟩⟩⟩⟩⟩⟩

def O_28_32_3 (w:World) (lo:Nat) (v:Value) (x:(PEp)×(PFrame)×(Int)):Prop:=∃ (a:Option Addr) (b:Nat) (d:Option Addr) (e:Nat) (f:Option Addr) (g:Nat) (h:Option Addr) (i:Nat) (j:Option Addr) (k:Nat) (l:Option Addr) (m:Nat) (o:Option Addr) (p:Nat) (q:Option Addr) (r:Nat),v=.tuple #[.agg #[.int .i64 x.1.N,.slice a x.1.Key.length b,.int .i64 x.1.Seq,.int .i64 x.1.Win.Top,.slice d x.1.Win.Bits.length e],.agg #[.int .i64 x.2.1.Kind,.int .i64 x.2.1.Id,.slice f x.2.1.Cn.length g,.slice h x.2.1.Sn.length i,.int .i64 x.2.1.Tick,.slice j x.2.1.Cookie.length k,.slice l x.2.1.Proof.length m,.int .i64 x.2.1.Epoch,.int .i64 x.2.1.Seq,.slice o x.2.1.Body.length p,.slice q x.2.1.Tag.length r],.int .i64 x.2.2]∧w.ownsRow lo 5 1 (.slice a x.1.Key.length b) x.1.Key.length (x.1.Key.map bV)∧x.1.Key.length≤1073741824∧w.ownsRow lo 3 1 (.slice d x.1.Win.Bits.length e) x.1.Win.Bits.length (x.1.Win.Bits.map iV)∧x.1.Win.Bits.length≤1073741824∧w.ownsRow lo 5 1 (.slice f x.2.1.Cn.length g) x.2.1.Cn.length (x.2.1.Cn.map bV)∧x.2.1.Cn.length≤1073741824∧w.ownsRow lo 5 1 (.slice h x.2.1.Sn.length i) x.2.1.Sn.length (x.2.1.Sn.map bV)∧x.2.1.Sn.length≤1073741824∧w.ownsRow lo 5 1 (.slice j x.2.1.Cookie.length k) x.2.1.Cookie.length (x.2.1.Cookie.map bV)∧x.2.1.Cookie.length≤1073741824∧w.ownsRow lo 5 1 (.slice l x.2.1.Proof.length m) x.2.1.Proof.length (x.2.1.Proof.map bV)∧x.2.1.Proof.length≤1073741824∧w.ownsRow lo 5 1 (.slice o x.2.1.Body.length p) x.2.1.Body.length (x.2.1.Body.map bV)∧x.2.1.Body.length≤1073741824∧w.ownsRow lo 5 1 (.slice q x.2.1.Tag.length r) x.2.1.Tag.length (x.2.1.Tag.map bV)∧x.2.1.Tag.length≤1073741824∧Aps [(a,b),(d,e),(f,g),(h,i),(j,k),(l,m),(o,p),(q,r)]
def i_EpSeal_j1 (a:PEp) (b:Int) (d:List UInt8) (e:Int) (f:List UInt8):(PEp)×(PFrame)×(Int):=bif (decide (a.Seq=281474976710656)) then (((a),{Kind:=0,Id:=0,Cn:=[],Sn:=[],Tick:=0,Cookie:=[],Proof:=[],Epoch:=0,Seq:=0,Body:=[],Tag:=[]:PFrame},5)) else (({N:=(a).N,Key:=(a).Key,Seq:=(((a).Seq)+1),Win:=((a).Win):PEp},((i_Seal a.Key b d a.N a.Seq e f).1),0))
def i_EpSeal (a:PEp) (d:Int) (e:List UInt8) (b:Int) (f:List UInt8):(PEp)×(PFrame)×(Int):=bif (i_EpOk a) then (bif ((i_Seal a.Key d e a.N 0 b f).2) then (bif (decide (b=4)) then (bif (decide (281474976709656≤a.Seq)) then (((a),{Kind:=0,Id:=0,Cn:=[],Sn:=[],Tick:=0,Cookie:=[],Proof:=[],Epoch:=0,Seq:=0,Body:=[],Tag:=[]:PFrame},4)) else ((i_EpSeal_j1 a d e b f))) else ((i_EpSeal_j1 a d e b f))) else (((a),{Kind:=0,Id:=0,Cn:=[],Sn:=[],Tick:=0,Cookie:=[],Proof:=[],Epoch:=0,Seq:=0,Body:=[],Tag:=[]:PFrame},1))) else (((a),{Kind:=0,Id:=0,Cn:=[],Sn:=[],Tick:=0,Cookie:=[],Proof:=[],Epoch:=0,Seq:=0,Body:=[],Tag:=[]:PFrame},1))
theorem ciEpSeal (an:World) (b4:Value) (a:PEp) (bN:R_28 an b4 a) (l:Int) (b5:Value) (m:List UInt8) (bO:R_22 an b5 m) (j:Int) (b6:Value) (p:List UInt8) (bP:R_22 an b6 p) :Fn Try.prog 34 #[b4,(vi l),b5,(vi j),b6] an (fun v av=>Keep an av∧O_28_32_3 av an.heap.size v (i_EpSeal a l m j p)):=by
 obtain ⟨ax,ay,aG,aH,rfl,aI,aJ,b7,b8⟩:=bN
 obtain ⟨aK,aL,rfl,b9,bA⟩:=bO
 obtain ⟨aM,aN,rfl,bB,bC⟩:=bP
 refine fn_ofS (n:=75) [(va (L_28 a ax ay aG aH)),(vi l),(vs aK m.length aL),(vi j),(vs aM p.length aN)] Try.func34 rfl rfl ?_
 refine sr ?_
 refine bx (L_28 a ax ay aG aH) wN ?_
 intro X dw dx aZ D bQ
 refine al Z_28 wN zero_28 ?_
 intro az dy a5 x F a6
 refine al Z_32 wN zero_32 ?_
 intro bR T O J g a7
 have ba:=(((Ch.base an).extk D).extk F).extk g
 refine aw (vi 0) ?_
 refine nx ?_
 have bD:=((bQ.kp F).kp g)
 refine lN (L_28 a ax ay aG aH) wN isAgg_28 sizeOf_28 bD ?_
 refine cl wN (cicopyEp T _ a (mR_28 (aI.from0 ba) aJ (b7.from0 ba) b8)) ?_
 rintro _ V ⟨f,⟨y,A,B,C,rfl,L,a8,M,a9,aA⟩⟩
 refine al Z_28 wN zero_28 ?_
 intro bb dz G ao i bS
 refine sv (L_28 (a) y A B C) wN sizeOf_28 bS ?_
 intro bT e aB d0
 have bc:=((ba.extk f).extk i).ext e (fun k hk=>by subst hk;exact nT (z4 D F g f) G)
 refine n4 ?_
 have bE:=(((bD.kp f).kp i).ch e (nN (nL aZ (nT (z3 F g f) G))))
 refine lN (L_28 a ax ay aG aH) wN isAgg_28 sizeOf_28 bE ?_
 refine cl wN (ciEpOk bT _ a (mR_28 (aI.from0 bc) aJ (b7.from0 bc) b8)) ?_
 rintro _ bU ⟨b,rfl⟩
 have aC:=bc.extk b
 refine pu (vb (!(i_EpOk a))) wN ?_
 refine n2 ?_
 rcases bf (i_EpOk a) with W|W
 ·refine ct (cA not W) ?_
  refine sr ?_
  have bW:=(aB.kp b)
  refine lN (L_28 (a) y A B C) wN isAgg_28 sizeOf_28 bW ?_
  refine pu (va Z_32) wN ?_
  have bX:=(((((a6.kp g).kp f).kp i).ch e (nN (nL x (nT (z2 g f) G)))).kp b)
  refine sv (L_28 (a) y A B C) wN sizeOf_28 bX ?_
  intro bY bd bZ d1
  have ca:=aC.ext bd (fun k hk=>by subst hk;exact nT D.size a5)
  have cb:=(((((a7.kp f).kp i).ch e (nN (nL J (nT f.size G)))).kp b).ch bd (Ne.symm (nN (nL x (O)))))
  refine sv Z_32 wN sizeOf_32 cb ?_
  intro cc be cd d2
  have ce:=ca.ext be (fun k hk=>by subst hk;exact nT (z2 D F) O)
  refine aw (vi 1) ?_
  refine n1 ?_
  have cg:=(bZ.ch be (nN (nL x (O))))
  have bF:=fun (E sz n:Nat) (v:Value) (K:List Value) (o:World.ownsRow V T.heap.size E sz v n K) (u:World.ownsRow V T.heap.size E sz v n K)=>(own_ch (own_ch (own_kp (own_ch (own_kp o i) e (ne2 u (G))) b) bd (ne1 u (nL x g.size))) be (ne1 u (J)))
  have ci:=(bF _ _ _ _ _ L L)
  have cj:=(bF _ _ _ _ _ M M)
  refine ret_3 (.inl rfl) (va (L_28 (a) y A B C)) (va Z_32) (vi 1) rfl (rv_c (L_28 (a) y A B C) rfl cg isAgg_28 sizeOf_28) (rv_c Z_32 rfl cd isAgg_32 sizeOf_32) rfl ?_
  refine ⟨ce.keep0,?_⟩
  simp only [i_EpSeal,W,cond_true,cond_false]
  exact ⟨_,_,_,_,_,_,_,_,_,_,_,_,_,_,_,_,rfl,(own_lo ci (z3 D F g)),a8,(own_lo cj (z3 D F g)),a9,(by first|exact own_nil _ _ _ _|exact OLv.nil _ _ _ _),(by simp),(by first|exact own_nil _ _ _ _|exact OLv.nil _ _ _ _),(by simp),(by first|exact own_nil _ _ _ _|exact OLv.nil _ _ _ _),(by simp),(by first|exact own_nil _ _ _ _|exact OLv.nil _ _ _ _),(by simp),(by first|exact own_nil _ _ _ _|exact OLv.nil _ _ _ _),(by simp),(by first|exact own_nil _ _ _ _|exact OLv.nil _ _ _ _),(by simp),⟨⟨(aA.1.1),⟨(Ap.nr _),⟨(Ap.nr _),⟨(Ap.nr _),⟨(Ap.nr _),⟨(Ap.nr _),⟨(Ap.nr _),trivial⟩⟩⟩⟩⟩⟩⟩,⟨⟨(Ap.nr _),⟨(Ap.nr _),⟨(Ap.nr _),⟨(Ap.nr _),⟨(Ap.nr _),⟨(Ap.nr _),trivial⟩⟩⟩⟩⟩⟩,⟨⟨(Ap.nl _),⟨(Ap.nl _),⟨(Ap.nl _),⟨(Ap.nl _),⟨(Ap.nl _),trivial⟩⟩⟩⟩⟩,⟨⟨(Ap.nl _),⟨(Ap.nl _),⟨(Ap.nl _),⟨(Ap.nl _),trivial⟩⟩⟩⟩,⟨⟨(Ap.nl _),⟨(Ap.nl _),⟨(Ap.nl _),trivial⟩⟩⟩,⟨⟨(Ap.nl _),⟨(Ap.nl _),trivial⟩⟩,⟨⟨(Ap.nl _),trivial⟩,⟨trivial,trivial⟩⟩⟩⟩⟩⟩⟩⟩⟩
 have d3:=impl_EpOk_t W
 refine cf (cA not W) ?_
 refine y1 ?_
 refine pu (vp X 1) wN ?_
 have aO:=(bE.kp b)
 refine ld (vs ax a.Key.length ay) wN isAgg_22 aO ?_
 refine mw (vi l) ?_
 refine mw (vs aK m.length aL) ?_
 refine pu (vp X 0) wN ?_
 refine ld (vi a.N) wN isAgg_3 aO ?_
 refine mw (vi j) ?_
 refine mw (vs aM p.length aN) ?_
 refine cl wN (ciSeal bU _ a.Key (mR_22 (aI.from0 aC) aJ) l _ m (mR_22 (b9.from0 aC) bA) a.N 0 j _ p (mR_22 (bB.from0 aC) bC)) ?_
 rintro _ bY ⟨d,⟨bg,bh,bi,bj,bk,bl,bm,bn,bo,bp,bq,br,rfl,_⟩⟩
 refine mw (.tuple #[(va (L_32 ((i_Seal a.Key l m a.N 0 j p).1) bg bh bi bj bk bl bm bn bo bp bq br)),(vb ((i_Seal a.Key l m a.N 0 j p).2))]) ?_
 refine pu (va (L_32 ((i_Seal a.Key l m a.N 0 j p).1) bg bh bi bj bk bl bm bn bo bp bq br)) wN ?_
 refine pu (vb ((i_Seal a.Key l m a.N 0 j p).2)) wN ?_
 refine al Z_32 wN zero_32 ?_
 intro d4 cc I d5 r ck
 refine sv (L_32 ((i_Seal a.Key l m a.N 0 j p).1) bg bh bi bj bk bl bm bn bo bp bq br) wN sizeOf_32 ck ?_
 intro d6 s d7 d8
 have bu:=((aC.extk d).extk r).ext s (fun k hk=>by subst hk;exact nT (z8 D F g f i e b d) I)
 refine aw (vb ((i_Seal a.Key l m a.N 0 j p).2)) ?_
 refine n4 ?_
 refine mw (vb ((i_Seal a.Key l m a.N 0 j p).2)) ?_
 refine pu (vb (!((i_Seal a.Key l m a.N 0 j p).2))) wN ?_
 refine n2 ?_
 rcases bf ((i_Seal a.Key l m a.N 0 j p).2) with ap|ap
 ·refine ct (cA not ap) ?_
  refine sr ?_
  have cm:=((((aB.kp b).kp d).kp r).ch s (nN (nL ao (nT (z3 e b d) I))))
  refine lN (L_28 (a) y A B C) wN isAgg_28 sizeOf_28 cm ?_
  refine pu (va Z_32) wN ?_
  have cn:=((((((((a6.kp g).kp f).kp i).ch e (nN (nL x (nT (z2 g f) G)))).kp b).kp d).kp r).ch s (nN (nL x (nT (z6 g f i e b d) I))))
  refine sv (L_28 (a) y A B C) wN sizeOf_28 cn ?_
  intro aD bv co d9
  have cp:=bu.ext bv (fun k hk=>by subst hk;exact nT D.size a5)
  have cq:=((((((((a7.kp f).kp i).ch e (nN (nL J (nT f.size G)))).kp b).kp d).kp r).ch s (nN (nL J (nT (z5 f i e b d) I)))).ch bv (Ne.symm (nN (nL x (O)))))
  refine sv Z_32 wN sizeOf_32 cq ?_
  intro aE bw cr dA
  have cs:=cp.ext bw (fun k hk=>by subst hk;exact nT (z2 D F) O)
  refine aw (vi 1) ?_
  refine n1 ?_
  have cu:=(co.ch bw (nN (nL x (O))))
  have bG:=fun (E sz n:Nat) (v:Value) (K:List Value) (o:World.ownsRow V T.heap.size E sz v n K) (u:World.ownsRow V T.heap.size E sz v n K)=>(own_ch (own_ch (own_ch (own_kp (own_kp (own_kp (own_ch (own_kp o i) e (ne2 u (G))) b) d) r) s (ne2 u (nT (z4 i e b d) I))) bv (ne1 u (nL x g.size))) bw (ne1 u (J)))
  have cv:=(bG _ _ _ _ _ L L)
  have cw:=(bG _ _ _ _ _ M M)
  refine ret_3 (.inl rfl) (va (L_28 (a) y A B C)) (va Z_32) (vi 1) rfl (rv_c (L_28 (a) y A B C) rfl cu isAgg_28 sizeOf_28) (rv_c Z_32 rfl cr isAgg_32 sizeOf_32) rfl ?_
  refine ⟨cs.keep0,?_⟩
  simp only [i_EpSeal,W,ap,cond_true,cond_false]
  exact ⟨_,_,_,_,_,_,_,_,_,_,_,_,_,_,_,_,rfl,(own_lo cv (z3 D F g)),a8,(own_lo cw (z3 D F g)),a9,(by first|exact own_nil _ _ _ _|exact OLv.nil _ _ _ _),(by simp),(by first|exact own_nil _ _ _ _|exact OLv.nil _ _ _ _),(by simp),(by first|exact own_nil _ _ _ _|exact OLv.nil _ _ _ _),(by simp),(by first|exact own_nil _ _ _ _|exact OLv.nil _ _ _ _),(by simp),(by first|exact own_nil _ _ _ _|exact OLv.nil _ _ _ _),(by simp),(by first|exact own_nil _ _ _ _|exact OLv.nil _ _ _ _),(by simp),⟨⟨(aA.1.1),⟨(Ap.nr _),⟨(Ap.nr _),⟨(Ap.nr _),⟨(Ap.nr _),⟨(Ap.nr _),⟨(Ap.nr _),trivial⟩⟩⟩⟩⟩⟩⟩,⟨⟨(Ap.nr _),⟨(Ap.nr _),⟨(Ap.nr _),⟨(Ap.nr _),⟨(Ap.nr _),⟨(Ap.nr _),trivial⟩⟩⟩⟩⟩⟩,⟨⟨(Ap.nl _),⟨(Ap.nl _),⟨(Ap.nl _),⟨(Ap.nl _),⟨(Ap.nl _),trivial⟩⟩⟩⟩⟩,⟨⟨(Ap.nl _),⟨(Ap.nl _),⟨(Ap.nl _),⟨(Ap.nl _),trivial⟩⟩⟩⟩,⟨⟨(Ap.nl _),⟨(Ap.nl _),⟨(Ap.nl _),trivial⟩⟩⟩,⟨⟨(Ap.nl _),⟨(Ap.nl _),trivial⟩⟩,⟨⟨(Ap.nl _),trivial⟩,⟨trivial,trivial⟩⟩⟩⟩⟩⟩⟩⟩⟩
 refine cf (cA not ap) ?_
 refine y2 ?_
 refine jF1 [(1,(vi l)),(2,(vs aK m.length aL)),(3,(vi j)),(4,(vs aM p.length aN)),(5,(vp X 0)),(10,(vp az 0)),(11,(vp bR 0)),(12,(vi 0)),(13,(vp bb 0))] (i_EpSeal a l m j p=(i_EpSeal_j1 a l m j p)) ?_ fun bH=>?_
 ·intro bI aD H dB
  have aF:=bu.extk H
  refine y2 ?_
  refine pu (vp X 2) wN ?_
  have aP:=((((aO.kp d).kp r).ch s (nN (nL aZ (nT (z7 F g f i e b d) I)))).kp H)
  refine ld (vi a.Seq) wN isAgg_3 aP ?_
  refine pu (vb (decide (a.Seq=281474976710656))) wN ?_
  refine n2 ?_
  rcases bt (decide (a.Seq=281474976710656)) with aq|aq
  ·have dC:=dT aq
   refine ct aq ?_
   refine sr ?_
   have cx:=(((((aB.kp b).kp d).kp r).ch s (nN (nL ao (nT (z3 e b d) I)))).kp H)
   refine lN (L_28 (a) y A B C) wN isAgg_28 sizeOf_28 cx ?_
   refine pu (va Z_32) wN ?_
   have cy:=(((((((((a6.kp g).kp f).kp i).ch e (nN (nL x (nT (z2 g f) G)))).kp b).kp d).kp r).ch s (nN (nL x (nT (z6 g f i e b d) I)))).kp H)
   refine sv (L_28 (a) y A B C) wN sizeOf_28 cy ?_
   intro aE bz cz dD
   have c0:=aF.ext bz (fun k hk=>by subst hk;exact nT D.size a5)
   have c1:=(((((((((a7.kp f).kp i).ch e (nN (nL J (nT f.size G)))).kp b).kp d).kp r).ch s (nN (nL J (nT (z5 f i e b d) I)))).kp H).ch bz (Ne.symm (nN (nL x (O)))))
   refine sv Z_32 wN sizeOf_32 c1 ?_
   intro c2 b0 c3 dE
   have c4:=c0.ext b0 (fun k hk=>by subst hk;exact nT (z2 D F) O)
   refine aw (vi 5) ?_
   refine n1 ?_
   have c5:=(cz.ch b0 (nN (nL x (O))))
   have bJ:=fun (E sz n:Nat) (v:Value) (K:List Value) (o:World.ownsRow V T.heap.size E sz v n K) (u:World.ownsRow V T.heap.size E sz v n K)=>(own_ch (own_ch (own_kp (own_ch (own_kp (own_kp (own_kp (own_ch (own_kp o i) e (ne2 u (G))) b) d) r) s (ne2 u (nT (z4 i e b d) I))) H) bz (ne1 u (nL x g.size))) b0 (ne1 u (J)))
   have c6:=(bJ _ _ _ _ _ L L)
   have c7:=(bJ _ _ _ _ _ M M)
   refine ret_3 (.inl rfl) (va (L_28 (a) y A B C)) (va Z_32) (vi 5) rfl (rv_c (L_28 (a) y A B C) rfl c5 isAgg_28 sizeOf_28) (rv_c Z_32 rfl c3 isAgg_32 sizeOf_32) rfl ?_
   refine ⟨c4.keep0,?_⟩
   rw [bI];simp only [i_EpSeal_j1,aq,cond_true,cond_false]
   exact ⟨_,_,_,_,_,_,_,_,_,_,_,_,_,_,_,_,rfl,(own_lo c6 (z3 D F g)),a8,(own_lo c7 (z3 D F g)),a9,(by first|exact own_nil _ _ _ _|exact OLv.nil _ _ _ _),(by simp),(by first|exact own_nil _ _ _ _|exact OLv.nil _ _ _ _),(by simp),(by first|exact own_nil _ _ _ _|exact OLv.nil _ _ _ _),(by simp),(by first|exact own_nil _ _ _ _|exact OLv.nil _ _ _ _),(by simp),(by first|exact own_nil _ _ _ _|exact OLv.nil _ _ _ _),(by simp),(by first|exact own_nil _ _ _ _|exact OLv.nil _ _ _ _),(by simp),⟨⟨(aA.1.1),⟨(Ap.nr _),⟨(Ap.nr _),⟨(Ap.nr _),⟨(Ap.nr _),⟨(Ap.nr _),⟨(Ap.nr _),trivial⟩⟩⟩⟩⟩⟩⟩,⟨⟨(Ap.nr _),⟨(Ap.nr _),⟨(Ap.nr _),⟨(Ap.nr _),⟨(Ap.nr _),⟨(Ap.nr _),trivial⟩⟩⟩⟩⟩⟩,⟨⟨(Ap.nl _),⟨(Ap.nl _),⟨(Ap.nl _),⟨(Ap.nl _),⟨(Ap.nl _),trivial⟩⟩⟩⟩⟩,⟨⟨(Ap.nl _),⟨(Ap.nl _),⟨(Ap.nl _),⟨(Ap.nl _),trivial⟩⟩⟩⟩,⟨⟨(Ap.nl _),⟨(Ap.nl _),⟨(Ap.nl _),trivial⟩⟩⟩,⟨⟨(Ap.nl _),⟨(Ap.nl _),trivial⟩⟩,⟨⟨(Ap.nl _),trivial⟩,⟨trivial,trivial⟩⟩⟩⟩⟩⟩⟩⟩⟩
  have dG:=dF aq
  refine cf aq ?_
  refine y1 ?_
  refine pu (vp X 1) wN ?_
  refine ld (vs ax a.Key.length ay) wN isAgg_22 aP ?_
  refine mw (vi l) ?_
  refine mw (vs aK m.length aL) ?_
  refine pu (vp X 0) wN ?_
  refine ld (vi a.N) wN isAgg_3 aP ?_
  refine pu (vp X 2) wN ?_
  refine ld (vi a.Seq) wN isAgg_3 aP ?_
  refine mw (vi j) ?_
  refine mw (vs aM p.length aN) ?_
  refine cl wN (ciSeal aD _ a.Key (mR_22 (aI.from0 aF) aJ) l _ m (mR_22 (b9.from0 aF) bA) a.N a.Seq j _ p (mR_22 (bB.from0 aF) bC)) ?_
  rintro _ aE ⟨Q,⟨Y,Z,aa,ab,ac,ad,ae,af,ah,ai,aj,ak,rfl,aQ,c8,aR,c9,aS,cC,aT,cD,aU,cE,aV,cF,P⟩⟩
  refine mw (.tuple #[(va (L_32 ((i_Seal a.Key l m a.N a.Seq j p).1) Y Z aa ab ac ad ae af ah ai aj ak)),(vb ((i_Seal a.Key l m a.N a.Seq j p).2))]) ?_
  refine pu (va (L_32 ((i_Seal a.Key l m a.N a.Seq j p).1) Y Z aa ab ac ad ae af ah ai aj ak)) wN ?_
  refine pu (vb ((i_Seal a.Key l m a.N a.Seq j p).2)) wN ?_
  refine al Z_32 wN zero_32 ?_
  intro dH c2 am dI a0 cG
  refine sv (L_32 ((i_Seal a.Key l m a.N a.Seq j p).1) Y Z aa ab ac ad ae af ah ai aj ak) wN sizeOf_32 cG ?_
  intro dJ a1 cH dK
  have cI:=((aF.extk Q).extk a0).ext a1 (fun k hk=>by subst hk;exact nT (z12 D F g f i e b d r s H Q) am)
  refine aw (vb ((i_Seal a.Key l m a.N a.Seq j p).2)) ?_
  refine nx ?_
  refine pu (vp bb 2) wN ?_
  have bK:=((((((((aB.kp b).kp d).kp r).ch s (nN (nL ao (nT (z3 e b d) I)))).kp H).kp Q).kp a0).ch a1 (nN (nL ao (nT (z7 e b d r s H Q) am))))
  refine ld (vi ((a).Seq)) wN isAgg_3 bK ?_
  refine ar (((a).Seq)+1) wN ?_
  refine pu (vp bb 2) wN ?_
  refine st (vi (((a).Seq)+1)) [(vi (((a).Seq)+1))] [(vi ((a).N)),(vs y ((a).Key).length A),(vi (((a).Seq)+1)),(vi (((a).Win).Top)),(vs B (((a).Win).Bits).length C)] wN sizeOf_3 bK ?_
  intro cJ a2 cK dL
  have cL:=cI.ext a2 (fun k hk=>by subst hk;exact nT (z4 D F g f) G)
  refine wl_nil<|wq_then<|wc_seq ?_
  have cM:=(((((((((((((a6.kp g).kp f).kp i).ch e (nN (nL x (nT (z2 g f) G)))).kp b).kp d).kp r).ch s (nN (nL x (nT (z6 g f i e b d) I)))).kp H).kp Q).kp a0).ch a1 (nN (nL x (nT (z10 g f i e b d r s H Q) am)))).ch a2 (nN (nL x (nT (z2 g f) G))))
  refine wc_drawT ([(73,[],[],(fun _ v _=>v=(va [(vi ((a).N)),(vs y ((a).Key).length A),(vi (((a).Seq)+1)),(vi (((a).Win).Top)),(vs B (((a).Win).Bits).length C)]))),(74,[],[],(fun _ v _=>v=(va (L_32 ((i_Seal a.Key l m a.N a.Seq j p).1) Y Z aa ab ac ad ae af ah ai aj ak)))),(77,[],[0],(fun _ _ w=>BK w az 28 0 ([(vi ((a).N)),(vs y ((a).Key).length A),(vi (((a).Seq)+1)),(vi (((a).Win).Top)),(vs B (((a).Win).Bits).length C)])))]:GV) (fun lf av=>Ch (fun k=>k=az) cJ av∧RK lf av az 28 Z_28 [(2,0,5)]) [(2,TK az 28 0 5)] mixed rfl (by kernel_rfl) (by kernel_rfl) ?_ (fun _ _ h=>⟨h.to _,RK.z cM h⟩) (fun _ _ _ _ h mo k=>by obtain ⟨hc,b1⟩:=h;exact ⟨hc.comp k (fun _ _ q=>q.elim),b1.kp mo k⟩) ⟨(fun _ _ w av h mo hj t=>by obtain ⟨hc,b1⟩:=h;exact ⟨hc.comp t.1 (fun _ _ q=>q),b1.st mo hj (.head _) t⟩),trivial⟩ ?_ ?_ ?_
  ·exact ⟨hV,hE,⟨hV,hE,⟨sK,hE,trivial⟩⟩⟩
  ·exact ⟨⟨.inr hV,⟨.inr hV,⟨.inl rfl,trivial⟩⟩⟩,trivial⟩
  ·refine ⟨?_,⟨?_,⟨?_,trivial⟩⟩⟩
   ·rintro lf aW ⟨cN,dM⟩ ⟨dN,-⟩
    rintro _ _ _
    refine sw ?_
    have cO:=(cK.ch cN (Ne.symm (nN (nL x (nT (z2 g f) G)))))
    refine lN [(vi ((a).N)),(vs y ((a).Key).length A),(vi (((a).Seq)+1)),(vi (((a).Win).Top)),(vs B (((a).Win).Bits).length C)] wN isAgg_28 sizeOf_28 cO ?_
    exact f1
   ·rintro lf aW ⟨cP,dO⟩ ⟨dP,-⟩
    rintro _ _ _
    refine sw ?_
    have cQ:=((cH.ch a2 (Ne.symm (nN (nL ao (nT (z7 e b d r s H Q) am))))).ch cP (Ne.symm (nN (nL x (nT (z10 g f i e b d r s H Q) am)))))
    refine lN (L_32 ((i_Seal a.Key l m a.N a.Seq j p).1) Y Z aa ab ac ad ae af ah ai aj ak) wN isAgg_32 sizeOf_32 cQ ?_
    exact f1
   ·rintro lf aW ⟨dQ,cR⟩ ⟨dR,-⟩
    rintro _ rfl _ _
    refine sw ?_
    exact stK (va [(vi ((a).N)),(vs y ((a).Key).length A),(vi (((a).Seq)+1)),(vi (((a).Win).Top)),(vs B (((a).Win).Bits).length C)]) [(vi ((a).N)),(vs y ((a).Key).length A),(vi (((a).Seq)+1)),(vi (((a).Win).Top)),(vs B (((a).Win).Bits).length C)] wN sizeOf_28 cR (fun _ h=>h) (fun _ t=>t)
  ·rintro lf aW ⟨aX,cS⟩
   have cT:=cL.ext aX (fun k hk=>by subst hk;exact nT D.size a5)
   rintro _ rfl _ rfl _ cU
   have cV:Blk aW az 28 [(vi ((a).N)),(vs y ((a).Key).length A),(vi (((a).Seq)+1)),(vi (((a).Win).Top)),(vs B (((a).Win).Bits).length C)]:=RK.fin cS [(0,[(vi ((a).N)),(vs y ((a).Key).length A),(vi (((a).Seq)+1)),(vi (((a).Win).Top)),(vs B (((a).Win).Bits).length C)])] ⟨cU,trivial⟩
   refine sw ?_
   have cW:=(((((((((((((a7.kp f).kp i).ch e (nN (nL J (nT f.size G)))).kp b).kp d).kp r).ch s (nN (nL J (nT (z5 f i e b d) I)))).kp H).kp Q).kp a0).ch a1 (nN (nL J (nT (z9 f i e b d r s H Q) am)))).ch a2 (nN (nL J (nT f.size G)))).ch aX (Ne.symm (nN (nL x (O)))))
   refine sv (L_32 ((i_Seal a.Key l m a.N a.Seq j p).1) Y Z aa ab ac ad ae af ah ai aj ak) wN sizeOf_32 cW ?_
   intro dS aY cX dU
   have cY:=cT.ext aY (fun k hk=>by subst hk;exact nT (z2 D F) O)
   refine aw (vi 0) ?_
   refine n3 ?_
   have cZ:=(cV.ch aY (nN (nL x (O))))
   have bL:=fun (E sz n:Nat) (v:Value) (K:List Value) (o:World.ownsRow V T.heap.size E sz v n K) (u:World.ownsRow V T.heap.size E sz v n K)=>(own_ch (own_ch (own_ch (own_ch (own_kp (own_kp (own_kp (own_ch (own_kp (own_kp (own_kp (own_ch (own_kp o i) e (ne2 u (G))) b) d) r) s (ne2 u (nT (z4 i e b d) I))) H) Q) a0) a1 (ne2 u (nT (z8 i e b d r s H Q) am))) a2 (ne2 u (G))) aX (ne1 u (nL x g.size))) aY (ne1 u (J)))
   have da:=(bL _ _ _ _ _ L L)
   have db:=(bL _ _ _ _ _ M M)
   have a3:=fun (E sz n:Nat) (v:Value) (K:List Value) (o:World.ownsRow aE aD.heap.size E sz v n K) (u:World.ownsRow aE aD.heap.size E sz v n K)=>(own_ch (own_ch (own_ch (own_ch (own_kp o a0) a1 (ne2 u (am))) a2 (ne1 u (nL ao (z6 e b d r s H)))) aX (ne1 u (nL x (z9 g f i e b d r s H)))) aY (ne1 u (nL J (z8 f i e b d r s H))))
   have dc:=(a3 _ _ _ _ _ aQ aQ)
   have dd:=(a3 _ _ _ _ _ aR aR)
   have de:=(a3 _ _ _ _ _ aS aS)
   have df:=(a3 _ _ _ _ _ aT aT)
   have dg:=(a3 _ _ _ _ _ aU aU)
   have dh:=(a3 _ _ _ _ _ aV aV)
   refine ret_3 (.inl rfl) (va [(vi ((a).N)),(vs y ((a).Key).length A),(vi (((a).Seq)+1)),(vi (((a).Win).Top)),(vs B (((a).Win).Bits).length C)]) (va (L_32 ((i_Seal a.Key l m a.N a.Seq j p).1) Y Z aa ab ac ad ae af ah ai aj ak)) (vi 0) rfl (rv_c [(vi ((a).N)),(vs y ((a).Key).length A),(vi (((a).Seq)+1)),(vi (((a).Win).Top)),(vs B (((a).Win).Bits).length C)] rfl cZ isAgg_28 sizeOf_28) (rv_c (L_32 ((i_Seal a.Key l m a.N a.Seq j p).1) Y Z aa ab ac ad ae af ah ai aj ak) rfl cX isAgg_32 sizeOf_32) rfl ?_
   refine ⟨cY.keep0,?_⟩
   rw [bI];simp only [i_EpSeal_j1,aq,cond_true,cond_false]
   have a4:=z11 D F g f i e b d r s H
   have R:=z7 i e b d r s H
   exact ⟨_,_,_,_,_,_,_,_,_,_,_,_,_,_,_,_,rfl,(own_lo da (z3 D F g)),a8,(own_lo db (z3 D F g)),a9,(own_lo dc a4),c8,(own_lo dd a4),c9,(own_lo de a4),cC,(own_lo df a4),cD,(own_lo dg a4),cE,(own_lo dh a4),cF,⟨⟨(aA.1.1),⟨(Ap.lt L aQ R),⟨(Ap.lt L aR R),⟨(Ap.lt L aS R),⟨(Ap.lt L aT R),⟨(Ap.lt L aU R),⟨(Ap.lt L aV R),trivial⟩⟩⟩⟩⟩⟩⟩,⟨⟨(Ap.lt M aQ R),⟨(Ap.lt M aR R),⟨(Ap.lt M aS R),⟨(Ap.lt M aT R),⟨(Ap.lt M aU R),⟨(Ap.lt M aV R),trivial⟩⟩⟩⟩⟩⟩,⟨⟨(P.1.1),⟨(P.1.2.1),⟨(P.1.2.2.1),⟨(P.1.2.2.2.1),⟨(P.1.2.2.2.2.1),trivial⟩⟩⟩⟩⟩,⟨⟨(P.2.1.1),⟨(P.2.1.2.1),⟨(P.2.1.2.2.1),⟨(P.2.1.2.2.2.1),trivial⟩⟩⟩⟩,⟨⟨(P.2.2.1.1),⟨(P.2.2.1.2.1),⟨(P.2.2.1.2.2.1),trivial⟩⟩⟩,⟨⟨(P.2.2.2.1.1),⟨(P.2.2.2.1.2.1),trivial⟩⟩,⟨⟨(P.2.2.2.2.1.1),trivial⟩,⟨trivial,trivial⟩⟩⟩⟩⟩⟩⟩⟩⟩
 refine mw (vi j) ?_
 refine pu (vb (decide (j=4))) wN ?_
 refine mw (vb (decide (j=4))) ?_
 rcases bf (decide (j=4)) with S|S
 ·have dV:=dF S
  iterate 3 refine sk S ?_
  refine pf (vb false) wN S ?_
  refine n2 ?_
  refine cf (Eq.refl false) ?_
  have di:i_EpSeal a l m j p=(i_EpSeal_j1 a l m j p):=by simp only [i_EpSeal,W,ap,S,cond_true,cond_false]
  exact wj (bH di _ (Ch.refl _ _))
 have dW:=dT S
 refine pu (vp X 2) (wS S) ?_
 have dj:=(((aO.kp d).kp r).ch s (nN (nL aZ (nT (z7 F g f i e b d) I))))
 refine ld (vi a.Seq) (wS S) isAgg_3 dj ?_
 refine pu (vb (decide (281474976709656≤a.Seq))) (wS S) ?_
 refine pk (vb (decide (281474976709656≤a.Seq))) wN S ?_
 refine n2 ?_
 rcases bf (decide (281474976709656≤a.Seq)) with au|au
 ·have dX:=dF au
  refine cf au ?_
  have dk:i_EpSeal a l m j p=(i_EpSeal_j1 a l m j p):=by simp only [i_EpSeal,W,ap,S,au,cond_true,cond_false]
  exact wj (bH dk _ (Ch.refl _ _))
 have dY:=dT au
 refine ct au ?_
 refine sr ?_
 have dl:=((((aB.kp b).kp d).kp r).ch s (nN (nL ao (nT (z3 e b d) I))))
 refine lN (L_28 (a) y A B C) wN isAgg_28 sizeOf_28 dl ?_
 refine pu (va Z_32) wN ?_
 have dm:=((((((((a6.kp g).kp f).kp i).ch e (nN (nL x (nT (z2 g f) G)))).kp b).kp d).kp r).ch s (nN (nL x (nT (z6 g f i e b d) I))))
 refine sv (L_28 (a) y A B C) wN sizeOf_28 dm ?_
 intro aD b2 dn dZ
 have dp:=bu.ext b2 (fun k hk=>by subst hk;exact nT D.size a5)
 have dq:=((((((((a7.kp f).kp i).ch e (nN (nL J (nT f.size G)))).kp b).kp d).kp r).ch s (nN (nL J (nT (z5 f i e b d) I)))).ch b2 (Ne.symm (nN (nL x (O)))))
 refine sv Z_32 wN sizeOf_32 dq ?_
 intro aE b3 dr ea
 have ds:=dp.ext b3 (fun k hk=>by subst hk;exact nT (z2 D F) O)
 refine aw (vi 4) ?_
 refine n1 ?_
 have dt:=(dn.ch b3 (nN (nL x (O))))
 have bM:=fun (E sz n:Nat) (v:Value) (K:List Value) (o:World.ownsRow V T.heap.size E sz v n K) (u:World.ownsRow V T.heap.size E sz v n K)=>(own_ch (own_ch (own_ch (own_kp (own_kp (own_kp (own_ch (own_kp o i) e (ne2 u (G))) b) d) r) s (ne2 u (nT (z4 i e b d) I))) b2 (ne1 u (nL x g.size))) b3 (ne1 u (J)))
 have du:=(bM _ _ _ _ _ L L)
 have dv:=(bM _ _ _ _ _ M M)
 refine ret_3 (.inl rfl) (va (L_28 (a) y A B C)) (va Z_32) (vi 4) rfl (rv_c (L_28 (a) y A B C) rfl dt isAgg_28 sizeOf_28) (rv_c Z_32 rfl dr isAgg_32 sizeOf_32) rfl ?_
 refine ⟨ds.keep0,?_⟩
 simp only [i_EpSeal,W,ap,S,au,cond_true,cond_false]
 exact ⟨_,_,_,_,_,_,_,_,_,_,_,_,_,_,_,_,rfl,(own_lo du (z3 D F g)),a8,(own_lo dv (z3 D F g)),a9,(by first|exact own_nil _ _ _ _|exact OLv.nil _ _ _ _),(by simp),(by first|exact own_nil _ _ _ _|exact OLv.nil _ _ _ _),(by simp),(by first|exact own_nil _ _ _ _|exact OLv.nil _ _ _ _),(by simp),(by first|exact own_nil _ _ _ _|exact OLv.nil _ _ _ _),(by simp),(by first|exact own_nil _ _ _ _|exact OLv.nil _ _ _ _),(by simp),(by first|exact own_nil _ _ _ _|exact OLv.nil _ _ _ _),(by simp),⟨⟨(aA.1.1),⟨(Ap.nr _),⟨(Ap.nr _),⟨(Ap.nr _),⟨(Ap.nr _),⟨(Ap.nr _),⟨(Ap.nr _),trivial⟩⟩⟩⟩⟩⟩⟩,⟨⟨(Ap.nr _),⟨(Ap.nr _),⟨(Ap.nr _),⟨(Ap.nr _),⟨(Ap.nr _),⟨(Ap.nr _),trivial⟩⟩⟩⟩⟩⟩,⟨⟨(Ap.nl _),⟨(Ap.nl _),⟨(Ap.nl _),⟨(Ap.nl _),⟨(Ap.nl _),trivial⟩⟩⟩⟩⟩,⟨⟨(Ap.nl _),⟨(Ap.nl _),⟨(Ap.nl _),⟨(Ap.nl _),trivial⟩⟩⟩⟩,⟨⟨(Ap.nl _),⟨(Ap.nl _),⟨(Ap.nl _),trivial⟩⟩⟩,⟨⟨(Ap.nl _),⟨(Ap.nl _),trivial⟩⟩,⟨⟨(Ap.nl _),trivial⟩,⟨trivial,trivial⟩⟩⟩⟩⟩⟩⟩⟩⟩

def O_30_32_3 (w:World) (lo:Nat) (v:Value) (x:(PChan)×(PFrame)×(Int)):Prop:=∃ (a:Option Addr) (b:Nat) (d:Option Addr) (e:Nat) (f:Option Addr) (g:Nat) (h:Option Addr) (i:Nat) (j:Option Addr) (k:Nat) (l:Option Addr) (m:Nat) (o:Option Addr) (p:Nat) (q:Option Addr) (r:Nat) (s:Option Addr) (t:Nat) (u:Option Addr) (y:Nat) (A:Option Addr) (B:Nat) (C:Option Addr) (D:Nat),v=.tuple #[.agg #[.int .i64 x.1.Role,.slice a x.1.Sn.length b,.int .i64 x.1.Cur.N,.slice d x.1.Cur.Key.length e,.int .i64 x.1.Cur.Seq,.int .i64 x.1.Cur.Win.Top,.slice f x.1.Cur.Win.Bits.length g,.int .i64 x.1.Old.N,.slice h x.1.Old.Key.length i,.int .i64 x.1.Old.Seq,.int .i64 x.1.Old.Win.Top,.slice j x.1.Old.Win.Bits.length k,.bool x.1.HasOld,.int .i64 x.1.Until,.slice l x.1.Next.length m],.agg #[.int .i64 x.2.1.Kind,.int .i64 x.2.1.Id,.slice o x.2.1.Cn.length p,.slice q x.2.1.Sn.length r,.int .i64 x.2.1.Tick,.slice s x.2.1.Cookie.length t,.slice u x.2.1.Proof.length y,.int .i64 x.2.1.Epoch,.int .i64 x.2.1.Seq,.slice A x.2.1.Body.length B,.slice C x.2.1.Tag.length D],.int .i64 x.2.2]∧w.ownsRow lo 5 1 (.slice a x.1.Sn.length b) x.1.Sn.length (x.1.Sn.map bV)∧x.1.Sn.length≤1073741824∧w.ownsRow lo 5 1 (.slice d x.1.Cur.Key.length e) x.1.Cur.Key.length (x.1.Cur.Key.map bV)∧x.1.Cur.Key.length≤1073741824∧w.ownsRow lo 3 1 (.slice f x.1.Cur.Win.Bits.length g) x.1.Cur.Win.Bits.length (x.1.Cur.Win.Bits.map iV)∧x.1.Cur.Win.Bits.length≤1073741824∧w.ownsRow lo 5 1 (.slice h x.1.Old.Key.length i) x.1.Old.Key.length (x.1.Old.Key.map bV)∧x.1.Old.Key.length≤1073741824∧w.ownsRow lo 3 1 (.slice j x.1.Old.Win.Bits.length k) x.1.Old.Win.Bits.length (x.1.Old.Win.Bits.map iV)∧x.1.Old.Win.Bits.length≤1073741824∧w.ownsRow lo 5 1 (.slice l x.1.Next.length m) x.1.Next.length (x.1.Next.map bV)∧x.1.Next.length≤1073741824∧w.ownsRow lo 5 1 (.slice o x.2.1.Cn.length p) x.2.1.Cn.length (x.2.1.Cn.map bV)∧x.2.1.Cn.length≤1073741824∧w.ownsRow lo 5 1 (.slice q x.2.1.Sn.length r) x.2.1.Sn.length (x.2.1.Sn.map bV)∧x.2.1.Sn.length≤1073741824∧w.ownsRow lo 5 1 (.slice s x.2.1.Cookie.length t) x.2.1.Cookie.length (x.2.1.Cookie.map bV)∧x.2.1.Cookie.length≤1073741824∧w.ownsRow lo 5 1 (.slice u x.2.1.Proof.length y) x.2.1.Proof.length (x.2.1.Proof.map bV)∧x.2.1.Proof.length≤1073741824∧w.ownsRow lo 5 1 (.slice A x.2.1.Body.length B) x.2.1.Body.length (x.2.1.Body.map bV)∧x.2.1.Body.length≤1073741824∧w.ownsRow lo 5 1 (.slice C x.2.1.Tag.length D) x.2.1.Tag.length (x.2.1.Tag.map bV)∧x.2.1.Tag.length≤1073741824∧Aps [(a,b),(d,e),(f,g),(h,i),(j,k),(l,m),(o,p),(q,r),(s,t),(u,y),(A,B),(C,D)]
def i_ChanSeal (a:PChan) (b:Int) (d:List UInt8):(PChan)×(PFrame)×(Int):=bif (i_ChanOk a) then (({Role:=(a).Role,Sn:=(a).Sn,Cur:=((i_EpSeal a.Cur a.Role a.Sn b d).1),Old:=((a).Old),HasOld:=(a).HasOld,Until:=(a).Until,Next:=(a).Next:PChan},((i_EpSeal a.Cur a.Role a.Sn b d).2.1),(i_EpSeal a.Cur a.Role a.Sn b d).2.2)) else (((a),{Kind:=0,Id:=0,Cn:=[],Sn:=[],Tick:=0,Cookie:=[],Proof:=[],Epoch:=0,Seq:=0,Body:=[],Tag:=[]:PFrame},1))
theorem ciChanSeal (a0:World) (bq:Value) (a:PChan) (bH:R_30 a0 bq a) (b:Int) (br:Value) (d:List UInt8) (bI:R_22 a0 br d) :Fn Try.prog 11 #[bq,(vi b),br] a0 (fun v ak=>Keep a0 ak∧O_30_32_3 ak a0.heap.size v (i_ChanSeal a b d)):=by
 obtain ⟨aE,aF,aG,aH,aI,aJ,aT,aU,aV,aW,aX,aY,rfl,bc,bd,be,bg,bh,bi,bu,bv,bw,bz,b0,b1⟩:=bH
 obtain ⟨b2,b3,rfl,bJ,bK⟩:=bI
 refine fn_ofS (n:=38) [(va (L_30 a aE aF aG aH aI aJ aT aU aV aW aX aY)),(vi b),(vs b2 d.length b3)] Try.func11 rfl rfl ?_
 refine sr ?_
 refine bx (L_30 a aE aF aG aH aI aJ aT aU aV aW aX aY) wN ?_
 intro bj db dc bL r bM
 refine al Z_30 wN zero_30 ?_
 intro aK dd b4 x s b5
 refine al Z_32 wN zero_32 ?_
 intro aL aM am aj j b6
 have aq:=(((Ch.base a0).extk r).extk s).extk j
 refine aw (vi 0) ?_
 refine nx ?_
 have b7:=((bM.kp s).kp j)
 refine lN (L_30 a aE aF aG aH aI aJ aT aU aV aW aX aY) wN isAgg_30 sizeOf_30 b7 ?_
 refine cl wN (cicopyChan aM _ a (mR_30 (bc.from0 aq) bd (be.from0 aq) bg (bh.from0 aq) bi (bu.from0 aq) bv (bw.from0 aq) bz (b0.from0 aq) b1)) ?_
 rintro _ aZ ⟨l,⟨F,G,aN,aO,aP,aQ,H,I,J,K,L,M,rfl,Q,b8,b9,bN,bA,bO,R,bB,S,bC,T,bD,p⟩⟩
 refine al Z_30 wN zero_30 ?_
 intro bP de P ba i bQ
 refine sv (L_30 (a) F G aN aO aP aQ H I J K L M) wN sizeOf_30 bQ ?_
 intro bR f bE df
 have au:=((aq.extk l).extk i).ext f (fun k hk=>by subst hk;exact nT (z4 r s j l) P)
 refine n4 ?_
 have bF:=(((b7.kp l).kp i).ch f (nN (nL bL (nT (z3 s j l) P))))
 refine lN (L_30 a aE aF aG aH aI aJ aT aU aV aW aX aY) wN isAgg_30 sizeOf_30 bF ?_
 refine cl wN (ciChanOk bR _ a (mR_30 (bc.from0 au) bd (be.from0 au) bg (bh.from0 au) bi (bu.from0 au) bv (bw.from0 au) bz (b0.from0 au) b1)) ?_
 rintro _ bk ⟨e,rfl⟩
 have a1:=au.extk e
 refine pu (vb (!(i_ChanOk a))) wN ?_
 refine n2 ?_
 rcases bf (i_ChanOk a) with a2|a2
 ·refine ct (cA not a2) ?_
  refine sr ?_
  have bS:=(bE.kp e)
  refine lN (L_30 (a) F G aN aO aP aQ H I J K L M) wN isAgg_30 sizeOf_30 bS ?_
  refine pu (va Z_32) wN ?_
  have bT:=(((((b5.kp j).kp l).kp i).ch f (nN (nL x (nT (z2 j l) P)))).kp e)
  refine sv (L_30 (a) F G aN aO aP aQ H I J K L M) wN sizeOf_30 bT ?_
  intro bl bm bU dg
  have bW:=a1.ext bm (fun k hk=>by subst hk;exact nT r.size b4)
  have bX:=(((((b6.kp l).kp i).ch f (nN (nL aj (nT l.size P)))).kp e).ch bm (Ne.symm (nN (nL x (am)))))
  refine sv Z_32 wN sizeOf_32 bX ?_
  intro bY bn bZ dh
  have ca:=bW.ext bn (fun k hk=>by subst hk;exact nT (z2 r s) am)
  refine aw (vi 1) ?_
  refine n1 ?_
  have cb:=(bU.ch bn (nN (nL x (am))))
  have a3:=fun (E sz n:Nat) (v:Value) (an:List Value) (o:World.ownsRow aZ aM.heap.size E sz v n an) (y:World.ownsRow aZ aM.heap.size E sz v n an)=>(own_ch (own_ch (own_kp (own_ch (own_kp o i) f (ne2 y (P))) e) bm (ne1 y (nL x j.size))) bn (ne1 y (aj)))
  have cc:=(a3 _ _ _ _ _ Q Q)
  have cd:=(a3 _ _ _ _ _ b9 b9)
  have ce:=(a3 _ _ _ _ _ bA bA)
  have cg:=(a3 _ _ _ _ _ R R)
  have ci:=(a3 _ _ _ _ _ S S)
  have cj:=(a3 _ _ _ _ _ T T)
  refine ret_3 (.inl rfl) (va (L_30 (a) F G aN aO aP aQ H I J K L M)) (va Z_32) (vi 1) rfl (rv_c (L_30 (a) F G aN aO aP aQ H I J K L M) rfl cb isAgg_30 sizeOf_30) (rv_c Z_32 rfl bZ isAgg_32 sizeOf_32) rfl ?_
  refine ⟨ca.keep0,?_⟩
  simp only [i_ChanSeal,a2,cond_true,cond_false]
  exact ⟨_,_,_,_,_,_,_,_,_,_,_,_,_,_,_,_,_,_,_,_,_,_,_,_,rfl,(own_lo cc (z3 r s j)),b8,(own_lo cd (z3 r s j)),bN,(own_lo ce (z3 r s j)),bO,(own_lo cg (z3 r s j)),bB,(own_lo ci (z3 r s j)),bC,(own_lo cj (z3 r s j)),bD,(by first|exact own_nil _ _ _ _|exact OLv.nil _ _ _ _),(by simp),(by first|exact own_nil _ _ _ _|exact OLv.nil _ _ _ _),(by simp),(by first|exact own_nil _ _ _ _|exact OLv.nil _ _ _ _),(by simp),(by first|exact own_nil _ _ _ _|exact OLv.nil _ _ _ _),(by simp),(by first|exact own_nil _ _ _ _|exact OLv.nil _ _ _ _),(by simp),(by first|exact own_nil _ _ _ _|exact OLv.nil _ _ _ _),(by simp),⟨⟨(p.1.1),⟨(p.1.2.1),⟨(p.1.2.2.1),⟨(p.1.2.2.2.1),⟨(p.1.2.2.2.2.1),⟨(Ap.nr _),⟨(Ap.nr _),⟨(Ap.nr _),⟨(Ap.nr _),⟨(Ap.nr _),⟨(Ap.nr _),trivial⟩⟩⟩⟩⟩⟩⟩⟩⟩⟩⟩,⟨⟨(p.2.1.1),⟨(p.2.1.2.1),⟨(p.2.1.2.2.1),⟨(p.2.1.2.2.2.1),⟨(Ap.nr _),⟨(Ap.nr _),⟨(Ap.nr _),⟨(Ap.nr _),⟨(Ap.nr _),⟨(Ap.nr _),trivial⟩⟩⟩⟩⟩⟩⟩⟩⟩⟩,⟨⟨(p.2.2.1.1),⟨(p.2.2.1.2.1),⟨(p.2.2.1.2.2.1),⟨(Ap.nr _),⟨(Ap.nr _),⟨(Ap.nr _),⟨(Ap.nr _),⟨(Ap.nr _),⟨(Ap.nr _),trivial⟩⟩⟩⟩⟩⟩⟩⟩⟩,⟨⟨(p.2.2.2.1.1),⟨(p.2.2.2.1.2.1),⟨(Ap.nr _),⟨(Ap.nr _),⟨(Ap.nr _),⟨(Ap.nr _),⟨(Ap.nr _),⟨(Ap.nr _),trivial⟩⟩⟩⟩⟩⟩⟩⟩,⟨⟨(p.2.2.2.2.1.1),⟨(Ap.nr _),⟨(Ap.nr _),⟨(Ap.nr _),⟨(Ap.nr _),⟨(Ap.nr _),⟨(Ap.nr _),trivial⟩⟩⟩⟩⟩⟩⟩,⟨⟨(Ap.nr _),⟨(Ap.nr _),⟨(Ap.nr _),⟨(Ap.nr _),⟨(Ap.nr _),⟨(Ap.nr _),trivial⟩⟩⟩⟩⟩⟩,⟨⟨(Ap.nl _),⟨(Ap.nl _),⟨(Ap.nl _),⟨(Ap.nl _),⟨(Ap.nl _),trivial⟩⟩⟩⟩⟩,⟨⟨(Ap.nl _),⟨(Ap.nl _),⟨(Ap.nl _),⟨(Ap.nl _),trivial⟩⟩⟩⟩,⟨⟨(Ap.nl _),⟨(Ap.nl _),⟨(Ap.nl _),trivial⟩⟩⟩,⟨⟨(Ap.nl _),⟨(Ap.nl _),trivial⟩⟩,⟨⟨(Ap.nl _),trivial⟩,⟨trivial,trivial⟩⟩⟩⟩⟩⟩⟩⟩⟩⟩⟩⟩⟩
 have di:=impl_ChanOk_t a2
 refine cf (cA not a2) ?_
 refine y1 ?_
 refine pu (vp bj 2) wN ?_
 have bo:=(bF.kp e)
 refine lN (L_28 a.Cur aG aH aI aJ) wN isAgg_28 sizeOf_28 bo ?_
 refine pu (vp bj 0) wN ?_
 refine ld (vi a.Role) wN isAgg_3 bo ?_
 refine pu (vp bj 1) wN ?_
 refine ld (vs aE a.Sn.length aF) wN isAgg_22 bo ?_
 refine mw (vi b) ?_
 refine mw (vs b2 d.length b3) ?_
 refine cl wN (ciEpSeal bk _ a.Cur (mR_28 (be.from0 a1) bg (bh.from0 a1) bi) a.Role _ a.Sn (mR_22 (bc.from0 a1) bd) b _ d (mR_22 (bJ.from0 a1) bK)) ?_
 rintro _ bl ⟨u,⟨A,B,C,D,V,W,X,Y,Z,aa,ab,ac,ad,ae,af,ah,rfl,a4,ck,a5,cm,a6,cn,a7,co,a8,cp,a9,cq,aA,cr,aB,cs,m⟩⟩
 refine mw (.tuple #[(va (L_28 ((i_EpSeal a.Cur a.Role a.Sn b d).1) A B C D)),(va (L_32 ((i_EpSeal a.Cur a.Role a.Sn b d).2.1) V W X Y Z aa ab ac ad ae af ah)),(vi ((i_EpSeal a.Cur a.Role a.Sn b d).2.2))]) ?_
 refine pu (va (L_28 ((i_EpSeal a.Cur a.Role a.Sn b d).1) A B C D)) wN ?_
 refine pu (va (L_32 ((i_EpSeal a.Cur a.Role a.Sn b d).2.1) V W X Y Z aa ab ac ad ae af ah)) wN ?_
 refine pu (vi ((i_EpSeal a.Cur a.Role a.Sn b d).2.2)) wN ?_
 refine al Z_28 wN zero_28 ?_
 intro dj bY aC bG O cu
 have cv:=(a1.extk u).extk O
 refine al Z_32 wN zero_32 ?_
 intro dk dl ai dm av cw
 have cx:=(cu.kp av)
 refine sv (L_28 ((i_EpSeal a.Cur a.Role a.Sn b d).1) A B C D) wN sizeOf_28 cx ?_
 intro dn ax cy dp
 have cz:=(cv.extk av).ext ax (fun k hk=>by subst hk;exact nT (z8 r s j l i f e u) aC)
 have c0:=(cw.ch ax (Ne.symm (nN (nL bG (ai)))))
 refine sv (L_32 ((i_EpSeal a.Cur a.Role a.Sn b d).2.1) V W X Y Z aa ab ac ad ae af ah) wN sizeOf_32 c0 ?_
 intro dq ay c1 dr
 have c2:=cz.ext ay (fun k hk=>by subst hk;exact nT (z9 r s j l i f e u O) ai)
 refine aw (vi ((i_EpSeal a.Cur a.Role a.Sn b d).2.2)) ?_
 refine nx ?_
 have c3:=(cy.ch ay (nN (nL bG (ai))))
 refine lN (L_28 ((i_EpSeal a.Cur a.Role a.Sn b d).1) A B C D) wN isAgg_28 sizeOf_28 c3 ?_
 refine pu (vp bP 2) wN ?_
 have c4:=((((((bE.kp e).kp u).kp O).kp av).ch ax (nN (nL ba (nT (z3 f e u) aC)))).ch ay (nN (nL ba (nT (z4 f e u O) ai))))
 refine st (va (L_28 ((i_EpSeal a.Cur a.Role a.Sn b d).1) A B C D)) (L_28 ((i_EpSeal a.Cur a.Role a.Sn b d).1) A B C D) [(vi ((a).Role)),(vs F ((a).Sn).length G),(vi (((i_EpSeal a.Cur a.Role a.Sn b d).1).N)),(vs A (((i_EpSeal a.Cur a.Role a.Sn b d).1).Key).length B),(vi (((i_EpSeal a.Cur a.Role a.Sn b d).1).Seq)),(vi ((((i_EpSeal a.Cur a.Role a.Sn b d).1).Win).Top)),(vs C ((((i_EpSeal a.Cur a.Role a.Sn b d).1).Win).Bits).length D),(vi (((a).Old).N)),(vs H (((a).Old).Key).length I),(vi (((a).Old).Seq)),(vi ((((a).Old).Win).Top)),(vs J ((((a).Old).Win).Bits).length K),(vb ((a).HasOld)),(vi ((a).Until)),(vs L ((a).Next).length M)] wN sizeOf_28 c4 ?_
 intro c5 aD c6 ds
 have c7:=c2.ext aD (fun k hk=>by subst hk;exact nT (z4 r s j l) P)
 refine wl_nil<|wq_then<|wc_seq ?_
 have c8:=(((((((((((b5.kp j).kp l).kp i).ch f (nN (nL x (nT (z2 j l) P)))).kp e).kp u).kp O).kp av).ch ax (nN (nL x (nT (z6 j l i f e u) aC)))).ch ay (nN (nL x (nT (z7 j l i f e u O) ai)))).ch aD (nN (nL x (nT (z2 j l) P))))
 have c9:=((((((((((b6.kp l).kp i).ch f (nN (nL aj (nT l.size P)))).kp e).kp u).kp O).kp av).ch ax (nN (nL aj (nT (z5 l i f e u) aC)))).ch ay (nN (nL aj (nT (z6 l i f e u O) ai)))).ch aD (nN (nL aj (nT l.size P))))
 refine wc_drawT ([(35,[],[],(fun _ v _=>v=(va [(vi ((a).Role)),(vs F ((a).Sn).length G),(vi (((i_EpSeal a.Cur a.Role a.Sn b d).1).N)),(vs A (((i_EpSeal a.Cur a.Role a.Sn b d).1).Key).length B),(vi (((i_EpSeal a.Cur a.Role a.Sn b d).1).Seq)),(vi ((((i_EpSeal a.Cur a.Role a.Sn b d).1).Win).Top)),(vs C ((((i_EpSeal a.Cur a.Role a.Sn b d).1).Win).Bits).length D),(vi (((a).Old).N)),(vs H (((a).Old).Key).length I),(vi (((a).Old).Seq)),(vi ((((a).Old).Win).Top)),(vs J ((((a).Old).Win).Bits).length K),(vb ((a).HasOld)),(vi ((a).Until)),(vs L ((a).Next).length M)]))),(36,[],[],(fun _ v _=>v=(va (L_32 ((i_EpSeal a.Cur a.Role a.Sn b d).2.1) V W X Y Z aa ab ac ad ae af ah)))),(37,[],[],(fun _ v _=>v=(vi ((i_EpSeal a.Cur a.Role a.Sn b d).2.2)))),(41,[],[0],(fun _ _ w=>BK w aK 30 0 ([(vi ((a).Role)),(vs F ((a).Sn).length G),(vi (((i_EpSeal a.Cur a.Role a.Sn b d).1).N)),(vs A (((i_EpSeal a.Cur a.Role a.Sn b d).1).Key).length B),(vi (((i_EpSeal a.Cur a.Role a.Sn b d).1).Seq)),(vi ((((i_EpSeal a.Cur a.Role a.Sn b d).1).Win).Top)),(vs C ((((i_EpSeal a.Cur a.Role a.Sn b d).1).Win).Bits).length D),(vi (((a).Old).N)),(vs H (((a).Old).Key).length I),(vi (((a).Old).Seq)),(vi ((((a).Old).Win).Top)),(vs J ((((a).Old).Win).Bits).length K),(vb ((a).HasOld)),(vi ((a).Until)),(vs L ((a).Next).length M)]))),(42,[],[0,1,3],(fun _ _ w=>BK w aL 32 0 ((L_32 ((i_EpSeal a.Cur a.Role a.Sn b d).2.1) V W X Y Z aa ab ac ad ae af ah))))]:GV) (fun lf ak=>Ch (fun k=>k=aK∨k=aL) c5 ak∧RK lf ak aK 30 Z_30 [(3,0,15)]∧RK lf ak aL 32 Z_32 [(4,0,11)]) [(3,TK aK 30 0 15),(4,TK aL 32 0 11)] mixed rfl (by kernel_rfl) (by kernel_rfl) ?_ (fun _ _ h=>⟨h.to _,RK.z c8 h,RK.z c9 h⟩) (fun _ _ _ _ h mo k=>by obtain ⟨hc,aR,aS⟩:=h;exact ⟨hc.comp k (fun _ _ q=>q.elim),aR.kp mo k,aS.kp mo k⟩) ⟨(fun _ _ w ak h mo hj t=>by obtain ⟨hc,aR,aS⟩:=h;exact ⟨hc.comp t.1 (fun _ _ q=>(.inl q)),aR.st mo hj (.head _) t,aS.ch mo t.1 (Ne.symm (nN (nL x (am))))⟩),⟨(fun _ _ w ak h mo hj t=>by obtain ⟨hc,aR,aS⟩:=h;exact ⟨hc.comp t.1 (fun _ _ q=>(.inr q)),aR.ch mo t.1 (nN (nL x (am))),aS.st mo hj (.head _) t⟩),trivial⟩⟩ ?_ ?_ ?_
 ·exact ⟨hV,hE,⟨hV,hE,⟨hV,hE,⟨sK,hE,⟨sK,hE,trivial⟩⟩⟩⟩⟩
 ·exact ⟨⟨.inr hV,⟨.inr hV,⟨.inr hV,⟨.inl rfl,⟨.inr (sKo (fun _ _ t=>t.1) (Ne.symm (nN (nL x (am))))),trivial⟩⟩⟩⟩⟩,⟨⟨.inr hV,⟨.inr hV,⟨.inr hV,⟨.inr (sKo (fun _ _ t=>t.1) (nN (nL x (am)))),⟨.inl rfl,trivial⟩⟩⟩⟩⟩,trivial⟩⟩
 ·refine ⟨?_,⟨?_,⟨?_,⟨?_,⟨?_,trivial⟩⟩⟩⟩⟩
  ·rintro lf az ⟨cC,dt,du⟩ ⟨dv,dw,-⟩
   rintro _ _ _ _ _
   refine sw ?_
   have cD:=(c6.ch cC (fun h=>Or.elim h (Ne.symm (nN (nL x (nT (z2 j l) P)))) (Ne.symm (nN (nL aj (nT l.size P))))))
   refine lN [(vi ((a).Role)),(vs F ((a).Sn).length G),(vi (((i_EpSeal a.Cur a.Role a.Sn b d).1).N)),(vs A (((i_EpSeal a.Cur a.Role a.Sn b d).1).Key).length B),(vi (((i_EpSeal a.Cur a.Role a.Sn b d).1).Seq)),(vi ((((i_EpSeal a.Cur a.Role a.Sn b d).1).Win).Top)),(vs C ((((i_EpSeal a.Cur a.Role a.Sn b d).1).Win).Bits).length D),(vi (((a).Old).N)),(vs H (((a).Old).Key).length I),(vi (((a).Old).Seq)),(vi ((((a).Old).Win).Top)),(vs J ((((a).Old).Win).Bits).length K),(vb ((a).HasOld)),(vi ((a).Until)),(vs L ((a).Next).length M)] wN isAgg_30 sizeOf_30 cD ?_
   exact f1
  ·rintro lf az ⟨cE,dx,dy⟩ ⟨dz,d0,-⟩
   rintro _ _ _ _ _
   refine sw ?_
   have cF:=((c1.ch aD (Ne.symm (nN (nL ba (nT (z4 f e u O) ai))))).ch cE (fun h=>Or.elim h (Ne.symm (nN (nL x (nT (z7 j l i f e u O) ai)))) (Ne.symm (nN (nL aj (nT (z6 l i f e u O) ai))))))
   refine lN (L_32 ((i_EpSeal a.Cur a.Role a.Sn b d).2.1) V W X Y Z aa ab ac ad ae af ah) wN isAgg_32 sizeOf_32 cF ?_
   exact f1
  ·rintro lf az ⟨d1,d2,d3⟩ ⟨d4,d5,-⟩
   rintro _ _ _ _ _
   refine sw ?_
   refine mw (vi ((i_EpSeal a.Cur a.Role a.Sn b d).2.2)) ?_
   exact f1
  ·rintro lf az ⟨d6,cG,d7⟩ ⟨d8,d9,-⟩
   rintro _ rfl _ _ _ _
   refine sw ?_
   exact stK (va [(vi ((a).Role)),(vs F ((a).Sn).length G),(vi (((i_EpSeal a.Cur a.Role a.Sn b d).1).N)),(vs A (((i_EpSeal a.Cur a.Role a.Sn b d).1).Key).length B),(vi (((i_EpSeal a.Cur a.Role a.Sn b d).1).Seq)),(vi ((((i_EpSeal a.Cur a.Role a.Sn b d).1).Win).Top)),(vs C ((((i_EpSeal a.Cur a.Role a.Sn b d).1).Win).Bits).length D),(vi (((a).Old).N)),(vs H (((a).Old).Key).length I),(vi (((a).Old).Seq)),(vi ((((a).Old).Win).Top)),(vs J ((((a).Old).Win).Bits).length K),(vb ((a).HasOld)),(vi ((a).Until)),(vs L ((a).Next).length M)]) [(vi ((a).Role)),(vs F ((a).Sn).length G),(vi (((i_EpSeal a.Cur a.Role a.Sn b d).1).N)),(vs A (((i_EpSeal a.Cur a.Role a.Sn b d).1).Key).length B),(vi (((i_EpSeal a.Cur a.Role a.Sn b d).1).Seq)),(vi ((((i_EpSeal a.Cur a.Role a.Sn b d).1).Win).Top)),(vs C ((((i_EpSeal a.Cur a.Role a.Sn b d).1).Win).Bits).length D),(vi (((a).Old).N)),(vs H (((a).Old).Key).length I),(vi (((a).Old).Seq)),(vi ((((a).Old).Win).Top)),(vs J ((((a).Old).Win).Bits).length K),(vb ((a).HasOld)),(vi ((a).Until)),(vs L ((a).Next).length M)] wN sizeOf_30 cG (fun _ h=>h) (fun _ t=>t)
  ·rintro lf az ⟨dA,dB,cH⟩ ⟨dC,dD,-⟩
   rintro _ rfl _ rfl _ _ _ _
   refine sw ?_
   exact stK (va (L_32 ((i_EpSeal a.Cur a.Role a.Sn b d).2.1) V W X Y Z aa ab ac ad ae af ah)) (L_32 ((i_EpSeal a.Cur a.Role a.Sn b d).2.1) V W X Y Z aa ab ac ad ae af ah) wN sizeOf_32 cH (fun _ h=>h) (fun _ t=>t)
 ·rintro lf az ⟨bp,cI,cJ⟩
  have cK:=c7.ext bp (fun k hk=>(fun hk=>Or.elim hk (fun hk=>by subst hk;exact nT r.size b4) (fun hk=>by subst hk;exact nT (z2 r s) am)) hk)
  rintro _ rfl _ rfl _ rfl _ cL _ cM
  have cN:Blk az aK 30 [(vi ((a).Role)),(vs F ((a).Sn).length G),(vi (((i_EpSeal a.Cur a.Role a.Sn b d).1).N)),(vs A (((i_EpSeal a.Cur a.Role a.Sn b d).1).Key).length B),(vi (((i_EpSeal a.Cur a.Role a.Sn b d).1).Seq)),(vi ((((i_EpSeal a.Cur a.Role a.Sn b d).1).Win).Top)),(vs C ((((i_EpSeal a.Cur a.Role a.Sn b d).1).Win).Bits).length D),(vi (((a).Old).N)),(vs H (((a).Old).Key).length I),(vi (((a).Old).Seq)),(vi ((((a).Old).Win).Top)),(vs J ((((a).Old).Win).Bits).length K),(vb ((a).HasOld)),(vi ((a).Until)),(vs L ((a).Next).length M)]:=RK.fin cI [(0,[(vi ((a).Role)),(vs F ((a).Sn).length G),(vi (((i_EpSeal a.Cur a.Role a.Sn b d).1).N)),(vs A (((i_EpSeal a.Cur a.Role a.Sn b d).1).Key).length B),(vi (((i_EpSeal a.Cur a.Role a.Sn b d).1).Seq)),(vi ((((i_EpSeal a.Cur a.Role a.Sn b d).1).Win).Top)),(vs C ((((i_EpSeal a.Cur a.Role a.Sn b d).1).Win).Bits).length D),(vi (((a).Old).N)),(vs H (((a).Old).Key).length I),(vi (((a).Old).Seq)),(vi ((((a).Old).Win).Top)),(vs J ((((a).Old).Win).Bits).length K),(vb ((a).HasOld)),(vi ((a).Until)),(vs L ((a).Next).length M)])] ⟨cL,trivial⟩
  have cO:Blk az aL 32 (L_32 ((i_EpSeal a.Cur a.Role a.Sn b d).2.1) V W X Y Z aa ab ac ad ae af ah):=RK.fin cJ [(0,(L_32 ((i_EpSeal a.Cur a.Role a.Sn b d).2.1) V W X Y Z aa ab ac ad ae af ah))] ⟨cM,trivial⟩
  refine sw ?_
  refine aw (vi ((i_EpSeal a.Cur a.Role a.Sn b d).2.2)) ?_
  refine n3 ?_
  have bb:=fun (E sz n:Nat) (v:Value) (an:List Value) (o:World.ownsRow aZ aM.heap.size E sz v n an) (y:World.ownsRow aZ aM.heap.size E sz v n an)=>(own_ch (own_ch (own_ch (own_ch (own_kp (own_kp (own_kp (own_kp (own_ch (own_kp o i) f (ne2 y (P))) e) u) O) av) ax (ne2 y (nT (z4 i f e u) aC))) ay (ne2 y (nT (z5 i f e u O) ai))) aD (ne2 y (P))) bp (fun g hg hlt hk=>Or.elim hk (fun hk=>(ne1 y (nL x j.size)) g hg hlt hk) (fun hk=>(ne1 y (aj)) g hg hlt hk)))
  have cP:=(bb _ _ _ _ _ Q Q)
  have ao:=fun (E sz n:Nat) (v:Value) (an:List Value) (o:World.ownsRow bl bk.heap.size E sz v n an) (y:World.ownsRow bl bk.heap.size E sz v n an)=>(own_ch (own_ch (own_ch (own_ch (own_kp (own_kp o O) av) ax (ne2 y (aC))) ay (ne2 y (nT O.size ai))) aD (ne1 y (nL ba (z2 f e)))) bp (fun g hg hlt hk=>Or.elim hk (fun hk=>(ne1 y (nL x (z5 j l i f e))) g hg hlt hk) (fun hk=>(ne1 y (nL aj (z4 l i f e))) g hg hlt hk)))
  have cQ:=(ao _ _ _ _ _ a4 a4)
  have cR:=(ao _ _ _ _ _ a5 a5)
  have cS:=(bb _ _ _ _ _ R R)
  have cT:=(bb _ _ _ _ _ S S)
  have cU:=(bb _ _ _ _ _ T T)
  have cV:=(ao _ _ _ _ _ a6 a6)
  have cW:=(ao _ _ _ _ _ a7 a7)
  have cX:=(ao _ _ _ _ _ a8 a8)
  have cY:=(ao _ _ _ _ _ a9 a9)
  have cZ:=(ao _ _ _ _ _ aA aA)
  have da:=(ao _ _ _ _ _ aB aB)
  refine ret_3 (.inl rfl) (va [(vi ((a).Role)),(vs F ((a).Sn).length G),(vi (((i_EpSeal a.Cur a.Role a.Sn b d).1).N)),(vs A (((i_EpSeal a.Cur a.Role a.Sn b d).1).Key).length B),(vi (((i_EpSeal a.Cur a.Role a.Sn b d).1).Seq)),(vi ((((i_EpSeal a.Cur a.Role a.Sn b d).1).Win).Top)),(vs C ((((i_EpSeal a.Cur a.Role a.Sn b d).1).Win).Bits).length D),(vi (((a).Old).N)),(vs H (((a).Old).Key).length I),(vi (((a).Old).Seq)),(vi ((((a).Old).Win).Top)),(vs J ((((a).Old).Win).Bits).length K),(vb ((a).HasOld)),(vi ((a).Until)),(vs L ((a).Next).length M)]) (va (L_32 ((i_EpSeal a.Cur a.Role a.Sn b d).2.1) V W X Y Z aa ab ac ad ae af ah)) (vi ((i_EpSeal a.Cur a.Role a.Sn b d).2.2)) rfl (rv_c [(vi ((a).Role)),(vs F ((a).Sn).length G),(vi (((i_EpSeal a.Cur a.Role a.Sn b d).1).N)),(vs A (((i_EpSeal a.Cur a.Role a.Sn b d).1).Key).length B),(vi (((i_EpSeal a.Cur a.Role a.Sn b d).1).Seq)),(vi ((((i_EpSeal a.Cur a.Role a.Sn b d).1).Win).Top)),(vs C ((((i_EpSeal a.Cur a.Role a.Sn b d).1).Win).Bits).length D),(vi (((a).Old).N)),(vs H (((a).Old).Key).length I),(vi (((a).Old).Seq)),(vi ((((a).Old).Win).Top)),(vs J ((((a).Old).Win).Bits).length K),(vb ((a).HasOld)),(vi ((a).Until)),(vs L ((a).Next).length M)] rfl cN isAgg_30 sizeOf_30) (rv_c (L_32 ((i_EpSeal a.Cur a.Role a.Sn b d).2.1) V W X Y Z aa ab ac ad ae af ah) rfl cO isAgg_32 sizeOf_32) rfl ?_
  refine ⟨cK.keep0,?_⟩
  simp only [i_ChanSeal,a2,cond_true,cond_false]
  have ap:=z7 r s j l i f e
  exact ⟨_,_,_,_,_,_,_,_,_,_,_,_,_,_,_,_,_,_,_,_,_,_,_,_,rfl,(own_lo cP (z3 r s j)),b8,(own_lo cQ ap),ck,(own_lo cR ap),cm,(own_lo cS (z3 r s j)),bB,(own_lo cT (z3 r s j)),bC,(own_lo cU (z3 r s j)),bD,(own_lo cV ap),cn,(own_lo cW ap),co,(own_lo cX ap),cp,(own_lo cY ap),cq,(own_lo cZ ap),cr,(own_lo da ap),cs,⟨⟨(Ap.lt Q a4 (z3 i f e)),⟨(Ap.lt Q a5 (z3 i f e)),⟨(p.1.2.2.1),⟨(p.1.2.2.2.1),⟨(p.1.2.2.2.2.1),⟨(Ap.lt Q a6 (z3 i f e)),⟨(Ap.lt Q a7 (z3 i f e)),⟨(Ap.lt Q a8 (z3 i f e)),⟨(Ap.lt Q a9 (z3 i f e)),⟨(Ap.lt Q aA (z3 i f e)),⟨(Ap.lt Q aB (z3 i f e)),trivial⟩⟩⟩⟩⟩⟩⟩⟩⟩⟩⟩,⟨⟨(m.1.1),⟨(Ap.lt R a4 (z3 i f e)).symm,⟨(Ap.lt S a4 (z3 i f e)).symm,⟨(Ap.lt T a4 (z3 i f e)).symm,⟨(m.1.2.1),⟨(m.1.2.2.1),⟨(m.1.2.2.2.1),⟨(m.1.2.2.2.2.1),⟨(m.1.2.2.2.2.2.1),⟨(m.1.2.2.2.2.2.2.1),trivial⟩⟩⟩⟩⟩⟩⟩⟩⟩⟩,⟨⟨(Ap.lt R a5 (z3 i f e)).symm,⟨(Ap.lt S a5 (z3 i f e)).symm,⟨(Ap.lt T a5 (z3 i f e)).symm,⟨(m.2.1.1),⟨(m.2.1.2.1),⟨(m.2.1.2.2.1),⟨(m.2.1.2.2.2.1),⟨(m.2.1.2.2.2.2.1),⟨(m.2.1.2.2.2.2.2.1),trivial⟩⟩⟩⟩⟩⟩⟩⟩⟩,⟨⟨(p.2.2.2.1.1),⟨(p.2.2.2.1.2.1),⟨(Ap.lt R a6 (z3 i f e)),⟨(Ap.lt R a7 (z3 i f e)),⟨(Ap.lt R a8 (z3 i f e)),⟨(Ap.lt R a9 (z3 i f e)),⟨(Ap.lt R aA (z3 i f e)),⟨(Ap.lt R aB (z3 i f e)),trivial⟩⟩⟩⟩⟩⟩⟩⟩,⟨⟨(p.2.2.2.2.1.1),⟨(Ap.lt S a6 (z3 i f e)),⟨(Ap.lt S a7 (z3 i f e)),⟨(Ap.lt S a8 (z3 i f e)),⟨(Ap.lt S a9 (z3 i f e)),⟨(Ap.lt S aA (z3 i f e)),⟨(Ap.lt S aB (z3 i f e)),trivial⟩⟩⟩⟩⟩⟩⟩,⟨⟨(Ap.lt T a6 (z3 i f e)),⟨(Ap.lt T a7 (z3 i f e)),⟨(Ap.lt T a8 (z3 i f e)),⟨(Ap.lt T a9 (z3 i f e)),⟨(Ap.lt T aA (z3 i f e)),⟨(Ap.lt T aB (z3 i f e)),trivial⟩⟩⟩⟩⟩⟩,⟨⟨(m.2.2.1.1),⟨(m.2.2.1.2.1),⟨(m.2.2.1.2.2.1),⟨(m.2.2.1.2.2.2.1),⟨(m.2.2.1.2.2.2.2.1),trivial⟩⟩⟩⟩⟩,⟨⟨(m.2.2.2.1.1),⟨(m.2.2.2.1.2.1),⟨(m.2.2.2.1.2.2.1),⟨(m.2.2.2.1.2.2.2.1),trivial⟩⟩⟩⟩,⟨⟨(m.2.2.2.2.1.1),⟨(m.2.2.2.2.1.2.1),⟨(m.2.2.2.2.1.2.2.1),trivial⟩⟩⟩,⟨⟨(m.2.2.2.2.2.1.1),⟨(m.2.2.2.2.2.1.2.1),trivial⟩⟩,⟨⟨(m.2.2.2.2.2.2.1.1),trivial⟩,⟨trivial,trivial⟩⟩⟩⟩⟩⟩⟩⟩⟩⟩⟩⟩⟩

theorem ciExpand (e:World) (Y:Value) (b:List UInt8) (ay:R_22 e Y b) (Z:Value) (a:List UInt8) (az:R_22 e Z a) (d:Int) :Fn Try.prog 61 #[Y,Z,(vi d)] e (fun v p=>Keep e p∧O_22_4 p e.heap.size v (expand b a d)):=by
 obtain ⟨q,r,rfl,aa,a0⟩:=ay
 obtain ⟨f,h,rfl,ab,a1⟩:=az
 refine fn_ofS (n:=48) [(vs q b.length r),(vs f a.length h),(vi d)] Try.func61 rfl rfl ?_
 refine sr ?_
 refine aw (vs none 0 0) ?_
 refine aw (vb false) ?_
 refine n4 ?_
 refine jT1 [(0,(vs q b.length r)),(1,(vs f a.length h)),(2,(vi d)),(6,(vs none 0 0)),(7,(vb false))] (expand b a d=([],false)) ?_ fun P=>?_
 ·intro a2 x a3 bb
  have a4:=(Ch.base e).extk a3
  refine sr ?_
  refine aw (vs none 0 0) ?_
  refine aw (vb false) ?_
  refine n1 ?_
  refine ret_2 (.inl rfl) (vs none 0 0) (vb false) rfl rfl rfl ?_
  refine ⟨a4.keep0,?_⟩
  rw [a2]
  exact ⟨_,_,rfl,(by first|exact own_nil _ _ _ _|exact OLv.nil _ _ _ _),(by simp),⟨trivial,trivial⟩⟩
 refine mw (vi d) ?_
 refine cl wN (ciwithin e d 0 8160) ?_
 rintro _ x ⟨y,rfl⟩
 have Q:=(Ch.base e).extk y
 refine pu (vb (!(i_within d 0 8160))) wN ?_
 refine mw (vb (!(i_within d 0 8160))) ?_
 rcases bf (i_within d 0 8160) with i|i
 ·have bc:=impl_within_f i
  iterate 3 refine sk (cA not i) ?_
  refine pk (vb true) wN (cA not i) ?_
  refine mw (vb true) ?_
  iterate 3 refine sk (Eq.refl true) ?_
  refine pk (vb true) wN (Eq.refl true) ?_
  refine n2 ?_
  refine ct (Eq.refl true) ?_
  have a5:expand b a d=([],false):=by first|exact expand_f (by omega)|exact expand_t (by omega) (by omega) (by omega) (by omega) (by omega) (by omega)
  exact wj (P a5 _ y)
 have bd:=impl_within_t i
 refine mv (vs f a.length h) (wS (cA not i)) ?_
 refine ln (wS (cA not i)) slTy_22 (ab.from0 Q) ?_
 refine pu (vb (decide (100 < (a.length:Int)))) (wS (cA not i)) ?_
 refine pf (vb (decide (100 < (a.length:Int)))) wN (cA not i) ?_
 refine mw (vb (decide (100 < (a.length:Int)))) ?_
 rcases bt (decide (100 < (a.length:Int))) with j|j
 ·have be:=dT j
  iterate 3 refine sk j ?_
  refine pk (vb true) wN j ?_
  refine n2 ?_
  refine ct (Eq.refl true) ?_
  have a6:expand b a d=([],false):=by first|exact expand_f (by omega)|exact expand_t (by omega) (by omega) (by omega) (by omega) (by omega) (by omega)
  exact wj (P a6 _ y)
 have bg:=dF j
 refine mv (vs q b.length r) (wS j) ?_
 refine ln (wS j) slTy_22 (aa.from0 Q) ?_
 refine pu (vb (decide (1048576 < (b.length:Int)))) (wS j) ?_
 refine pf (vb (decide (1048576 < (b.length:Int)))) wN j ?_
 refine n2 ?_
 rcases bt (decide (1048576 < (b.length:Int))) with F|F
 ·have bh:=dT F
  refine ct F ?_
  have a7:expand b a d=([],false):=by first|exact expand_f (by omega)|exact expand_t (by omega) (by omega) (by omega) (by omega) (by omega) (by omega)
  exact wj (P a7 _ y)
 have bi:=dF F
 refine cf F ?_
 refine y1 ?_
 refine wl_lit0 wN rfl rfl slTy_22 (fun w=>by kernel_rfl) ?_
 intro R a8 S a9
 refine aw (vs (some R) 0 0) ?_
 refine nx ?_
 refine wl_lit0 wN rfl rfl slTy_22 (fun w=>by kernel_rfl) ?_
 intro T V G aA
 have aB:=(Q.extk S).extk G
 refine aw (vs (some T) 0 0) ?_
 refine n4 ?_
 refine aw (vi 1) ?_
 refine wl_nil<|wq_then<|wc_block ?_
 have aC:=(own_kp a9 G)
 have ac:([]:List UInt8)=(expN b a 0).1:=by rfl
 have ad:0=((expN b a 0).1).length:=by rw [← ac];try (first|rfl|simp only [List.length_set]|simp)
 have ae:([]:List UInt8)=(expN b a 0).2:=by rfl
 have af:0=((expN b a 0).2).length:=by rw [← ae];try (first|rfl|simp only [List.length_set]|simp)
 refine wc_loopP [(0,(vs q b.length r)),(1,(vs f a.length h)),(2,(vi d)),(6,(vs none 0 0)),(7,(vb false)),(8,(.slice (some R) ((expN b a 0).1).length 0)),(9,(.slice (some T) ((expN b a 0).2).length 0)),(10,(vi (((0:Nat):Int)+1)))] ⟨rfl,rfl,rfl,rfl,rfl,rfl,rfl,(cA (Value.int .i64) (show (1:Int)=(((0:Nat):Int)+1) by omega)),trivial⟩ (fun e' p=>∃ (k:Nat) (ah:Env) (A:Option Addr) (B:Nat) (C:Option Addr) (D:Nat),e'=pt ah [(0,(vs q b.length r)),(1,(vs f a.length h)),(2,(vi d)),(6,(vs none 0 0)),(7,(vb false)),(8,(.slice A ((expN b a k).1).length B)),(9,(.slice C ((expN b a k).2).length D)),(10,(vi (((k:Nat):Int)+1)))]∧Ch (fun k=>e.heap.size≤k) e p∧Ch (fun k=>x.heap.size≤k) V p∧32*((k:Nat):Int) < d+32∧(World.ownsRow p x.heap.size 5 1 (.slice A ((expN b a k).1).length B) ((expN b a k).1).length (((expN b a k).1).map bV)∧((expN b a k).1).length≤1073741824)∧(World.ownsRow p a8.heap.size 5 1 (.slice C ((expN b a k).2).length D) ((expN b a k).2).length (((expN b a k).2).map bV)∧((expN b a k).2).length≤1073741824)) (fun e' _=>d.toNat - (lenOf (e' 8))) ?_ ?_
 ·exact fun u=>⟨0,u,(some R),0,(some T),0,rfl,aB,(Ch.refl (fun k=>x.heap.size≤k) V),(by omega),⟨(by rw [← ad,← ac];exact aC),(by rw [← ad];first|exact (by simp)|(simp only [List.length_append,List.length_take,List.length_replicate];omega))⟩,⟨(by rw [← af,← ae];exact aA),(by rw [← af];first|exact (by simp)|(simp only [List.length_append,List.length_take,List.length_replicate];omega))⟩⟩
 ·rintro _ ai ⟨k,ah,A,B,C,D,rfl,aj,K,bj,⟨s,aD⟩,⟨aE,aF⟩⟩
  have hxl:=expN_len (prk:=b) (info:=a) (by omega) (by omega) k
  have hxm:=expN_len (prk:=b) (info:=a) (by omega) (by omega) (k+1)
  refine wc_seq<|sr ?_
  refine mw (vs A ((expN b a k).1).length B) ?_
  refine ln wN slTy_22 (Rd.of_own s) ?_
  refine mw (vi d) ?_
  refine pu (vb (decide ((((expN b a k).1).length:Int) < d))) wN ?_
  refine n2 ?_
  rcases bf (decide ((((expN b a k).1).length:Int) < d)) with H|H
  ·have bk:=dF H
   refine cf H ?_
   refine wc_exit<|wq_then_exit<|wq_then_exit<|wq_blk_exit<|wq_then<|sr ?_
   refine mw (vs A ((expN b a k).1).length B) ?_
   refine mw (vi d) ?_
   refine slv (((expN b a k).1).take ((d).toNat)) 0 ((d).toNat) wN slTy_22 (Rd.of_own s) (by first|omega|(simp <;> omega)) (by first|omega|(simp <;> omega)) (by first|rfl|(simp;done)|(rw [List.take_of_length_le (by first|(simp;done)|(simp;omega))])) rfl rfl rfl rfl (.inl ⟨rfl,rfl⟩) (.inr ⟨_,_,_,rfl,rfl,by omega⟩) ?_
   have aG:0≤((d).toNat):=(by first|omega|(simp <;> omega))
   have aH:((d).toNat)≤((expN b a k).1).length:=(by first|omega|(simp <;> omega))
   refine cl wN (ciclone ai _ (((expN b a k).1).take ((d).toNat)) (mR_22 (Rd.subV (x':=(((expN b a k).1).take ((d).toNat))) (Rd.of_own s) aG aH (by first|rfl|(simp;done)|(rw [List.take_of_length_le (by first|(simp;done)|(simp;omega))]))) (nT (by simp only [List.length_take,List.length_drop];omega) aD))) ?_
   rintro _ aI ⟨aJ,⟨ak,am,rfl,aK,aL,bl⟩⟩
   have aM:=aj.extk aJ
   refine aw (vs ak ((((expN b a k).1).take ((d).toNat))).length am) ?_
   refine aw (vb true) ?_
   refine n3 ?_
   refine ret_2 (.inl rfl) (vs ak ((((expN b a k).1).take ((d).toNat))).length am) (vb true) rfl rfl rfl ?_
   refine ⟨aM.keep0,?_⟩
   have aN:expand b a d=(((((expN b a k).1).take ((d).toNat))),true):=by first|exact expand_f (by omega)|exact expand_t (by omega) (by omega) (by omega) (by omega) (by omega) (by omega)
   rw [aN]
   exact ⟨_,_,rfl,(own_lo aK (z4 y S G K)),aL,⟨trivial,trivial⟩⟩
  have bm:=dT H
  refine ct H ?_
  refine wc_skip<|wq_then<|wc_seq<|wc_block<|sr ?_
  refine mw (vs q b.length r) ?_
  refine mw (vs C ((expN b a k).2).length D) ?_
  refine mw (vs f a.length h) ?_
  refine mw (vi (((k:Nat):Int)+1)) ?_
  refine wl_conv8 (((k:Nat):Int)+1) wN rfl rfl (by kernel_rfl) ?_
  refine ltB ([(by8 (((k:Nat):Int)+1))]:List UInt8) wN slTy_22 ?_
  intro an ao aI t aO
  refine wl_lit [(vs C ((expN b a k).2).length D),(vs f a.length h),(vs an ([(by8 (((k:Nat):Int)+1))]:List UInt8).length ao)] wN rfl rfl slTy_56 (m:=3) rfl (by simp only [maxLen];omega) (fun w=>by kernel_rfl) ?_
  intro bn aP o ap
  obtain ⟨bo,bp,rfl⟩:=own_form ap
  have aq:=(aj.extk t).extk o
  have aQ:=(own_kp aO o)
  have aR:=(own_kp (own_kp aE t) o)
  refine cl wN (cijoined aP _ [((expN b a k).2),a,([(by8 (((k:Nat):Int)+1))]:List UInt8)] (mR_56 (RLv.mk (L:=LT_22) [(((expN b a k).2),[(C,D)]),(a,[(f,h)]),(([(by8 (((k:Nat):Int)+1))]:List UInt8),[(an,ao)])] (Rd.of_own ap) rfl ⟨⟨⟨(Rd.of_own aR),aF⟩,trivial⟩,⟨⟨⟨(ab.from0 aq),a1⟩,trivial⟩,⟨⟨⟨(Rd.of_own aQ),(by simp)⟩,trivial⟩,trivial⟩⟩⟩ (by first|decide|exact Nat.le_of_ble_eq_true rfl)) (by first|decide|exact Nat.le_of_ble_eq_true rfl)) (by first|omega|(rw [joinB_l2];omega)|(rw [joinB_l2];simp only [List.length_cons,List.length_nil,maskB_len];omega)|(rw [joinB_l3];simp only [List.length_cons,List.length_nil,maskB_len];omega)|(simp only [joinB,List.flatten_cons,List.flatten_nil,List.length_append,List.length_cons,List.length_nil,maskB_len];omega))) ?_
  rintro _ aS ⟨E,⟨bq,br,rfl,aT,aU,bu⟩⟩
  have au:=aq.extk E
  have bv:=(show (joinB [((expN b a k).2),a,([(by8 (((k:Nat):Int)+1))]:List UInt8)]).length=((expN b a k).2).length+a.length+1 by simp only [joinB,List.flatten_cons,List.flatten_nil,List.length_append,List.length_cons,List.length_nil];omega)
  refine cl wN (ciHmac aS _ b (mR_22 (aa.from0 au) a0) _ (joinB [((expN b a k).2),a,([(by8 (((k:Nat):Int)+1))]:List UInt8)]) (mR_22 (Rd.of_own aT) aU)) ?_
  rintro _ bw ⟨M,⟨I,J,rfl,W,aV,bz⟩⟩
  have b0:=hmac_le b (joinB [((expN b a k).2),a,([(by8 (((k:Nat):Int)+1))]:List UInt8)])
  refine aw (vs I (hmac b (joinB [((expN b a k).2),a,([(by8 (((k:Nat):Int)+1))]:List UInt8)])).length J) ?_
  refine wl_nil<|wq_then<|wc_region ?_
  refine mw (vs A ((expN b a k).1).length B) ?_
  refine mw (vs I (hmac b (joinB [((expN b a k).2),a,([(by8 (((k:Nat):Int)+1))]:List UInt8)])).length J) ?_
  have aW:=(own_kp (own_kp (own_kp (own_kp s t) o) E) M)
  refine apB ((expN b a k).1) (hmac b (joinB [((expN b a k).2),a,([(by8 (((k:Nat):Int)+1))]:List UInt8)])) wN slTy_22 aW (Rd.of_own W) (z7 S G K t o E M) ?_
  intro N O b1 X aX b2 aY
  have aZ:=(au.extk M).ext X (fun k hk=>nT y.size (own_lt s k hk).1)
  refine aw (vs N (((expN b a k).1)++(hmac b (joinB [((expN b a k).2),a,([(by8 (((k:Nat):Int)+1))]:List UInt8)]))).length O) ?_
  refine wl_nil<|wq_blk_normal<|wq_then<|wc_region ?_
  refine mw (vi (((k:Nat):Int)+1)) ?_
  refine ar ((((k:Nat):Int)+1)+1) wN ?_
  refine aw (vi ((((k:Nat):Int)+1)+1)) ?_
  refine wl_nil ?_
  have av:((((expN b a k).1)++(hmac b (joinB [((expN b a k).2),a,([(by8 (((k:Nat):Int)+1))]:List UInt8)]))):List UInt8)=(expN b a (k+1)).1:=by exact expN_1 _ _ _ (by simp [joinB])
  have ba:=(own_ch W X (fun g hg hlt hk=>by have b3:=(own_lt W g hg).1;have b4:=(own_lt s g hk).2;have b5:=(z3 t o E);omega))
  have ax:((hmac b (joinB [((expN b a k).2),a,([(by8 (((k:Nat):Int)+1))]:List UInt8)])):List UInt8)=(expN b a (k+1)).2:=by exact expN_2 _ _ _ (by simp [joinB])
  refine wq_loopP (w0:=ai) [(0,(vs q b.length r)),(1,(vs f a.length h)),(2,(vi d)),(6,(vs none 0 0)),(7,(vb false)),(8,(.slice N ((expN b a (k+1)).1).length O)),(9,(.slice I ((expN b a (k+1)).2).length J)),(10,(vi ((((k+1):Nat):Int)+1)))] ?_ ?_ ?_
  · exact ⟨rfl,rfl,rfl,rfl,rfl,(cA (fun l:List UInt8=>Value.slice N l.length O) av),(cA (fun l:List UInt8=>Value.slice I l.length J) ax),(cA (Value.int .i64) (show (((((k:Nat):Int)+1)+1):Int)=((((k+1):Nat):Int)+1) by omega)),trivial⟩
  · exact fun u=>⟨(k+1),u,N,O,I,J,rfl,aZ,(((((((Ch.refl (fun k=>x.heap.size≤k) V).ext K (fun k hk=>hk)).extk t).extk o).extk E).extk M).ext X (fun k hk=>nT (Nat.le_refl x.heap.size) (own_lt s k hk).1)),(by omega),(av ▸ ⟨aX,aY⟩),(ax ▸ ⟨(own_lo ba (z5 G K t o E)),aV⟩)⟩
  · show d.toNat - ((expN b a (k+1)).1).length < d.toNat - ((expN b a k).1).length;omega

def R_9 (w:World) (v:Value) (x:(ByteArray)):Prop:=v=.string x
theorem ciDerive (d:World) (g:Value) (b:List UInt8) (o:R_22 d g b) (h:Value) (a:ByteArray) (p:R_9 d h a) (B:(strB a).length≤100):Fn Try.prog 38 #[g,h] d (fun v i=>Keep d i∧O_22 i d.heap.size v (derive b a)):=by
 obtain ⟨j,k,rfl,q,r⟩:=o
 obtain rfl:=p
 refine fn_ofS (n:=15) [(vs j b.length k),(.string a)] Try.func38 rfl rfl ?_
 refine sr ?_
 refine aw (vs none 0 0) ?_
 refine nx ?_
 refine mw (vs j b.length k) ?_
 refine mw (.string a) ?_
 refine wl_s2b a wN rfl rfl rfl rfl Try.underlying9 Try.underlying22 Try.underlying5 (by first|omega|(simp only [strB_mk];decide)) ?_
 intro C D s l t
 have m:=(Ch.base d).extk l
 refine cl wN (ciExpand s _ b (mR_22 (q.from0 m) r) _ (strB a) (mR_22 t (by first|omega|(simp only [strB_mk];decide))) 32) ?_
 rintro _ E ⟨u,⟨e,f,rfl,w,x,F⟩⟩
 have y:=m.extk u
 have G:=expand_le b (strB a) 32
 refine mw (.tuple #[(vs e ((expand b (strB a) 32).1).length f),(vb ((expand b (strB a) 32).2))]) ?_
 refine pu (vs e ((expand b (strB a) 32).1).length f) wN ?_
 refine pu (vb ((expand b (strB a) 32).2)) wN ?_
 refine aw (vs e ((expand b (strB a) 32).1).length f) ?_
 refine aw (vb ((expand b (strB a) 32).2)) ?_
 refine nx ?_
 refine mw (vs e ((expand b (strB a) 32).1).length f) ?_
 refine aw (vs e ((expand b (strB a) 32).1).length f) ?_
 refine n3 ?_
 refine rt (vs e ((expand b (strB a) 32).1).length f) ?_
 refine ⟨y.keep0,?_⟩
 have A:derive b a=(expand b (strB a) 32).1:=by rfl
 rw [A]
 exact ⟨_,_,rfl,(own_lo w l.size),x,⟨trivial,trivial⟩⟩

def O_30_4 (w:World) (lo:Nat) (v:Value) (x:(PChan)×(Bool)):Prop:=∃ (a:Option Addr) (b:Nat) (d:Option Addr) (e:Nat) (f:Option Addr) (g:Nat) (h:Option Addr) (i:Nat) (j:Option Addr) (k:Nat) (l:Option Addr) (m:Nat),v=.tuple #[.agg #[.int .i64 x.1.Role,.slice a x.1.Sn.length b,.int .i64 x.1.Cur.N,.slice d x.1.Cur.Key.length e,.int .i64 x.1.Cur.Seq,.int .i64 x.1.Cur.Win.Top,.slice f x.1.Cur.Win.Bits.length g,.int .i64 x.1.Old.N,.slice h x.1.Old.Key.length i,.int .i64 x.1.Old.Seq,.int .i64 x.1.Old.Win.Top,.slice j x.1.Old.Win.Bits.length k,.bool x.1.HasOld,.int .i64 x.1.Until,.slice l x.1.Next.length m],.bool x.2]∧w.ownsRow lo 5 1 (.slice a x.1.Sn.length b) x.1.Sn.length (x.1.Sn.map bV)∧x.1.Sn.length≤1073741824∧w.ownsRow lo 5 1 (.slice d x.1.Cur.Key.length e) x.1.Cur.Key.length (x.1.Cur.Key.map bV)∧x.1.Cur.Key.length≤1073741824∧w.ownsRow lo 3 1 (.slice f x.1.Cur.Win.Bits.length g) x.1.Cur.Win.Bits.length (x.1.Cur.Win.Bits.map iV)∧x.1.Cur.Win.Bits.length≤1073741824∧w.ownsRow lo 5 1 (.slice h x.1.Old.Key.length i) x.1.Old.Key.length (x.1.Old.Key.map bV)∧x.1.Old.Key.length≤1073741824∧w.ownsRow lo 3 1 (.slice j x.1.Old.Win.Bits.length k) x.1.Old.Win.Bits.length (x.1.Old.Win.Bits.map iV)∧x.1.Old.Win.Bits.length≤1073741824∧w.ownsRow lo 5 1 (.slice l x.1.Next.length m) x.1.Next.length (x.1.Next.map bV)∧x.1.Next.length≤1073741824∧Aps [(a,b),(d,e),(f,g),(h,i),(j,k),(l,m)]
theorem mR_9 {w:World} {x:ByteArray}:R_9 w (.string x) x:=rfl
def i_Want (a:PChan):(PChan)×(Bool):=bif (i_ChanOk a) then (bif (decide (a.Role=0)) then (bif (decide (0 < (a.Next.length:Int))) then (((a),false)) else (bif (decide (a.Cur.N=4294967295)) then (((a),false)) else (({Role:=(a).Role,Sn:=(a).Sn,Cur:=((a).Cur),Old:=((a).Old),HasOld:=(a).HasOld,Until:=(a).Until,Next:=(derive a.Cur.Key (ByteArray.mk ([114,101,107,101,121]:List UInt8).toArray)):PChan},true)))) else (((a),false))) else (((a),false))
theorem ciWant (O:World) (a3:Value) (a:PChan) (aS:R_30 O a3 a) :Fn Try.prog 15 #[a3] O (fun v a4=>Keep O a4∧O_30_4 a4 O.heap.size v (i_Want a)):=by
 obtain ⟨ae,af,P,Q,ah,ai,aj,ak,am,an,R,S,rfl,a5,a6,ay,az,a7,a8,a9,aA,aB,aC,a0,aD⟩:=aS
 refine fn_ofS (n:=34) [(va (L_30 a ae af P Q ah ai aj ak am an R S))] Try.func15 rfl rfl ?_
 refine sr ?_
 refine bx (L_30 a ae af P Q ah ai aj ak am an R S) wN ?_
 intro F b8 b9 aT d aU
 refine al Z_30 wN zero_30 ?_
 intro aV T aE K e aF
 have G:=((Ch.base O).extk d).extk e
 refine aw (vb false) ?_
 refine nx ?_
 have aG:=(aU.kp e)
 refine lN (L_30 a ae af P Q ah ai aj ak am an R S) wN isAgg_30 sizeOf_30 aG ?_
 refine cl wN (cicopyChan T _ a (mR_30 (a5.from0 G) a6 (ay.from0 G) az (a7.from0 G) a8 (a9.from0 G) aA (aB.from0 G) aC (a0.from0 G) aD)) ?_
 rintro _ ao ⟨m,⟨p,q,r,s,t,u,w,x,y,A,V,W,rfl,X,aH,Y,aI,Z,aJ,aa,aK,ab,aL,aM,aW,b⟩⟩
 refine al Z_30 wN zero_30 ?_
 intro aN bA B aX i aY
 refine sv (L_30 (a) p q r s t u w x y A V W) wN sizeOf_30 aY ?_
 intro aZ g aO bB
 have C:=((G.extk m).extk i).ext g (fun k hk=>by subst hk;exact nT (z3 d e m) B)
 refine n4 ?_
 refine jT1 [(1,(vp F 0)),(2,(vp aV 0)),(3,(vb false)),(4,(vp aN 0))] (i_Want a=((a),false)) ?_ fun ap=>?_
 ·intro ba aP aq bC
  refine sr ?_
  have bb:=(aO.kp aq)
  refine lN (L_30 (a) p q r s t u w x y A V W) wN isAgg_30 sizeOf_30 bb ?_
  have bc:=((((aF.kp m).kp i).ch g (nN (nL K (nT m.size B)))).kp aq)
  refine sv (L_30 (a) p q r s t u w x y A V W) wN sizeOf_30 bc ?_
  intro bd aQ be bD
  have bg:=(C.extk aq).ext aQ (fun k hk=>by subst hk;exact nT d.size aE)
  refine aw (vb false) ?_
  refine n1 ?_
  have L:=fun (E sz n:Nat) (v:Value) (ac:List Value) (o:World.ownsRow ao T.heap.size E sz v n ac) (M:World.ownsRow ao T.heap.size E sz v n ac)=>(own_ch (own_kp (own_ch (own_kp o i) g (ne2 M (B))) aq) aQ (ne1 M (K)))
  have bh:=(L _ _ _ _ _ X X)
  have bi:=(L _ _ _ _ _ Y Y)
  have bj:=(L _ _ _ _ _ Z Z)
  have bk:=(L _ _ _ _ _ aa aa)
  have bl:=(L _ _ _ _ _ ab ab)
  have bm:=(L _ _ _ _ _ aM aM)
  refine ret_2 (.inl rfl) (va (L_30 (a) p q r s t u w x y A V W)) (vb false) rfl (rv_c (L_30 (a) p q r s t u w x y A V W) rfl be isAgg_30 sizeOf_30) rfl ?_
  refine ⟨bg.keep0,?_⟩
  rw [ba]
  exact ⟨_,_,_,_,_,_,_,_,_,_,_,_,rfl,(own_lo bh (z2 d e)),aH,(own_lo bi (z2 d e)),aI,(own_lo bj (z2 d e)),aJ,(own_lo bk (z2 d e)),aK,(own_lo bl (z2 d e)),aL,(own_lo bm (z2 d e)),aW,⟨⟨(b.1.1),⟨(b.1.2.1),⟨(b.1.2.2.1),⟨(b.1.2.2.2.1),⟨(b.1.2.2.2.2.1),trivial⟩⟩⟩⟩⟩,⟨⟨(b.2.1.1),⟨(b.2.1.2.1),⟨(b.2.1.2.2.1),⟨(b.2.1.2.2.2.1),trivial⟩⟩⟩⟩,⟨⟨(b.2.2.1.1),⟨(b.2.2.1.2.1),⟨(b.2.2.1.2.2.1),trivial⟩⟩⟩,⟨⟨(b.2.2.2.1.1),⟨(b.2.2.2.1.2.1),trivial⟩⟩,⟨⟨(b.2.2.2.2.1.1),trivial⟩,⟨trivial,trivial⟩⟩⟩⟩⟩⟩⟩
 have aR:=(((aG.kp m).kp i).ch g (nN (nL aT (nT (z2 e m) B))))
 refine lN (L_30 a ae af P Q ah ai aj ak am an R S) wN isAgg_30 sizeOf_30 aR ?_
 refine cl wN (ciChanOk aZ _ a (mR_30 (a5.from0 C) a6 (ay.from0 C) az (a7.from0 C) a8 (a9.from0 C) aA (aB.from0 C) aC (a0.from0 C) aD)) ?_
 rintro _ aP ⟨f,rfl⟩
 have a1:=C.extk f
 refine pu (vb (!(i_ChanOk a))) wN ?_
 refine mw (vb (!(i_ChanOk a))) ?_
 rcases bf (i_ChanOk a) with j|j
 ·iterate 3 refine sk (cA not j) ?_
  refine pk (vb true) wN (cA not j) ?_
  refine mw (vb true) ?_
  iterate 4 refine sk (Eq.refl true) ?_
  refine pk (vb true) wN (Eq.refl true) ?_
  refine mw (vb true) ?_
  iterate 4 refine sk (Eq.refl true) ?_
  refine pk (vb true) wN (Eq.refl true) ?_
  refine n2 ?_
  refine ct (Eq.refl true) ?_
  have bn:i_Want a=((a),false):=by simp only [i_Want,j,cond_true,cond_false]
  exact wj (ap bn _ f)
 have bE:=impl_ChanOk_t j
 refine pu (vp F 0) (wS (cA not j)) ?_
 have au:=(aR.kp f)
 refine ld (vi a.Role) (wS (cA not j)) isAgg_3 au ?_
 refine pu (vb (!(decide (a.Role=0)))) (wS (cA not j)) ?_
 refine pf (vb (!(decide (a.Role=0)))) wN (cA not j) ?_
 refine mw (vb (!(decide (a.Role=0)))) ?_
 rcases bf (decide (a.Role=0)) with h|h
 ·have bF:=dF h
  iterate 4 refine sk (cA not h) ?_
  refine pk (vb true) wN (cA not h) ?_
  refine mw (vb true) ?_
  iterate 4 refine sk (Eq.refl true) ?_
  refine pk (vb true) wN (Eq.refl true) ?_
  refine n2 ?_
  refine ct (Eq.refl true) ?_
  have bo:i_Want a=((a),false):=by simp only [i_Want,j,h,cond_true,cond_false]
  exact wj (ap bo _ f)
 have bG:=dT h
 refine pu (vp F 14) (wS (cA not h)) ?_
 refine ld (vs R a.Next.length S) (wS (cA not h)) isAgg_22 au ?_
 refine ln (wS (cA not h)) slTy_22 (a0.from0 a1) ?_
 refine pu (vb (decide (0 < (a.Next.length:Int)))) (wS (cA not h)) ?_
 refine pf (vb (decide (0 < (a.Next.length:Int)))) wN (cA not h) ?_
 refine mw (vb (decide (0 < (a.Next.length:Int)))) ?_
 rcases bt (decide (0 < (a.Next.length:Int))) with l|l
 ·have bH:=dT l
  iterate 4 refine sk l ?_
  refine pk (vb true) wN l ?_
  refine n2 ?_
  refine ct (Eq.refl true) ?_
  have bp:i_Want a=((a),false):=by simp only [i_Want,j,h,l,cond_true,cond_false]
  exact wj (ap bp _ f)
 have bI:=dF l
 refine pu (vp F 2) (wS l) ?_
 refine pu (vp F 2) (wS l) ?_
 refine ld (vi a.Cur.N) (wS l) isAgg_3 au ?_
 refine pu (vb (decide (a.Cur.N=4294967295))) (wS l) ?_
 refine pf (vb (decide (a.Cur.N=4294967295))) wN l ?_
 refine n2 ?_
 rcases bt (decide (a.Cur.N=4294967295)) with H|H
 ·have bJ:=dT H
  refine ct H ?_
  have bq:i_Want a=((a),false):=by simp only [i_Want,j,h,l,H,cond_true,cond_false]
  exact wj (ap bq _ f)
 have bK:=dF H
 refine cf H ?_
 refine y1 ?_
 refine pu (vp F 2) wN ?_
 refine pu (vp F 3) wN ?_
 refine ld (vs P a.Cur.Key.length Q) wN isAgg_22 au ?_
 refine cl wN (ciDerive aP _ a.Cur.Key (mR_22 (ay.from0 a1) az) _ (ByteArray.mk ([114,101,107,101,121]:List UInt8).toArray) (mR_9) (by first|omega|decide)) ?_
 rintro _ bd ⟨av,⟨I,J,rfl,D,br,bL⟩⟩
 have bM:=derive_le a.Cur.Key (ByteArray.mk ([114,101,107,101,121]:List UInt8).toArray)
 refine pu (vp aN 14) wN ?_
 have bu:=((aO.kp f).kp av)
 refine st (vs I (derive a.Cur.Key (ByteArray.mk ([114,101,107,101,121]:List UInt8).toArray)).length J) [(vs I (derive a.Cur.Key (ByteArray.mk ([114,101,107,101,121]:List UInt8).toArray)).length J)] [(vi ((a).Role)),(vs p ((a).Sn).length q),(vi (((a).Cur).N)),(vs r (((a).Cur).Key).length s),(vi (((a).Cur).Seq)),(vi ((((a).Cur).Win).Top)),(vs t ((((a).Cur).Win).Bits).length u),(vi (((a).Old).N)),(vs w (((a).Old).Key).length x),(vi (((a).Old).Seq)),(vi ((((a).Old).Win).Top)),(vs y ((((a).Old).Win).Bits).length A),(vb ((a).HasOld)),(vi ((a).Until)),(vs I (derive a.Cur.Key (ByteArray.mk ([114,101,107,101,121]:List UInt8).toArray)).length J)] wN sizeOf_22 bu ?_
 intro bN ax bv bO
 have bw:=(a1.extk av).ext ax (fun k hk=>by subst hk;exact nT (z3 d e m) B)
 refine nx ?_
 refine lN [(vi ((a).Role)),(vs p ((a).Sn).length q),(vi (((a).Cur).N)),(vs r (((a).Cur).Key).length s),(vi (((a).Cur).Seq)),(vi ((((a).Cur).Win).Top)),(vs t ((((a).Cur).Win).Bits).length u),(vi (((a).Old).N)),(vs w (((a).Old).Key).length x),(vi (((a).Old).Seq)),(vi ((((a).Old).Win).Top)),(vs y ((((a).Old).Win).Bits).length A),(vb ((a).HasOld)),(vi ((a).Until)),(vs I (derive a.Cur.Key (ByteArray.mk ([114,101,107,101,121]:List UInt8).toArray)).length J)] wN isAgg_30 sizeOf_30 bv ?_
 have bz:=((((((aF.kp m).kp i).ch g (nN (nL K (nT m.size B)))).kp f).kp av).ch ax (nN (nL K (nT m.size B))))
 refine sv [(vi ((a).Role)),(vs p ((a).Sn).length q),(vi (((a).Cur).N)),(vs r (((a).Cur).Key).length s),(vi (((a).Cur).Seq)),(vi ((((a).Cur).Win).Top)),(vs t ((((a).Cur).Win).Bits).length u),(vi (((a).Old).N)),(vs w (((a).Old).Key).length x),(vi (((a).Old).Seq)),(vi ((((a).Old).Win).Top)),(vs y ((((a).Old).Win).Bits).length A),(vb ((a).HasOld)),(vi ((a).Until)),(vs I (derive a.Cur.Key (ByteArray.mk ([114,101,107,101,121]:List UInt8).toArray)).length J)] wN sizeOf_30 bz ?_
 intro bP a2 b0 bQ
 have b1:=bw.ext a2 (fun k hk=>by subst hk;exact nT d.size aE)
 refine aw (vb true) ?_
 refine n3 ?_
 have ad:=fun (E sz n:Nat) (v:Value) (ac:List Value) (o:World.ownsRow ao T.heap.size E sz v n ac) (M:World.ownsRow ao T.heap.size E sz v n ac)=>(own_ch (own_ch (own_kp (own_kp (own_ch (own_kp o i) g (ne2 M (B))) f) av) ax (ne2 M (B))) a2 (ne1 M (K)))
 have b2:=(ad _ _ _ _ _ X X)
 have b3:=(ad _ _ _ _ _ Y Y)
 have b4:=(ad _ _ _ _ _ Z Z)
 have b5:=(ad _ _ _ _ _ aa aa)
 have b6:=(ad _ _ _ _ _ ab ab)
 have b7:=(own_ch (own_ch D ax (ne1 D (nL aX (z2 g f)))) a2 (ne1 D (nL K (z4 m i g f))))
 refine ret_2 (.inl rfl) (va [(vi ((a).Role)),(vs p ((a).Sn).length q),(vi (((a).Cur).N)),(vs r (((a).Cur).Key).length s),(vi (((a).Cur).Seq)),(vi ((((a).Cur).Win).Top)),(vs t ((((a).Cur).Win).Bits).length u),(vi (((a).Old).N)),(vs w (((a).Old).Key).length x),(vi (((a).Old).Seq)),(vi ((((a).Old).Win).Top)),(vs y ((((a).Old).Win).Bits).length A),(vb ((a).HasOld)),(vi ((a).Until)),(vs I (derive a.Cur.Key (ByteArray.mk ([114,101,107,101,121]:List UInt8).toArray)).length J)]) (vb true) rfl (rv_c [(vi ((a).Role)),(vs p ((a).Sn).length q),(vi (((a).Cur).N)),(vs r (((a).Cur).Key).length s),(vi (((a).Cur).Seq)),(vi ((((a).Cur).Win).Top)),(vs t ((((a).Cur).Win).Bits).length u),(vi (((a).Old).N)),(vs w (((a).Old).Key).length x),(vi (((a).Old).Seq)),(vi ((((a).Old).Win).Top)),(vs y ((((a).Old).Win).Bits).length A),(vb ((a).HasOld)),(vi ((a).Until)),(vs I (derive a.Cur.Key (ByteArray.mk ([114,101,107,101,121]:List UInt8).toArray)).length J)] rfl b0 isAgg_30 sizeOf_30) rfl ?_
 refine ⟨b1.keep0,?_⟩
 simp only [i_Want,j,h,l,H,cond_true,cond_false]
 exact ⟨_,_,_,_,_,_,_,_,_,_,_,_,rfl,(own_lo b2 (z2 d e)),aH,(own_lo b3 (z2 d e)),aI,(own_lo b4 (z2 d e)),aJ,(own_lo b5 (z2 d e)),aK,(own_lo b6 (z2 d e)),aL,(own_lo b7 (z6 d e m i g f)),br,⟨⟨(b.1.1),⟨(b.1.2.1),⟨(b.1.2.2.1),⟨(b.1.2.2.2.1),⟨(Ap.lt X D (z3 i g f)),trivial⟩⟩⟩⟩⟩,⟨⟨(b.2.1.1),⟨(b.2.1.2.1),⟨(b.2.1.2.2.1),⟨(Ap.lt Y D (z3 i g f)),trivial⟩⟩⟩⟩,⟨⟨(b.2.2.1.1),⟨(b.2.2.1.2.1),⟨(Ap.lt Z D (z3 i g f)),trivial⟩⟩⟩,⟨⟨(b.2.2.2.1.1),⟨(Ap.lt aa D (z3 i g f)),trivial⟩⟩,⟨⟨(Ap.lt ab D (z3 i g f)),trivial⟩,⟨trivial,trivial⟩⟩⟩⟩⟩⟩⟩

def i_RekeyBody (a:Int):(List UInt8):=bif (i_within a 0 4294967295) then ((putN [] a 4)) else ([])
theorem ciRekeyBody (d:World) (a:Int) :Fn Try.prog 17 #[(vi a)] d (fun v e=>Keep d e∧O_22 e d.heap.size v (i_RekeyBody a)):=by
 refine fn_ofS (n:=8) [(vi a)] Try.func17 rfl rfl ?_
 refine sr ?_
 refine aw (vs none 0 0) ?_
 refine n4 ?_
 refine mw (vi a) ?_
 refine cl wN (ciwithin d a 0 4294967295) ?_
 rintro _ f ⟨g,rfl⟩
 have h:=(Ch.base d).extk g
 refine pu (vb (!(i_within a 0 4294967295))) wN ?_
 refine n2 ?_
 rcases bf (i_within a 0 4294967295) with b|b
 ·have p:=impl_within_f b
  refine ct (cA not b) ?_
  refine sr ?_
  refine aw (vs none 0 0) ?_
  refine n1 ?_
  refine rt (vs none 0 0) ?_
  refine ⟨h.keep0,?_⟩
  simp only [i_RekeyBody,b,cond_true,cond_false]
  exact ⟨_,_,rfl,(by first|exact own_nil _ _ _ _|exact OLv.nil _ _ _ _),(by simp),⟨trivial,trivial⟩⟩
 have q:=impl_within_t b
 refine cf (cA not b) ?_
 refine y1 ?_
 refine mw (vi a) ?_
 refine cl wN (ciPutN f _ _ (show R_22 f (vs none 0 0) [] from ⟨_,_,rfl,(Rd.nil _ _),(by simp)⟩) a 4 (by first|omega|(simp;done)|(simp;omega)|(simp only [List.length_append,List.length_cons,List.length_nil] at *;omega))) ?_
 rintro _ r ⟨k,⟨i,j,rfl,l,m,s⟩⟩
 have o:=h.extk k
 have t:=putN_len0 a 4
 refine aw (vs i (putN [] a 4).length j) ?_
 refine n3 ?_
 refine rt (vs i (putN [] a 4).length j) ?_
 refine ⟨o.keep0,?_⟩
 simp only [i_RekeyBody,b,cond_true,cond_false]
 exact ⟨_,_,rfl,(own_lo l g.size),m,⟨trivial,trivial⟩⟩

def KO_30_32_3 (w:World) (lo:Nat) (v:Value) (x:(PChan)×(PFrame)×(Int)) (k:Option Addr×Nat→Option Addr×Nat→Option Addr×Nat→Option Addr×Nat→Option Addr×Nat→Option Addr×Nat→Option Addr×Nat→Option Addr×Nat→Option Addr×Nat→Option Addr×Nat→Option Addr×Nat→Option Addr×Nat→Prop):Prop:=∃ (a:Option Addr) (b:Nat) (d:Option Addr) (e:Nat) (f:Option Addr) (g:Nat) (h:Option Addr) (i:Nat) (j:Option Addr) (l:Nat) (m:Option Addr) (o:Nat) (p:Option Addr) (q:Nat) (r:Option Addr) (s:Nat) (t:Option Addr) (u:Nat) (y:Option Addr) (A:Nat) (B:Option Addr) (C:Nat) (D:Option Addr) (E:Nat),v=.tuple #[.agg #[.int .i64 x.1.Role,.slice a x.1.Sn.length b,.int .i64 x.1.Cur.N,.slice d x.1.Cur.Key.length e,.int .i64 x.1.Cur.Seq,.int .i64 x.1.Cur.Win.Top,.slice f x.1.Cur.Win.Bits.length g,.int .i64 x.1.Old.N,.slice h x.1.Old.Key.length i,.int .i64 x.1.Old.Seq,.int .i64 x.1.Old.Win.Top,.slice j x.1.Old.Win.Bits.length l,.bool x.1.HasOld,.int .i64 x.1.Until,.slice m x.1.Next.length o],.agg #[.int .i64 x.2.1.Kind,.int .i64 x.2.1.Id,.slice p x.2.1.Cn.length q,.slice r x.2.1.Sn.length s,.int .i64 x.2.1.Tick,.slice t x.2.1.Cookie.length u,.slice y x.2.1.Proof.length A,.int .i64 x.2.1.Epoch,.int .i64 x.2.1.Seq,.slice B x.2.1.Body.length C,.slice D x.2.1.Tag.length E],.int .i64 x.2.2]∧w.ownsRow lo 5 1 (.slice a x.1.Sn.length b) x.1.Sn.length (x.1.Sn.map bV)∧x.1.Sn.length≤1073741824∧w.ownsRow lo 5 1 (.slice d x.1.Cur.Key.length e) x.1.Cur.Key.length (x.1.Cur.Key.map bV)∧x.1.Cur.Key.length≤1073741824∧w.ownsRow lo 3 1 (.slice f x.1.Cur.Win.Bits.length g) x.1.Cur.Win.Bits.length (x.1.Cur.Win.Bits.map iV)∧x.1.Cur.Win.Bits.length≤1073741824∧w.ownsRow lo 5 1 (.slice h x.1.Old.Key.length i) x.1.Old.Key.length (x.1.Old.Key.map bV)∧x.1.Old.Key.length≤1073741824∧w.ownsRow lo 3 1 (.slice j x.1.Old.Win.Bits.length l) x.1.Old.Win.Bits.length (x.1.Old.Win.Bits.map iV)∧x.1.Old.Win.Bits.length≤1073741824∧w.ownsRow lo 5 1 (.slice m x.1.Next.length o) x.1.Next.length (x.1.Next.map bV)∧x.1.Next.length≤1073741824∧w.ownsRow lo 5 1 (.slice p x.2.1.Cn.length q) x.2.1.Cn.length (x.2.1.Cn.map bV)∧x.2.1.Cn.length≤1073741824∧w.ownsRow lo 5 1 (.slice r x.2.1.Sn.length s) x.2.1.Sn.length (x.2.1.Sn.map bV)∧x.2.1.Sn.length≤1073741824∧w.ownsRow lo 5 1 (.slice t x.2.1.Cookie.length u) x.2.1.Cookie.length (x.2.1.Cookie.map bV)∧x.2.1.Cookie.length≤1073741824∧w.ownsRow lo 5 1 (.slice y x.2.1.Proof.length A) x.2.1.Proof.length (x.2.1.Proof.map bV)∧x.2.1.Proof.length≤1073741824∧w.ownsRow lo 5 1 (.slice B x.2.1.Body.length C) x.2.1.Body.length (x.2.1.Body.map bV)∧x.2.1.Body.length≤1073741824∧w.ownsRow lo 5 1 (.slice D x.2.1.Tag.length E) x.2.1.Tag.length (x.2.1.Tag.map bV)∧x.2.1.Tag.length≤1073741824∧Aps [(a,b),(d,e),(f,g),(h,i),(j,l),(m,o),(p,q),(r,s),(t,u),(y,A),(B,C),(D,E)]∧k (a,b) (d,e) (f,g) (h,i) (j,l) (m,o) (p,q) (r,s) (t,u) (y,A) (B,C) (D,E)
def i_AskRekey (a:PChan):(PChan)×(PFrame)×(Int):=bif (i_ChanOk a) then (bif (decide ((a.Next.length:Int)=0)) then (((a),{Kind:=0,Id:=0,Cn:=[],Sn:=[],Tick:=0,Cookie:=[],Proof:=[],Epoch:=0,Seq:=0,Body:=[],Tag:=[]:PFrame},6)) else ((((i_ChanSeal a 7 (i_RekeyBody (a.Cur.N+1))).1),((i_ChanSeal a 7 (i_RekeyBody (a.Cur.N+1))).2.1),(i_ChanSeal a 7 (i_RekeyBody (a.Cur.N+1))).2.2))) else (((a),{Kind:=0,Id:=0,Cn:=[],Sn:=[],Tick:=0,Cookie:=[],Proof:=[],Epoch:=0,Seq:=0,Body:=[],Tag:=[]:PFrame},6))
theorem ciAskRekey (T:World) (bd:Value) (a:PChan) (bO:R_30 T bd a) :Fn Try.prog 8 #[bd] T (fun v be=>Keep T be∧O_30_32_3 be T.heap.size v (i_AskRekey a)):=by
 obtain ⟨C,D,F,G,H,I,J,K,L,M,x,y,rfl,Y,Z,aa,ab,ac,ad,ae,af,ah,ai,X,aj⟩:=bO
 refine fn_ofS (n:=27) [(va (L_30 a C D F G H I J K L M x y))] Try.func8 rfl rfl ?_
 refine sr ?_
 refine bx (L_30 a C D F G H I J K L M x y) wN ?_
 intro O bg eH eI f bh
 refine al Z_30 wN zero_30 ?_
 intro bP eJ bi P g bj
 refine al Z_32 wN zero_32 ?_
 intro bQ bR Q bk d bl
 have t:=(((Ch.base T).extk f).extk g).extk d
 refine aw (vi 0) ?_
 refine n4 ?_
 refine jT1 [(1,(vp O 0)),(2,(vp bP 0)),(3,(vp bQ 0)),(4,(vi 0))] (i_AskRekey a=((a),{Kind:=0,Id:=0,Cn:=[],Sn:=[],Tick:=0,Cookie:=[],Proof:=[],Epoch:=0,Seq:=0,Body:=[],Tag:=[]:PFrame},6)) ?_ fun bm=>?_
 ·intro bS u q eK
  have A:=t.extk q
  refine sr ?_
  have bT:=(((bh.kp g).kp d).kp q)
  refine lN (L_30 a C D F G H I J K L M x y) wN isAgg_30 sizeOf_30 bT ?_
  refine cl wN (cicopyChan u _ a (mR_30 (Y.from0 A) Z (aa.from0 A) ab (ac.from0 A) ad (ae.from0 A) af (ah.from0 A) ai (X.from0 A) aj)) ?_
  rintro _ j ⟨ak,⟨am,an,ao,ap,aq,au,av,ax,ay,az,a0,a1,rfl,bn,bU,bo,bW,bp,bX,bq,bY,br,bZ,bu,ca,l⟩⟩
  refine pu (va Z_32) wN ?_
  have cb:=(((bj.kp d).kp q).kp ak)
  refine sv (L_30 (a) am an ao ap aq au av ax ay az a0 a1) wN sizeOf_30 cb ?_
  intro a2 a3 cc eL
  have cd:=(A.extk ak).ext a3 (fun k hk=>by subst hk;exact nT f.size bi)
  have ce:=(((bl.kp q).kp ak).ch a3 (Ne.symm (nN (nL P (Q)))))
  refine sv Z_32 wN sizeOf_32 ce ?_
  intro cg a4 ci eM
  have cj:=cd.ext a4 (fun k hk=>by subst hk;exact nT (z2 f g) Q)
  refine aw (vi 6) ?_
  refine n1 ?_
  have ck:=(cc.ch a4 (nN (nL P (Q))))
  have R:=fun (E sz n:Nat) (v:Value) (V:List Value) (o:World.ownsRow j u.heap.size E sz v n V) (W:World.ownsRow j u.heap.size E sz v n V)=>(own_ch (own_ch o a3 (ne1 W (nL P (z2 d q)))) a4 (ne1 W (nL bk q.size)))
  have cm:=(R _ _ _ _ _ bn bn)
  have cn:=(R _ _ _ _ _ bo bo)
  have co:=(R _ _ _ _ _ bp bp)
  have cp:=(R _ _ _ _ _ bq bq)
  have cq:=(R _ _ _ _ _ br br)
  have cr:=(R _ _ _ _ _ bu bu)
  refine ret_3 (.inl rfl) (va (L_30 (a) am an ao ap aq au av ax ay az a0 a1)) (va Z_32) (vi 6) rfl (rv_c (L_30 (a) am an ao ap aq au av ax ay az a0 a1) rfl ck isAgg_30 sizeOf_30) (rv_c Z_32 rfl ci isAgg_32 sizeOf_32) rfl ?_
  refine ⟨cj.keep0,?_⟩
  rw [bS]
  exact ⟨_,_,_,_,_,_,_,_,_,_,_,_,_,_,_,_,_,_,_,_,_,_,_,_,rfl,(own_lo cm (z4 f g d q)),bU,(own_lo cn (z4 f g d q)),bW,(own_lo co (z4 f g d q)),bX,(own_lo cp (z4 f g d q)),bY,(own_lo cq (z4 f g d q)),bZ,(own_lo cr (z4 f g d q)),ca,(by first|exact own_nil _ _ _ _|exact OLv.nil _ _ _ _),(by simp),(by first|exact own_nil _ _ _ _|exact OLv.nil _ _ _ _),(by simp),(by first|exact own_nil _ _ _ _|exact OLv.nil _ _ _ _),(by simp),(by first|exact own_nil _ _ _ _|exact OLv.nil _ _ _ _),(by simp),(by first|exact own_nil _ _ _ _|exact OLv.nil _ _ _ _),(by simp),(by first|exact own_nil _ _ _ _|exact OLv.nil _ _ _ _),(by simp),⟨⟨(l.1.1),⟨(l.1.2.1),⟨(l.1.2.2.1),⟨(l.1.2.2.2.1),⟨(l.1.2.2.2.2.1),⟨(Ap.nr _),⟨(Ap.nr _),⟨(Ap.nr _),⟨(Ap.nr _),⟨(Ap.nr _),⟨(Ap.nr _),trivial⟩⟩⟩⟩⟩⟩⟩⟩⟩⟩⟩,⟨⟨(l.2.1.1),⟨(l.2.1.2.1),⟨(l.2.1.2.2.1),⟨(l.2.1.2.2.2.1),⟨(Ap.nr _),⟨(Ap.nr _),⟨(Ap.nr _),⟨(Ap.nr _),⟨(Ap.nr _),⟨(Ap.nr _),trivial⟩⟩⟩⟩⟩⟩⟩⟩⟩⟩,⟨⟨(l.2.2.1.1),⟨(l.2.2.1.2.1),⟨(l.2.2.1.2.2.1),⟨(Ap.nr _),⟨(Ap.nr _),⟨(Ap.nr _),⟨(Ap.nr _),⟨(Ap.nr _),⟨(Ap.nr _),trivial⟩⟩⟩⟩⟩⟩⟩⟩⟩,⟨⟨(l.2.2.2.1.1),⟨(l.2.2.2.1.2.1),⟨(Ap.nr _),⟨(Ap.nr _),⟨(Ap.nr _),⟨(Ap.nr _),⟨(Ap.nr _),⟨(Ap.nr _),trivial⟩⟩⟩⟩⟩⟩⟩⟩,⟨⟨(l.2.2.2.2.1.1),⟨(Ap.nr _),⟨(Ap.nr _),⟨(Ap.nr _),⟨(Ap.nr _),⟨(Ap.nr _),⟨(Ap.nr _),trivial⟩⟩⟩⟩⟩⟩⟩,⟨⟨(Ap.nr _),⟨(Ap.nr _),⟨(Ap.nr _),⟨(Ap.nr _),⟨(Ap.nr _),⟨(Ap.nr _),trivial⟩⟩⟩⟩⟩⟩,⟨⟨(Ap.nl _),⟨(Ap.nl _),⟨(Ap.nl _),⟨(Ap.nl _),⟨(Ap.nl _),trivial⟩⟩⟩⟩⟩,⟨⟨(Ap.nl _),⟨(Ap.nl _),⟨(Ap.nl _),⟨(Ap.nl _),trivial⟩⟩⟩⟩,⟨⟨(Ap.nl _),⟨(Ap.nl _),⟨(Ap.nl _),trivial⟩⟩⟩,⟨⟨(Ap.nl _),⟨(Ap.nl _),trivial⟩⟩,⟨⟨(Ap.nl _),trivial⟩,⟨trivial,trivial⟩⟩⟩⟩⟩⟩⟩⟩⟩⟩⟩⟩⟩
 have bv:=((bh.kp g).kp d)
 refine lN (L_30 a C D F G H I J K L M x y) wN isAgg_30 sizeOf_30 bv ?_
 refine cl wN (ciChanOk bR _ a (mR_30 (Y.from0 t) Z (aa.from0 t) ab (ac.from0 t) ad (ae.from0 t) af (ah.from0 t) ai (X.from0 t) aj)) ?_
 rintro _ u ⟨i,rfl⟩
 have a5:=t.extk i
 refine pu (vb (!(i_ChanOk a))) wN ?_
 refine mw (vb (!(i_ChanOk a))) ?_
 rcases bf (i_ChanOk a) with r|r
 ·iterate 4 refine sk (cA not r) ?_
  refine pk (vb true) wN (cA not r) ?_
  refine n2 ?_
  refine ct (Eq.refl true) ?_
  have cs:i_AskRekey a=((a),{Kind:=0,Id:=0,Cn:=[],Sn:=[],Tick:=0,Cookie:=[],Proof:=[],Epoch:=0,Seq:=0,Body:=[],Tag:=[]:PFrame},6):=by simp only [i_AskRekey,r,cond_true,cond_false]
  exact wj (bm cs _ i)
 have eN:=impl_ChanOk_t r
 refine pu (vp O 14) (wS (cA not r)) ?_
 have a6:=(bv.kp i)
 refine ld (vs x a.Next.length y) (wS (cA not r)) isAgg_22 a6 ?_
 refine ln (wS (cA not r)) slTy_22 (X.from0 a5) ?_
 refine pu (vb (decide ((a.Next.length:Int)=0))) (wS (cA not r)) ?_
 refine pf (vb (decide ((a.Next.length:Int)=0))) wN (cA not r) ?_
 refine n2 ?_
 rcases bt (decide ((a.Next.length:Int)=0)) with B|B
 ·have eO:=dT B
  refine ct B ?_
  have cu:i_AskRekey a=((a),{Kind:=0,Id:=0,Cn:=[],Sn:=[],Tick:=0,Cookie:=[],Proof:=[],Epoch:=0,Seq:=0,Body:=[],Tag:=[]:PFrame},6):=by simp only [i_AskRekey,r,B,cond_true,cond_false]
  exact wj (bm cu _ i)
 have eP:=dF B
 refine cf B ?_
 refine wc_skip<|wq_then<|wc_seq ?_
 refine wc_draw ([(17,[],[],(fun _ v _=>v=(va (L_30 a C D F G H I J K L M x y)))),(18,[],[],(fun _ v _=>v=(vp O 2))),(19,[],[1],(fun _ v _=>v=(vp O 2))),(20,[],[1,2],(fun _ v _=>v=(vi a.Cur.N))),(21,[],[1,2,3],(fun _ v _=>v=(vi (a.Cur.N+1)))),(22,[],[1,2,3,4],(fun _ v w=>O_22 w u.heap.size v (i_RekeyBody (a.Cur.N+1)))),(23,[22],[0,1,2,3,4,5],(fun e v w=>KO_30_32_3 w u.heap.size v (i_ChanSeal a 7 (i_RekeyBody (a.Cur.N+1))) (fun cv cw cx cy cz c0 c1 c2 c3 c4 c5 c6=>Ap (sp (e 22)) cv∧Ap (sp (e 22)) cw∧Ap (sp (e 22)) cx∧Ap (sp (e 22)) cy∧Ap (sp (e 22)) cz∧Ap (sp (e 22)) c0∧Ap (sp (e 22)) c1∧Ap (sp (e 22)) c2∧Ap (sp (e 22)) c3∧Ap (sp (e 22)) c4∧Ap (sp (e 22)) c5∧Ap (sp (e 22)) c6))),(24,[23],[0,1,2,3,4,5,6],(fun e v _=>v=(.agg #[(vi (((i_ChanSeal a 7 (i_RekeyBody (a.Cur.N+1))).1).Role)),(cellAt (tupAt (e 23) 0) 1),(vi ((((i_ChanSeal a 7 (i_RekeyBody (a.Cur.N+1))).1).Cur).N)),(cellAt (tupAt (e 23) 0) 3),(vi ((((i_ChanSeal a 7 (i_RekeyBody (a.Cur.N+1))).1).Cur).Seq)),(vi (((((i_ChanSeal a 7 (i_RekeyBody (a.Cur.N+1))).1).Cur).Win).Top)),(cellAt (tupAt (e 23) 0) 6),(vi ((((i_ChanSeal a 7 (i_RekeyBody (a.Cur.N+1))).1).Old).N)),(cellAt (tupAt (e 23) 0) 8),(vi ((((i_ChanSeal a 7 (i_RekeyBody (a.Cur.N+1))).1).Old).Seq)),(vi (((((i_ChanSeal a 7 (i_RekeyBody (a.Cur.N+1))).1).Old).Win).Top)),(cellAt (tupAt (e 23) 0) 11),(vb (((i_ChanSeal a 7 (i_RekeyBody (a.Cur.N+1))).1).HasOld)),(vi (((i_ChanSeal a 7 (i_RekeyBody (a.Cur.N+1))).1).Until)),(cellAt (tupAt (e 23) 0) 14)]))),(25,[23],[0,1,2,3,4,5,6],(fun e v _=>v=(.agg #[(vi (((i_ChanSeal a 7 (i_RekeyBody (a.Cur.N+1))).2.1).Kind)),(vi (((i_ChanSeal a 7 (i_RekeyBody (a.Cur.N+1))).2.1).Id)),(cellAt (tupAt (e 23) 1) 2),(cellAt (tupAt (e 23) 1) 3),(vi (((i_ChanSeal a 7 (i_RekeyBody (a.Cur.N+1))).2.1).Tick)),(cellAt (tupAt (e 23) 1) 5),(cellAt (tupAt (e 23) 1) 6),(vi (((i_ChanSeal a 7 (i_RekeyBody (a.Cur.N+1))).2.1).Epoch)),(vi (((i_ChanSeal a 7 (i_RekeyBody (a.Cur.N+1))).2.1).Seq)),(cellAt (tupAt (e 23) 1) 9),(cellAt (tupAt (e 23) 1) 10)]))),(26,[],[0,1,2,3,4,5,6],(fun _ v _=>v=(vi ((i_ChanSeal a 7 (i_RekeyBody (a.Cur.N+1))).2.2))))]:GV) mixed rfl (by kernel_rfl) (by kernel_rfl) ?_ ?_ ?_
 ·exact ⟨hV,hE,⟨hV,hE,⟨hV,hE,⟨hV,hE,⟨hV,hE,⟨(fun e v w bg h hk=>by obtain ⟨a7,a8,he,a9,aA,hap⟩:=h;exact ⟨a7,a8,he,own_kp a9 hk,aA,hap⟩),hE,⟨(fun e v w bg h hk=>by obtain ⟨a7,a8,c7,c8,c9,cC,cD,cE,cF,cG,cH,cI,cJ,cK,cL,cM,cN,cO,cP,cQ,cR,cS,cT,cU,he,a9,aA,cV,cW,cX,cY,cZ,da,db,dc,dd,de,df,dg,dh,di,dj,dk,dl,dm,dn,dp,dq,dr,hap,hx⟩:=h;exact ⟨a7,a8,c7,c8,c9,cC,cD,cE,cF,cG,cH,cI,cJ,cK,cL,cM,cN,cO,cP,cQ,cR,cS,cT,cU,he,own_kp a9 hk,aA,own_kp cV hk,cW,own_kp cX hk,cY,own_kp cZ hk,da,own_kp db hk,dc,own_kp dd hk,de,own_kp df hk,dg,own_kp dh hk,di,own_kp dj hk,dk,own_kp dl hk,dm,own_kp dn hk,dp,own_kp dq hk,dr,hap,hx⟩),(fun bw bz v w hx h=>by have ds:=hx 22 (by simp);simp only [ds] at h;exact h),⟨hV,(fun bw bz v w hx h=>by have aB:=hx 23 (by simp);simp only [aB] at h;exact h),⟨hV,(fun bw bz v w hx h=>by have aB:=hx 23 (by simp);simp only [aB] at h;exact h),⟨hV,hE,trivial⟩⟩⟩⟩⟩⟩⟩⟩⟩⟩
 ·refine ⟨?_,⟨?_,⟨?_,⟨?_,⟨?_,⟨?_,⟨?_,⟨?_,⟨?_,⟨?_,trivial⟩⟩⟩⟩⟩⟩⟩⟩⟩⟩
  ·intro j dt
   rintro _ _ _ _ _ _ _ _ _ _
   refine sw ?_
   have du:=(a6.kp dt)
   refine lN (L_30 a C D F G H I J K L M x y) wN isAgg_30 sizeOf_30 du ?_
   exact f2
  ·intro j eQ
   rintro _ _ _ _ _ _ _ _ _ _
   refine sw ?_
   refine pu (vp O 2) wN ?_
   exact f2
  ·intro j eR
   rintro _ _ rfl _ _ _ _ _ _ _ _
   refine sw ?_
   refine pu (vp O 2) wN ?_
   exact f2
  ·intro j dv
   rintro _ _ rfl _ rfl _ _ _ _ _ _ _
   refine sw ?_
   have dw:=(a6.kp dv)
   refine ld (vi a.Cur.N) wN isAgg_3 dw ?_
   exact f2
  ·intro j eS
   rintro _ _ rfl _ rfl _ rfl _ _ _ _ _ _
   refine sw ?_
   refine ar (a.Cur.N+1) wN ?_
   exact f2
  ·intro j dx
   rintro _ _ rfl _ rfl _ rfl _ rfl _ _ _ _ _
   refine sw ?_
   refine cl wN (ciRekeyBody j (a.Cur.N+1)) ?_
   rintro _ a2 ⟨dy,⟨eT,eU,rfl,dz,d0,d1⟩⟩
   exact wl_fin dy ⟨_,_,rfl,(own_lo dz dx.size),d0,d1⟩
  ·intro j m
   have S:=a5.extk m
   rintro _ rfl _ rfl _ rfl _ rfl _ rfl _ ⟨eV,eW,rfl,p,d2,eX⟩ _ _ _ _
   refine sw ?_
   refine cl wN (ciChanSeal j _ a (mR_30 (Y.from0 S) Z (aa.from0 S) ab (ac.from0 S) ad (ae.from0 S) af (ah.from0 S) ai (X.from0 S) aj) 7 _ (i_RekeyBody (a.Cur.N+1)) (mR_22 (Rd.of_own p) d2)) ?_
   rintro _ a2 ⟨d3,⟨eY,eZ,fa,fb,fc,fd,fe,ff,fg,fh,fi,fj,fk,fl,fm,fo,fp,fq,fr,fs,ft,fu,fv,fw,rfl,b0,d4,b1,d5,b2,d6,b3,d7,b4,d8,b5,d9,b6,dA,b7,dB,b8,dC,b9,dD,bA,dE,bB,dG,dH⟩⟩
   exact wl_fin d3 ⟨_,_,_,_,_,_,_,_,_,_,_,_,_,_,_,_,_,_,_,_,_,_,_,_,rfl,(own_lo b0 m.size),d4,(own_lo b1 m.size),d5,(own_lo b2 m.size),d6,(own_lo b3 m.size),d7,(own_lo b4 m.size),d8,(own_lo b5 m.size),d9,(own_lo b6 m.size),dA,(own_lo b7 m.size),dB,(own_lo b8 m.size),dC,(own_lo b9 m.size),dD,(own_lo bA m.size),dE,(own_lo bB m.size),dG,dH,⟨(Ap.lt p b0 (Nat.le_refl _)),(Ap.lt p b1 (Nat.le_refl _)),(Ap.lt p b2 (Nat.le_refl _)),(Ap.lt p b3 (Nat.le_refl _)),(Ap.lt p b4 (Nat.le_refl _)),(Ap.lt p b5 (Nat.le_refl _)),(Ap.lt p b6 (Nat.le_refl _)),(Ap.lt p b7 (Nat.le_refl _)),(Ap.lt p b8 (Nat.le_refl _)),(Ap.lt p b9 (Nat.le_refl _)),(Ap.lt p bA (Nat.le_refl _)),(Ap.lt p bB (Nat.le_refl _))⟩⟩
  ·intro j fx
   rintro _ rfl _ rfl _ rfl _ rfl _ rfl _ ⟨fy,fz,rfl,_⟩ _ ⟨dI,dJ,dK,dL,dM,dN,dO,dP,dQ,dR,dS,dU,f0,f3,f4,f5,f6,f7,f8,f9,fA,fB,fC,fD,rfl,_⟩ _ _ _
   refine sw ?_
   refine pu (va (L_30 ((i_ChanSeal a 7 (i_RekeyBody (a.Cur.N+1))).1) dI dJ dK dL dM dN dO dP dQ dR dS dU)) wN ?_
   exact f2
  ·intro j fE
   rintro _ rfl _ rfl _ rfl _ rfl _ rfl _ ⟨fF,fG,rfl,_⟩ _ ⟨fH,fI,fJ,fK,fL,fM,fN,fO,fP,fQ,fR,fS,dV,dW,dX,dY,dZ,ea,ec,ed,ee,ef,eg,eh,rfl,_⟩ _ _ _
   refine sw ?_
   refine pu (va (L_32 ((i_ChanSeal a 7 (i_RekeyBody (a.Cur.N+1))).2.1) dV dW dX dY dZ ea ec ed ee ef eg eh)) wN ?_
   exact f2
  ·intro j fT
   rintro _ rfl _ rfl _ rfl _ rfl _ rfl _ ⟨fU,fV,rfl,_⟩ _ ⟨fW,fX,fY,fZ,ga,gb,gd,ge,gf,gg,gh,gi,gj,gk,gl,gm,gn,gp,gq,gr,gs,gt,gu,gv,rfl,_⟩ _ _ _
   refine sw ?_
   refine pu (vi ((i_ChanSeal a 7 (i_RekeyBody (a.Cur.N+1))).2.2)) wN ?_
   exact f2
 ·intro j aC
  rintro _ rfl _ rfl _ rfl _ rfl _ rfl _ ⟨gw,gx,rfl,_⟩ _ ⟨aD,aE,aF,aG,aH,aI,aJ,aK,aL,aM,aN,aO,aP,aQ,aR,aS,aT,aU,aV,aW,aX,aY,aZ,ba,rfl,bC,ej,bD,ek,bE,em,bF,en,bG,eo,bH,ep,bI,er,bJ,es,bK,et,bL,eu,bM,ew,bN,ex,b,gy⟩ _ rfl _ rfl _ rfl
  refine sw ?_
  have ey:=(((bj.kp d).kp i).kp aC)
  refine sv (L_30 ((i_ChanSeal a 7 (i_RekeyBody (a.Cur.N+1))).1) aD aE aF aG aH aI aJ aK aL aM aN aO) wN sizeOf_30 ey ?_
  intro a2 bb ez gz
  have e0:=(a5.extk aC).ext bb (fun k hk=>by subst hk;exact nT f.size bi)
  have e1:=(((bl.kp i).kp aC).ch bb (Ne.symm (nN (nL P (Q)))))
  refine sv (L_32 ((i_ChanSeal a 7 (i_RekeyBody (a.Cur.N+1))).2.1) aP aQ aR aS aT aU aV aW aX aY aZ ba) wN sizeOf_32 e1 ?_
  intro cg bc e2 g0
  have e3:=e0.ext bc (fun k hk=>by subst hk;exact nT (z2 f g) Q)
  refine aw (vi ((i_ChanSeal a 7 (i_RekeyBody (a.Cur.N+1))).2.2)) ?_
  refine n3 ?_
  have e4:=(ez.ch bc (nN (nL P (Q))))
  have s:=fun (E sz n:Nat) (v:Value) (V:List Value) (o:World.ownsRow j u.heap.size E sz v n V) (W:World.ownsRow j u.heap.size E sz v n V)=>(own_ch (own_ch o bb (ne1 W (nL P (z2 d i)))) bc (ne1 W (nL bk i.size)))
  have e5:=(s _ _ _ _ _ bC bC)
  have e6:=(s _ _ _ _ _ bD bD)
  have e7:=(s _ _ _ _ _ bE bE)
  have e8:=(s _ _ _ _ _ bF bF)
  have e9:=(s _ _ _ _ _ bG bG)
  have eA:=(s _ _ _ _ _ bH bH)
  have eB:=(s _ _ _ _ _ bI bI)
  have eC:=(s _ _ _ _ _ bJ bJ)
  have eD:=(s _ _ _ _ _ bK bK)
  have eE:=(s _ _ _ _ _ bL bL)
  have eF:=(s _ _ _ _ _ bM bM)
  have eG:=(s _ _ _ _ _ bN bN)
  refine ret_3 (.inl rfl) (va (L_30 ((i_ChanSeal a 7 (i_RekeyBody (a.Cur.N+1))).1) aD aE aF aG aH aI aJ aK aL aM aN aO)) (va (L_32 ((i_ChanSeal a 7 (i_RekeyBody (a.Cur.N+1))).2.1) aP aQ aR aS aT aU aV aW aX aY aZ ba)) (vi ((i_ChanSeal a 7 (i_RekeyBody (a.Cur.N+1))).2.2)) rfl (rv_c (L_30 ((i_ChanSeal a 7 (i_RekeyBody (a.Cur.N+1))).1) aD aE aF aG aH aI aJ aK aL aM aN aO) rfl e4 isAgg_30 sizeOf_30) (rv_c (L_32 ((i_ChanSeal a 7 (i_RekeyBody (a.Cur.N+1))).2.1) aP aQ aR aS aT aU aV aW aX aY aZ ba) rfl e2 isAgg_32 sizeOf_32) rfl ?_
  refine ⟨e3.keep0,?_⟩
  simp only [i_AskRekey,r,B,cond_true,cond_false]
  exact ⟨_,_,_,_,_,_,_,_,_,_,_,_,_,_,_,_,_,_,_,_,_,_,_,_,rfl,(own_lo e5 (z4 f g d i)),ej,(own_lo e6 (z4 f g d i)),ek,(own_lo e7 (z4 f g d i)),em,(own_lo e8 (z4 f g d i)),en,(own_lo e9 (z4 f g d i)),eo,(own_lo eA (z4 f g d i)),ep,(own_lo eB (z4 f g d i)),er,(own_lo eC (z4 f g d i)),es,(own_lo eD (z4 f g d i)),et,(own_lo eE (z4 f g d i)),eu,(own_lo eF (z4 f g d i)),ew,(own_lo eG (z4 f g d i)),ex,⟨⟨(b.1.1),⟨(b.1.2.1),⟨(b.1.2.2.1),⟨(b.1.2.2.2.1),⟨(b.1.2.2.2.2.1),⟨(b.1.2.2.2.2.2.1),⟨(b.1.2.2.2.2.2.2.1),⟨(b.1.2.2.2.2.2.2.2.1),⟨(b.1.2.2.2.2.2.2.2.2.1),⟨(b.1.2.2.2.2.2.2.2.2.2.1),⟨(b.1.2.2.2.2.2.2.2.2.2.2.1),trivial⟩⟩⟩⟩⟩⟩⟩⟩⟩⟩⟩,⟨⟨(b.2.1.1),⟨(b.2.1.2.1),⟨(b.2.1.2.2.1),⟨(b.2.1.2.2.2.1),⟨(b.2.1.2.2.2.2.1),⟨(b.2.1.2.2.2.2.2.1),⟨(b.2.1.2.2.2.2.2.2.1),⟨(b.2.1.2.2.2.2.2.2.2.1),⟨(b.2.1.2.2.2.2.2.2.2.2.1),⟨(b.2.1.2.2.2.2.2.2.2.2.2.1),trivial⟩⟩⟩⟩⟩⟩⟩⟩⟩⟩,⟨⟨(b.2.2.1.1),⟨(b.2.2.1.2.1),⟨(b.2.2.1.2.2.1),⟨(b.2.2.1.2.2.2.1),⟨(b.2.2.1.2.2.2.2.1),⟨(b.2.2.1.2.2.2.2.2.1),⟨(b.2.2.1.2.2.2.2.2.2.1),⟨(b.2.2.1.2.2.2.2.2.2.2.1),⟨(b.2.2.1.2.2.2.2.2.2.2.2.1),trivial⟩⟩⟩⟩⟩⟩⟩⟩⟩,⟨⟨(b.2.2.2.1.1),⟨(b.2.2.2.1.2.1),⟨(b.2.2.2.1.2.2.1),⟨(b.2.2.2.1.2.2.2.1),⟨(b.2.2.2.1.2.2.2.2.1),⟨(b.2.2.2.1.2.2.2.2.2.1),⟨(b.2.2.2.1.2.2.2.2.2.2.1),⟨(b.2.2.2.1.2.2.2.2.2.2.2.1),trivial⟩⟩⟩⟩⟩⟩⟩⟩,⟨⟨(b.2.2.2.2.1.1),⟨(b.2.2.2.2.1.2.1),⟨(b.2.2.2.2.1.2.2.1),⟨(b.2.2.2.2.1.2.2.2.1),⟨(b.2.2.2.2.1.2.2.2.2.1),⟨(b.2.2.2.2.1.2.2.2.2.2.1),⟨(b.2.2.2.2.1.2.2.2.2.2.2.1),trivial⟩⟩⟩⟩⟩⟩⟩,⟨⟨(b.2.2.2.2.2.1.1),⟨(b.2.2.2.2.2.1.2.1),⟨(b.2.2.2.2.2.1.2.2.1),⟨(b.2.2.2.2.2.1.2.2.2.1),⟨(b.2.2.2.2.2.1.2.2.2.2.1),⟨(b.2.2.2.2.2.1.2.2.2.2.2.1),trivial⟩⟩⟩⟩⟩⟩,⟨⟨(b.2.2.2.2.2.2.1.1),⟨(b.2.2.2.2.2.2.1.2.1),⟨(b.2.2.2.2.2.2.1.2.2.1),⟨(b.2.2.2.2.2.2.1.2.2.2.1),⟨(b.2.2.2.2.2.2.1.2.2.2.2.1),trivial⟩⟩⟩⟩⟩,⟨⟨(b.2.2.2.2.2.2.2.1.1),⟨(b.2.2.2.2.2.2.2.1.2.1),⟨(b.2.2.2.2.2.2.2.1.2.2.1),⟨(b.2.2.2.2.2.2.2.1.2.2.2.1),trivial⟩⟩⟩⟩,⟨⟨(b.2.2.2.2.2.2.2.2.1.1),⟨(b.2.2.2.2.2.2.2.2.1.2.1),⟨(b.2.2.2.2.2.2.2.2.1.2.2.1),trivial⟩⟩⟩,⟨⟨(b.2.2.2.2.2.2.2.2.2.1.1),⟨(b.2.2.2.2.2.2.2.2.2.1.2.1),trivial⟩⟩,⟨⟨(b.2.2.2.2.2.2.2.2.2.2.1.1),trivial⟩,⟨trivial,trivial⟩⟩⟩⟩⟩⟩⟩⟩⟩⟩⟩⟩⟩

theorem ciDiff (f:World) (w:Value) (d:List UInt8) (D:R_22 f w d) (y:Value) (e:List UInt8) (E:R_22 f y e) :Fn Try.prog 29 #[w,y] f (fun v o=>Keep f o∧O_3 o f.heap.size v (diffP d e)):=by
 obtain ⟨i,j,rfl,s,R⟩:=D
 obtain ⟨l,m,rfl,t,S⟩:=E
 refine fn_ofS (n:=31) [(vs i d.length j),(vs l e.length m)] Try.func29 rfl rfl ?_
 refine sr ?_
 refine aw (vi 0) ?_
 refine n4 ?_
 refine mw (vs i d.length j) ?_
 refine ln wN slTy_22 s ?_
 refine mw (vs l e.length m) ?_
 refine ln wN slTy_22 t ?_
 refine pu (vb (!(decide ((d.length:Int)=(e.length:Int))))) wN ?_
 refine n2 ?_
 rcases bf (decide ((d.length:Int)=(e.length:Int))) with q|q
 ·have T:=dF q
  refine ct (cA not q) ?_
  refine sr ?_
  refine aw (vi (-1)) ?_
  refine n1 ?_
  refine rt (vi (-1)) ?_
  refine ⟨Ch.refl _ _,?_⟩
  have F:diffP d e=(-1):=by first|exact diffP_f (by omega)|exact diffP_t (by omega) (by omega) (by omega)
  rw [F]
  exact rfl
 have V:=dT q
 refine cf (cA not q) ?_
 refine y1 ?_
 refine aw (vi 0) ?_
 refine n4 ?_
 refine mw (vs i d.length j) ?_
 refine ln wN slTy_22 s ?_
 refine mw (vi 0) ?_
 refine wl_nil<|wq_then<|wc_block ?_
 refine wc_loopP [(0,(vs i d.length j)),(1,(vs l e.length m)),(4,(vi 0)),(5,(vi (orX d e 0))),(13,(vi (d.length:Int))),(14,(vi ((0:Nat):Int)))] ⟨rfl,rfl,rfl,(cA (Value.int .i64) (show (0:Int)=(orX d e 0) by rfl)),rfl,(cA (Value.int .i64) (show (0:Int)=((0:Nat):Int) by omega)),trivial⟩ (fun e' o=>∃ (k:Nat) (A:Env),e'=pt A [(0,(vs i d.length j)),(1,(vs l e.length m)),(4,(vi 0)),(5,(vi (orX d e k))),(13,(vi (d.length:Int))),(14,(vi ((k:Nat):Int)))]∧Ch (fun k=>f.heap.size≤k) f o∧Ch (fun k=>f.heap.size≤k) f o∧k≤d.length) (fun e' _=>d.length - ((intOf (e' 14))).toNat) ?_ ?_
 ·exact fun u=>⟨0,u,rfl,(Ch.base f),(Ch.refl (fun k=>f.heap.size≤k) f),(by omega)⟩
 ·rintro _ B ⟨k,A,rfl,p,G,W⟩
  have hob:=orX_b d e k
  have X:(d.getD k 0^^^e.getD k 0).toNat < 256:=UInt8.toNat_lt _
  refine sr ?_
  refine pu (vb (decide (((k:Nat):Int) < (d.length:Int)))) wN ?_
  refine wl_nil<|wq_then<|wc_seq ?_
  rcases bf (decide (((k:Nat):Int) < (d.length:Int))) with r|r
  ·have Y:=dF r
   refine cf r ?_
   refine wc_exit<|wq_then_exit<|wq_then_exit<|wq_blk_exit<|wq_then<|sr ?_
   refine mw (vi (orX d e k)) ?_
   refine aw (vi (orX d e k)) ?_
   refine n3 ?_
   refine rt (vi (orX d e k)) ?_
   refine ⟨p.keep0,?_⟩
   have H:diffP d e=(orX d e k):=by first|exact diffP_f (by omega)|exact diffP_t (by omega) (by omega) (by omega)
   rw [H]
   exact rfl
  have Z:=dT r
  refine ct r ?_
  refine wc_skip<|wq_then<|wc_seq<|wc_block<|sr ?_
  refine mw (vi ((k:Nat):Int)) ?_
  refine aw (vi ((k:Nat):Int)) ?_
  refine n2 ?_
  refine wc_drawT ([(17,[],[],(fun _ v _=>v=(vi (orX d e k)))),(18,[],[],(fun _ v _=>v=(vs i d.length j))),(19,[],[],(fun _ v _=>v=(vi ((k:Nat):Int)))),(20,[],[1,2],(fun _ v _=>v=(ve (vs i d.length j) ((((k:Nat):Int)).toNat*1)))),(21,[],[1,2,3],(fun _ v _=>v=(v8 ((d.getD k 0).toNat:Int)))),(22,[],[],(fun _ v _=>v=(vs l e.length m))),(23,[],[],(fun _ v _=>v=(vi ((k:Nat):Int)))),(24,[],[5,6],(fun _ v _=>v=(ve (vs l e.length m) ((((k:Nat):Int)).toNat*1)))),(25,[],[5,6,7],(fun _ v _=>v=(v8 ((e.getD k 0).toNat:Int)))),(26,[],[1,2,3,4,5,6,7,8],(fun _ v _=>v=(v8 (((d.getD k 0)^^^(e.getD k 0)).toNat:Int)))),(27,[],[1,2,3,4,5,6,7,8,9],(fun _ v _=>v=(vi (((d.getD k 0)^^^(e.getD k 0)).toNat:Int))))]:GV) (fun _ o=>Keep B o) [] mixed rfl (by kernel_rfl) (by kernel_rfl) ?_ (fun _ _ h=>h) (fun _ _ _ _ h _ k=>h.trans k) trivial ?_ ?_ ?_
  ·exact ⟨hV,hE,⟨hV,hE,⟨hV,hE,⟨hV,hE,⟨hV,hE,⟨hV,hE,⟨hV,hE,⟨hV,hE,⟨hV,hE,⟨hV,hE,⟨hV,hE,trivial⟩⟩⟩⟩⟩⟩⟩⟩⟩⟩⟩
  ·exact trivial
  ·refine ⟨?_,⟨?_,⟨?_,⟨?_,⟨?_,⟨?_,⟨?_,⟨?_,⟨?_,⟨?_,⟨?_,trivial⟩⟩⟩⟩⟩⟩⟩⟩⟩⟩⟩
   ·intro _ g aa _
    rintro _ _ _ _ _ _ _ _ _ _ _
    refine sw ?_
    refine mw (vi (orX d e k)) ?_
    exact f1
   ·intro _ g ab _
    rintro _ _ _ _ _ _ _ _ _ _ _
    refine sw ?_
    refine mw (vs i d.length j) ?_
    exact f1
   ·intro _ g ac _
    rintro _ _ _ _ _ _ _ _ _ _ _
    refine sw ?_
    refine mw (vi ((k:Nat):Int)) ?_
    exact f1
   ·intro _ g I _
    have J:=p.extk I
    rintro _ _ rfl _ rfl _ _ _ _ _ _ _ _
    refine sw ?_
    refine ix wN ((k:Nat):Int) slTy_22 (s.from0 J) ?_
    exact f1
   ·intro _ g K _
    have L:=p.extk K
    rintro _ _ rfl _ rfl _ rfl _ _ _ _ _ _ _
    refine sw ?_
    refine eb (x:=d) k wN isAgg_5 (s.from0 L) ?_
    exact f1
   ·intro _ g ad _
    rintro _ _ _ _ _ _ _ _ _ _ _
    refine sw ?_
    refine mw (vs l e.length m) ?_
    exact f1
   ·intro _ g ae _
    rintro _ _ _ _ _ _ _ _ _ _ _
    refine sw ?_
    refine mw (vi ((k:Nat):Int)) ?_
    exact f1
   ·intro _ g M _
    have N:=p.extk M
    rintro _ _ _ _ _ _ rfl _ rfl _ _ _ _
    refine sw ?_
    refine ix wN ((k:Nat):Int) slTy_22 (t.from0 N) ?_
    exact f1
   ·intro _ g O _
    have P:=p.extk O
    rintro _ _ _ _ _ _ rfl _ rfl _ rfl _ _ _
    refine sw ?_
    refine eb (x:=e) k wN isAgg_5 (t.from0 P) ?_
    exact f1
   ·intro _ g af _
    rintro _ _ rfl _ rfl _ rfl _ rfl _ rfl _ rfl _ rfl _ rfl _ _
    refine sw ?_
    refine wl_xor8 (d.getD k 0) (e.getD k 0) wN rfl rfl (by kernel_rfl) ?_
    exact f1
   ·intro _ g ah _
    rintro _ _ rfl _ rfl _ rfl _ rfl _ rfl _ rfl _ rfl _ rfl _ rfl _
    refine sw ?_
    refine ar (((d.getD k 0)^^^(e.getD k 0)).toNat:Int) wN ?_
    exact f1
  ·intro _ g C
   have Q:=p.extk C
   rintro _ rfl _ rfl _ rfl _ rfl _ rfl _ rfl _ rfl _ rfl _ rfl _ rfl _ rfl
   refine sw ?_
   refine wl_or (orX d e k) (((d.getD k 0)^^^(e.getD k 0)).toNat:Int) wN rfl rfl (by kernel_rfl) (by omega) (by omega) (by omega) (by omega) ?_
   have ai:=orI_b (a:=(orX d e k)) (b:=(((d.getD k 0)^^^(e.getD k 0)).toNat:Int)) (by omega) (by omega)
   refine aw (vi (orI (orX d e k) (((d.getD k 0)^^^(e.getD k 0)).toNat:Int))) ?_
   refine wl_nil<|wq_blk_normal<|wq_then<|wc_region ?_
   refine ar (((k:Nat):Int)+1) wN ?_
   refine mw (vi (((k:Nat):Int)+1)) ?_
   refine wl_nil ?_
   refine wq_loopP (w0:=B) [(0,(vs i d.length j)),(1,(vs l e.length m)),(4,(vi 0)),(5,(vi (orX d e (k+1)))),(13,(vi (d.length:Int))),(14,(vi (((k+1):Nat):Int)))] ?_ ?_ ?_
   · exact ⟨rfl,rfl,rfl,(cA (Value.int .i64) (show ((orI (orX d e k) (((d.getD k 0)^^^(e.getD k 0)).toNat:Int)):Int)=(orX d e (k+1)) by rfl)),rfl,(cA (Value.int .i64) (show ((((k:Nat):Int)+1):Int)=(((k+1):Nat):Int) by omega)),trivial⟩
   · exact fun u=>⟨(k+1),u,rfl,Q,(((Ch.refl (fun k=>f.heap.size≤k) f).ext G (fun k hk=>hk)).extk C),(by omega)⟩
   · show d.length - ((((k+1):Nat):Int)).toNat < d.length - (((k:Nat):Int)).toNat;omega

def i_WinMay (a:PWin) (b:Int):(Bool):=bif (iWin a) then (bif (i_within b 0 281474976710655) then (bif (decide (a.Top < b)) then (true) else (bif (decide (((a.Top - 1024)+1)≤b)) then (!(i_hasBit a b)) else (false))) else (false)) else (false)
theorem ciWinMay (h:World) (r:Value) (a:PWin) (A:R_26 h r a) (b:Int) :Fn Try.prog 69 #[r,(vi b)] h (fun v s=>Keep h s∧O_4 s h.heap.size v (i_WinMay a b)):=by
 obtain ⟨i,j,rfl,t,u⟩:=A
 refine fn_ofS (n:=31) [(va (L_26 a i j)),(vi b)] Try.func69 rfl rfl ?_
 refine sr ?_
 refine bx (L_26 a i j) wN ?_
 intro m B L M C w
 have o:=(Ch.base h).extk C
 refine aw (vb false) ?_
 refine n4 ?_
 refine jT1 [(1,(vi b)),(2,(vp m 0)),(4,(vb false))] (i_WinMay a b=false) ?_ fun x=>?_
 ·intro D y E N
  have F:=o.extk E
  refine sr ?_
  refine aw (vb false) ?_
  refine n1 ?_
  refine rt (vb false) ?_
  refine ⟨F.keep0,?_⟩
  rw [D]
  exact rfl
 refine lN (L_26 a i j) wN isAgg_26 sizeOf_26 w ?_
 refine cl wN (ciWinOk B _ a (mR_26 (t.from0 o) u)) ?_
 rintro _ y ⟨k,rfl⟩
 refine pu (vb (!(iWin a))) wN ?_
 refine mw (vb (!(iWin a))) ?_
 rcases bf (iWin a) with e|e
 ·iterate 3 refine sk (cA not e) ?_
  refine pk (vb true) wN (cA not e) ?_
  refine n2 ?_
  refine ct (Eq.refl true) ?_
  have G:i_WinMay a b=false:=by simp only [i_WinMay,e,cond_true,cond_false]
  exact wj (x G _ k)
 have O:=iWin_t e
 refine mv (vi b) (wS (cA not e)) ?_
 refine cl (wS (cA not e)) (ciwithin y b 0 281474976710655) ?_
 rintro _ H ⟨p,rfl⟩
 have l:=(o.extk k).extk p
 refine pu (vb (!(i_within b 0 281474976710655))) (wS (cA not e)) ?_
 refine pf (vb (!(i_within b 0 281474976710655))) wN (cA not e) ?_
 refine n2 ?_
 rcases bf (i_within b 0 281474976710655) with g|g
 ·have P:=impl_within_f g
  refine ct (cA not g) ?_
  have I:i_WinMay a b=false:=by simp only [i_WinMay,e,g,cond_true,cond_false]
  exact wj (x I _ (k.trans p))
 have Q:=impl_within_t g
 refine cf (cA not g) ?_
 refine y1 ?_
 refine mw (vi b) ?_
 refine pu (vp m 0) wN ?_
 have q:=((w.kp k).kp p)
 refine ld (vi a.Top) wN isAgg_3 q ?_
 refine pu (vb (decide (a.Top < b))) wN ?_
 refine mw (vb (decide (a.Top < b))) ?_
 rcases bt (decide (a.Top < b)) with d|d
 ·have R:=dT d
  iterate 7 refine sk d ?_
  refine su ?_
  refine su ?_
  refine su ?_
  refine su ?_
  refine sk d ?_
  refine pk (vb true) wN d ?_
  refine aw (vb true) ?_
  refine n3 ?_
  refine rt (vb true) ?_
  refine ⟨l.keep0,?_⟩
  simp only [i_WinMay,e,g,d,cond_true,cond_false]
  exact rfl
 have S:=dF d
 refine mv (vi b) (wS d) ?_
 refine pu (vp m 0) (wS d) ?_
 refine ld (vi a.Top) (wS d) isAgg_3 q ?_
 refine ar (a.Top - 1024) (wS d) ?_
 refine ar ((a.Top - 1024)+1) (wS d) ?_
 refine pu (vb (decide (((a.Top - 1024)+1)≤b))) (wS d) ?_
 refine mv (vb (decide (((a.Top - 1024)+1)≤b))) (wS d) ?_
 rcases bf (decide (((a.Top - 1024)+1)≤b)) with f|f
 ·have T:=dF f
  iterate 4 refine sk f ?_
  refine pf (vb false) (wS d) f ?_
  refine pf (vb false) wN d ?_
  refine aw (vb false) ?_
  refine n3 ?_
  refine rt (vb false) ?_
  refine ⟨l.keep0,?_⟩
  simp only [i_WinMay,e,g,d,f,cond_true,cond_false]
  exact rfl
 have V:=dT f
 refine lN (L_26 a i j) (wS f) isAgg_26 sizeOf_26 q ?_
 refine mv (vi b) (wS f) ?_
 refine cl (wS f) (cihasBit H _ a (mR_26 (t.from0 l) u) b (by first|assumption|omega) (by first|assumption|omega)) ?_
 rintro _ W ⟨J,rfl⟩
 have K:=l.extk J
 refine pu (vb (!(i_hasBit a b))) (wS f) ?_
 refine pk (vb (!(i_hasBit a b))) (wS d) f ?_
 refine pf (vb (!(i_hasBit a b))) wN d ?_
 refine aw (vb (!(i_hasBit a b))) ?_
 refine n3 ?_
 refine rt (vb (!(i_hasBit a b))) ?_
 refine ⟨K.keep0,?_⟩
 simp only [i_WinMay,e,g,d,f,cond_true,cond_false]
 exact rfl
theorem iMay_t {w:PWin} {n:Int} (h:i_WinMay w n=true):allW w.Bits=true∧w.Bits.length=32 ∧ -1≤w.Top∧w.Top≤281474976710655∧0≤n∧n≤281474976710655:=by
  unfold i_WinMay at h
  cases h1:iWin w with
  | false=>simp only [h1,cond_false] at h;cases h
  | true =>
    cases h2:i_within n 0 281474976710655 with
    | false=>simp only [h1,h2,cond_true,cond_false] at h;cases h
    | true =>
      have a:=iWin_t h1
      have b:=impl_within_t h2
      exact ⟨a.1,a.2.1,a.2.2.1,a.2.2.2,b.1,b.2⟩
end Go.Proofs.Ytacoceibbheccaa.K
