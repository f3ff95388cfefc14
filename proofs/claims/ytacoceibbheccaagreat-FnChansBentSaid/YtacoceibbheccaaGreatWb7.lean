import Derived.Test.YtacoceibbheccaaGreatWb6
namespace Go.Proofs.YtacoceibbheccaaGreat.K
open Go.RowKit
set_option linter.unusedVariables false
set_option linter.unusedSimpArgs false
set_option maxRecDepth 100000
set_option maxHeartbeats 4000000
theorem AL (e:World) (u:Value) (a:List UInt8) (V:pI e u a) (x:Value) (b:List UInt8) (W:pI e x b) :Fn Tryz.prog 148 #[u,x] e (fun v y=>Keep e y∧rr y e.heap.size v (pQ a b)):=by
 obtain ⟨i,j,rfl,A,X⟩:=V
 obtain ⟨f,g,rfl,B,Y⟩:=W
 refine nu (n:=27) [(vs i a.length j),(vs f b.length g)] Tryz.func148 rfl rfl ?_
 refine sr<|aw (vs none 0 0) ?_
 refine n4<|jT1 [(0,(vs i a.length j)),(1,(vs f b.length g)),(4,(vs none 0 0))] (pQ a b=[]) ?_ fun C=>?_
 ·intro Z D aa aA
  have ab:=(Ch.base e).extk aa
  refine sr<|aw (vs none 0 0) ?_
  refine n1<|rt (vs none 0 0) ?_
  refine ⟨ab.keep0,?_⟩
  rw [Z]
  exact ⟨_,_,rfl,(nM _ _ _ _),(by simp),⟨trivial,trivial⟩⟩
 refine mw (vs i a.length j) ?_
 refine ln wN mR A ?_
 refine pu (vb (decide (1048576 < (a.length:Int)))) wN ?_
 refine mw (vb (decide (1048576 < (a.length:Int)))) ?_
 rcases bt (decide (1048576 < (a.length:Int))) with d|d
 ·have aB:=dT d
  iterate 3 refine sk d ?_
  refine pk vT wN d ?_
  refine n2<|ct T1 ?_
  have ac:pQ a b=[]:=by first|exact uo (by omega)|exact un (by omega) (by omega)|exact yz (by omega) (by omega)
  exact wj (C ac _ (Ch.refl _ _))
 have aC:=dF d
 refine mv (vs f b.length g) (wS d) ?_
 refine ln (wS d) mR B ?_
 refine pu (vb (decide (1048512 < (b.length:Int)))) (wS d) ?_
 refine pf (vb (decide (1048512 < (b.length:Int)))) wN d ?_
 refine n2 ?_
 rcases bt (decide (1048512 < (b.length:Int))) with h|h
 ·have aD:=dT h
  refine ct h ?_
  have ad:pQ a b=[]:=by first|exact uo (by omega)|exact un (by omega) (by omega)|exact yz (by omega) (by omega)
  exact wj (C ad _ (Ch.refl _ _))
 have aE:=dF h
 refine cf h<|y1<|mw (vs i a.length j) ?_
 refine cl wN (xN e _ a (nH A X)) ?_
 rintro _ D ⟨E,⟨o,p,rfl,F,G,aF⟩⟩
 have aG:=rZ a
 refine aw (vs o (nc a).length p) ?_
 refine nx<|mw (vs o (nc a).length p) ?_
 refine cl wN (xc D _ (nc a) (nH (Rd.of_own F) G) 92) ?_
 rintro _ ae ⟨q,⟨H,I,rfl,af,ah,aH⟩⟩
 have ai:=((Ch.base e).extk E).extk q
 have aI:=ou (nc a) 92
 refine mw (vs o (nc a).length p) ?_
 have aj:=(mz F q)
 refine cl wN (xc ae _ (nc a) (nH (Rd.of_own aj) G) 54) ?_
 rintro _ aJ ⟨r,⟨J,K,rfl,ak,am,aK⟩⟩
 have aL:=ou (nc a) 54
 refine mw (vs f b.length g) ?_
 refine sh [(vs J (om (nc a) 54).length K),(vs f b.length g)] wN rfl rfl qG (m:=2) rfl (by simp only [maxLen];omega) (fun w=>by kernel_rfl) ?_
 intro aM an k M
 obtain ⟨aN,aO,rfl⟩:=pe M
 have N:=(ai.extk r).extk k
 have ao:=(mz ak k)
 refine cl wN (rz an _ [(om (nc a) 54),b] (tF (RLv.mk (L:=vh) [((om (nc a) 54),[(J,K)]),(b,[(f,g)])] (Rd.of_own M) rfl ⟨⟨⟨(Rd.of_own ao),am⟩,trivial⟩,⟨⟨⟨(B.from0 N),Y⟩,trivial⟩,trivial⟩⟩ (by first|decide|exact Nat.le_of_ble_eq_true rfl)) (by first|decide|exact Nat.le_of_ble_eq_true rfl)) (by first|omega|(rw [pG];omega)|(rw [pG];simp only [List.length_cons,List.length_nil,ou];omega)|(rw [rv];simp only [List.length_cons,List.length_nil,ou];omega)|(simp only [ns,List.flatten_cons,List.flatten_nil,List.length_append,List.length_cons,List.length_nil,ou];omega))) ?_
 rintro _ ap ⟨s,⟨aP,aQ,rfl,aq,au,aR⟩⟩
 have aS:=(show (ns [(om (nc a) 54),b]).length=(om (nc a) 54).length+b.length by simp only [ns,List.flatten_cons,List.flatten_nil,List.length_append,List.length_cons,List.length_nil];omega)
 refine cl wN (Bw ap _ (ns [(om (nc a) 54),b]) (nH (Rd.of_own aq) au)) ?_
 rintro _ aT ⟨t,⟨O,P,rfl,av,ax,aU⟩⟩
 have ay:=(N.extk s).extk t
 have aV:=tb (ns [(om (nc a) 54),b])
 refine sh [(vs H (om (nc a) 92).length I),(vs O (sha (ns [(om (nc a) 54),b])).length P)] wN rfl rfl qG (m:=2) rfl (by simp only [maxLen];omega) (fun w=>by kernel_rfl) ?_
 intro aW az l Q
 obtain ⟨aX,aY,rfl⟩:=pe Q
 have a0:=(mz av l)
 have a1:=(mz (mz (mz (mz (mz af r) k) s) t) l)
 refine cl wN (rz az _ [(om (nc a) 92),(sha (ns [(om (nc a) 54),b]))] (tF (RLv.mk (L:=vh) [((om (nc a) 92),[(H,I)]),((sha (ns [(om (nc a) 54),b])),[(O,P)])] (Rd.of_own Q) rfl ⟨⟨⟨(Rd.of_own a1),ah⟩,trivial⟩,⟨⟨⟨(Rd.of_own a0),ax⟩,trivial⟩,trivial⟩⟩ (by first|decide|exact Nat.le_of_ble_eq_true rfl)) (by first|decide|exact Nat.le_of_ble_eq_true rfl)) (by first|omega|(rw [pG];omega)|(rw [pG];simp only [List.length_cons,List.length_nil,ou];omega)|(rw [rv];simp only [List.length_cons,List.length_nil,ou];omega)|(simp only [ns,List.flatten_cons,List.flatten_nil,List.length_append,List.length_cons,List.length_nil,ou];omega))) ?_
 rintro _ a2 ⟨R,⟨aZ,ba,rfl,a3,a4,bb⟩⟩
 have bc:=(show (ns [(om (nc a) 92),(sha (ns [(om (nc a) 54),b]))]).length=(om (nc a) 92).length+(sha (ns [(om (nc a) 54),b])).length by simp only [ns,List.flatten_cons,List.flatten_nil,List.length_append,List.length_cons,List.length_nil];omega)
 refine cl wN (Bw a2 _ (ns [(om (nc a) 92),(sha (ns [(om (nc a) 54),b]))]) (nH (Rd.of_own a3) a4)) ?_
 rintro _ bd ⟨a5,⟨S,T,rfl,a6,a7,be⟩⟩
 have a8:=((ay.extk l).extk R).extk a5
 have bg:=tb (ns [(om (nc a) 92),(sha (ns [(om (nc a) 54),b]))])
 refine aw (vs S (sha (ns [(om (nc a) 92),(sha (ns [(om (nc a) 54),b]))])).length T) ?_
 refine n3<|rt (vs S (sha (ns [(om (nc a) 92),(sha (ns [(om (nc a) 54),b]))])).length T) ?_
 refine ⟨a8.keep0,?_⟩
 have a9:pQ a b=(sha (ns [(om (nc a) 92),(sha (ns [(om (nc a) 54),b]))])):=by first|exact uo (by omega)|exact un (by omega) (by omega)|exact yz (by omega) (by omega)
 rw [a9]
 exact ⟨_,_,rfl,(mO a6 (z8 E q r k s t l R)),a7,⟨trivial,trivial⟩⟩

theorem CX (d:World) (i:Value) (a:List UInt8) (u:pI d i a) (j:Value) (b:List UInt8) (w:pI d j b) :Fn Tryz.prog 121 #[i,j] d (fun v k=>Keep d k∧rr k d.heap.size v (si a b)):=by
 obtain ⟨l,m,rfl,x,y⟩:=u
 obtain ⟨o,p,rfl,A,B⟩:=w
 refine nu (n:=15) [(vs l a.length m),(vs o b.length p)] Tryz.func121 rfl rfl ?_
 refine sr<|aw (vs none 0 0) ?_
 refine nx<|mw (vs l a.length m) ?_
 refine mw (vs o b.length p) ?_
 refine cl wN (AL d _ a (nH x y) _ b (nH A B)) ?_
 rintro _ C ⟨q,⟨f,g,rfl,h,D,M⟩⟩
 have r:=(Ch.base d).extk q
 have N:=rJ a b
 refine aw (vs f (pQ a b).length g) ?_
 refine n4<|mw (vs f (pQ a b).length g) ?_
 refine ln wN mR (Rd.of_own h) ?_
 refine pu (vb (decide (((pQ a b).length:Int)=0))) wN ?_
 refine n2 ?_
 rcases bt (decide (((pQ a b).length:Int)=0)) with e|e
 ·have O:=dT e
  refine ct e<|sr<|aw (vs none 0 0) ?_
  refine n1<|rt (vs none 0 0) ?_
  refine ⟨r.keep0,?_⟩
  have E:si a b=[]:=by first|exact wD (by omega)|rfl
  rw [E]
  exact ⟨_,_,rfl,(nM _ _ _ _),(by simp),⟨trivial,trivial⟩⟩
 have P:=dF e
 refine cf e<|y1<|mw (vs f (pQ a b).length g) ?_
 refine slv ((pQ a b).take 16) 0 16 wN mR (Rd.of_own h) (by first|omega|(simp <;> omega)) (by first|omega|(simp <;> omega)) (by first|rfl|(simp;done)|(rw [List.take_of_length_le (by first|(simp;done)|(simp;omega))])) rfl rfl rfl rfl (.inl ⟨rfl,rfl⟩) (.inr ⟨_,_,_,rfl,rfl,by omega⟩) ?_
 have F:0≤16:=(by first|omega|(simp <;> omega))
 have G:16≤(pQ a b).length:=(by first|omega|(simp <;> omega))
 refine cl wN (rA C _ ((pQ a b).take 16) (nH (Rd.subV (x':=((pQ a b).take 16)) (Rd.of_own h) F G (by first|rfl|(simp;done)|(rw [List.take_of_length_le (by first|(simp;done)|(simp;omega))]))) (nT (by simp only [List.length_take,List.length_drop];omega) D))) ?_
 rintro _ Q ⟨H,⟨s,t,rfl,I,J,R⟩⟩
 have K:=r.extk H
 refine aw (vs s (((pQ a b).take 16)).length t) ?_
 refine n3<|rt (vs s (((pQ a b).take 16)).length t) ?_
 refine ⟨K.keep0,?_⟩
 have L:si a b=(((pQ a b).take 16)):=by first|exact wD (by omega)|rfl
 rw [L]
 exact ⟨_,_,rfl,(mO I q.size),J,⟨trivial,trivial⟩⟩

def qw (a:List UInt8) (b:List UInt8):(Bool):=bif (decide ((a.length:Int)=16)) then (decide ((qh a b)=0)) else (false)
theorem yV (e:World) (h:Value) (a:List UInt8) (o:pI e h a) (i:Value) (d:List UInt8) (p:pI e i d) :Fn Tryz.prog 120 #[h,i] e (fun v j=>Keep e j∧O_4 j e.heap.size v (qw a d)):=by
 obtain ⟨f,g,rfl,k,q⟩:=o
 obtain ⟨l,m,rfl,r,s⟩:=p
 refine nu (n:=14) [(vs f a.length g),(vs l d.length m)] Tryz.func120 rfl rfl ?_
 refine sr<|aw vF ?_
 refine nx<|mw (vs f a.length g) ?_
 refine ln wN mR k ?_
 refine pu (vb (decide ((a.length:Int)=16))) wN ?_
 refine mw (vb (decide ((a.length:Int)=16))) ?_
 rcases bf (decide ((a.length:Int)=16)) with b|b
 ·have w:=dF b
  iterate 4 refine sk b ?_
  refine pf vF wN b ?_
  refine aw vF ?_
  refine n3<|rt vF ?_
  refine ⟨Ch.refl _ _,?_⟩
  simp only [qw,b,cond_true,cond_false]
  exact rfl
 have x:=dT b
 refine mv (vs f a.length g) (wS b) ?_
 refine mv (vs l d.length m) (wS b) ?_
 refine cl (wS b) (AM e _ a (nH k q) _ d (nH r s)) ?_
 rintro _ y ⟨t,rfl⟩
 have u:=(Ch.base e).extk t
 refine pu (vb (decide ((qh a d)=0))) (wS b) ?_
 refine pk (vb (decide ((qh a d)=0))) wN b ?_
 refine aw (vb (decide ((qh a d)=0))) ?_
 refine n3<|rt (vb (decide ((qh a d)=0))) ?_
 refine ⟨u.keep0,?_⟩
 simp only [qw,b,cond_true,cond_false]
 exact rfl

theorem za (f:World) (p:Value) (d:List UInt8) (I:pI f p d) (q:Value) (a:List UInt8) (J:pI f q a) (b:Int) :Fn Tryz.prog 159 #[p,q,(vi b)] f (fun v r=>Keep f r∧rr r f.heap.size v (qY d a b)):=by
 obtain ⟨k,l,rfl,K,M⟩:=I
 obtain ⟨g,h,rfl,s,N⟩:=J
 refine nu (n:=23) [(vs k d.length l),(vs g a.length h),(vi b)] Tryz.func159 rfl rfl ?_
 refine sr<|aw (vs none 0 0) ?_
 refine n4<|jT1 [(0,(vs k d.length l)),(1,(vs g a.length h)),(2,(vi b)),(6,(vs none 0 0))] (qY d a b=[]) ?_ fun t=>?_
 ·intro O P Q ak
  have R:=(Ch.base f).extk Q
  refine sr<|aw (vs none 0 0) ?_
  refine n1<|rt (vs none 0 0) ?_
  refine ⟨R.keep0,?_⟩
  rw [O]
  exact ⟨_,_,rfl,(nM _ _ _ _),(by simp),⟨trivial,trivial⟩⟩
 refine mw (vi b) ?_
 refine cl wN (oW f b 0 6) ?_
 rintro _ P ⟨j,rfl⟩
 have u:=(Ch.base f).extk j
 refine pu (vb (!(i_within b 0 6))) wN ?_
 refine mw (vb (!(i_within b 0 6))) ?_
 rcases bf (i_within b 0 6) with e|e
 ·have am:=oe e
  iterate 3 refine sk (cA not e) ?_
  refine pk vT wN (cA not e) ?_
  refine n2<|ct T1 ?_
  have S:qY d a b=[]:=by first|exact sb (by omega)|exact sa (by omega) (by omega) (by omega) (by simp [ns])
  exact wj (t S _ j)
 have an:=nD e
 refine mv (vs g a.length h) (wS (cA not e)) ?_
 refine ln (wS (cA not e)) mR (s.from0 u) ?_
 refine pu (vb (decide (100 < (a.length:Int)))) (wS (cA not e)) ?_
 refine pf (vb (decide (100 < (a.length:Int)))) wN (cA not e) ?_
 refine n2 ?_
 rcases bt (decide (100 < (a.length:Int))) with i|i
 ·have ao:=dT i
  refine ct i ?_
  have T:qY d a b=[]:=by first|exact sb (by omega)|exact sa (by omega) (by omega) (by omega) (by simp [ns])
  exact wj (t T _ j)
 have ap:=dF i
 refine cf i<|y1<|mw (vs k d.length l) ?_
 refine ltB ([115]:List UInt8) wN mR ?_
 intro x y aq A V
 refine mw (vs g a.length h) ?_
 refine sh [(vs x ([115]:List UInt8).length y),(vs g a.length h)] wN rfl rfl qG (m:=2) rfl (by simp only [maxLen];omega) (fun w=>by kernel_rfl) ?_
 intro au W o B
 obtain ⟨av,ax,rfl⟩:=pe B
 have C:=(u.extk A).extk o
 have X:=(mz V o)
 refine cl wN (rz W _ [([115]:List UInt8),a] (tF (RLv.mk (L:=vh) [(([115]:List UInt8),[(x,y)]),(a,[(g,h)])] (Rd.of_own B) rfl ⟨⟨⟨(Rd.of_own X),(by simp)⟩,trivial⟩,⟨⟨⟨(s.from0 C),N⟩,trivial⟩,trivial⟩⟩ (by first|decide|exact Nat.le_of_ble_eq_true rfl)) (by first|decide|exact Nat.le_of_ble_eq_true rfl)) (by first|omega|(rw [pG];omega)|(rw [pG];simp only [List.length_cons,List.length_nil,ou];omega)|(rw [rv];simp only [List.length_cons,List.length_nil,ou];omega)|(simp only [ns,List.flatten_cons,List.flatten_nil,List.length_append,List.length_cons,List.length_nil,ou];omega))) ?_
 rintro _ Y ⟨D,⟨ay,az,rfl,Z,aa,a0⟩⟩
 have a1:=(show (ns [([115]:List UInt8),a]).length=1+a.length by simp only [ns,List.flatten_cons,List.flatten_nil,List.length_append,List.length_cons,List.length_nil];omega)
 refine mw (vi b) ?_
 refine cl wN (vU Y _ (ns [([115]:List UInt8),a]) (nH (Rd.of_own Z) aa) b 4 (by first|omega|(simp;done)|(simp;omega)|(simp only [List.length_append,List.length_cons,List.length_nil] at *;omega))) ?_
 rintro _ ab ⟨E,⟨a2,a3,rfl,ac,ad,a4⟩⟩
 have F:=(C.extk D).extk E
 have a5:=qe (ns [([115]:List UInt8),a]) b 4
 refine cl wN (AL ab _ d (nH (K.from0 F) M) _ (pB (ns [([115]:List UInt8),a]) b 4) (nH (Rd.of_own ac) ad)) ?_
 rintro _ a6 ⟨ae,⟨G,H,rfl,af,ah,a7⟩⟩
 have ai:=F.extk ae
 have a8:=rJ d (pB (ns [([115]:List UInt8),a]) b 4)
 refine aw (vs G (pQ d (pB (ns [([115]:List UInt8),a]) b 4)).length H) ?_
 refine n3<|rt (vs G (pQ d (pB (ns [([115]:List UInt8),a]) b 4)).length H) ?_
 refine ⟨ai.keep0,?_⟩
 have aj:qY d a b=(pQ d (pB (ns [([115]:List UInt8),a]) b 4)):=by first|exact sb (by omega)|exact sa (by omega) (by omega) (by omega) (by simp [ns])
 rw [aj]
 exact ⟨_,_,rfl,(mO af (z5 j A o D E)),ah,⟨trivial,trivial⟩⟩

theorem Aj (e:World) (L:Value) (b:List UInt8) (X:pI e L b) (M:Value) (a:List UInt8) (Y:pI e M a) (d:Int) :Fn Tryz.prog 149 #[L,M,(vi d)] e (fun v o=>Keep e o∧rr o e.heap.size v (nz b a d)):=by
 obtain ⟨h,i,rfl,N,Z⟩:=X
 obtain ⟨j,m,rfl,O,aa⟩:=Y
 refine nu (n:=39) [(vs h b.length i),(vs j a.length m),(vi d)] Tryz.func149 rfl rfl ?_
 refine sr<|aw (vs none 0 0) ?_
 refine n4<|jT1 [(0,(vs h b.length i)),(1,(vs j a.length m)),(2,(vi d)),(6,(vs none 0 0))] (nz b a d=[]) ?_ fun E=>?_
 ·intro ab p ac a3
  have ad:=(Ch.base e).extk ac
  refine sr<|aw (vs none 0 0) ?_
  refine n1<|rt (vs none 0 0) ?_
  refine ⟨ad.keep0,?_⟩
  rw [ab]
  exact ⟨_,_,rfl,(nM _ _ _ _),(by simp),⟨trivial,trivial⟩⟩
 refine mw (vi d) ?_
 refine cl wN (oW e d 0 200) ?_
 rintro _ p ⟨q,rfl⟩
 have F:=(Ch.base e).extk q
 refine pu (vb (!(i_within d 0 200))) wN ?_
 refine mw (vb (!(i_within d 0 200))) ?_
 rcases bf (i_within d 0 200) with f|f
 ·have a4:=oe f
  iterate 3 refine sk (cA not f) ?_
  refine pk vT wN (cA not f) ?_
  refine mw vT ?_
  iterate 3 refine sk T1 ?_
  refine pk vT wN T1 ?_
  refine n2<|ct T1 ?_
  have ae:nz b a d=[]:=by first|exact qF (by omega)|exact rb (by omega) (by omega) (by omega) (by omega) (by omega) (by omega)
  exact wj (E ae _ q)
 have a5:=nD f
 refine mv (vs j a.length m) (wS (cA not f)) ?_
 refine ln (wS (cA not f)) mR (O.from0 F) ?_
 refine pu (vb (decide (100 < (a.length:Int)))) (wS (cA not f)) ?_
 refine pf (vb (decide (100 < (a.length:Int)))) wN (cA not f) ?_
 refine mw (vb (decide (100 < (a.length:Int)))) ?_
 rcases bt (decide (100 < (a.length:Int))) with g|g
 ·have a6:=dT g
  iterate 3 refine sk g ?_
  refine pk vT wN g ?_
  refine n2<|ct T1 ?_
  have af:nz b a d=[]:=by first|exact qF (by omega)|exact rb (by omega) (by omega) (by omega) (by omega) (by omega) (by omega)
  exact wj (E af _ q)
 have a7:=dF g
 refine mv (vs h b.length i) (wS g) ?_
 refine ln (wS g) mR (N.from0 F) ?_
 refine pu (vb (decide (1048576 < (b.length:Int)))) (wS g) ?_
 refine pf (vb (decide (1048576 < (b.length:Int)))) wN g ?_
 refine n2 ?_
 rcases bt (decide (1048576 < (b.length:Int))) with x|x
 ·have a8:=dT x
  refine ct x ?_
  have ah:nz b a d=[]:=by first|exact qF (by omega)|exact rb (by omega) (by omega) (by omega) (by omega) (by omega) (by omega)
  exact wj (E ah _ q)
 have a9:=dF x
 refine cf x<|y1<|nF wN rfl rfl mR (fun w=>by kernel_rfl) ?_
 intro G H I ai
 have aj:=F.extk I
 refine aw (vs (some G) 0 0) ?_
 refine n4<|aw (vi 0) ?_
 refine mW<|mP<|ng ?_
 have P:([]:List UInt8)=pT b a 0:=by rfl
 have Q:0=(pT b a 0).length:=by rw [← P];try (first|rfl|simp only [List.length_set]|simp)
 refine oa [(0,(vs h b.length i)),(1,(vs j a.length m)),(2,(vi d)),(6,(vs none 0 0)),(7,(.slice (some G) (pT b a 0).length 0)),(8,(vi ((0:Nat):Int)))] ⟨rfl,rfl,rfl,rfl,rfl,(cA (Value.int .i64) (show (0:Int)=((0:Nat):Int) by omega)),trivial⟩ (fun e' o=>∃ (k:Nat) (R:Env) (r:Option Addr) (s:Nat),e'=pt R [(0,(vs h b.length i)),(1,(vs j a.length m)),(2,(vi d)),(6,(vs none 0 0)),(7,(.slice r (pT b a k).length s)),(8,(vi ((k:Nat):Int)))]∧Ch (fun k=>e.heap.size≤k) e o∧Ch (fun k=>p.heap.size≤k) H o∧32*((k:Nat):Int) < d+32∧(World.ownsRow o p.heap.size 5 1 (.slice r (pT b a k).length s) (pT b a k).length ((pT b a k).map bV)∧(pT b a k).length≤1073741824)) (fun e' _=>d.toNat - (lenOf (e' 7))) ?_ ?_
 ·exact fun u=>⟨0,u,(some G),0,rfl,aj,(Ch.refl (fun k=>p.heap.size≤k) H),(by omega),⟨(by rw [← Q,← P];exact ai),(by rw [← Q];first|exact (by simp)|(simp only [List.length_append,List.length_take,List.length_replicate];omega))⟩⟩
 ·rintro _ J ⟨k,R,r,s,rfl,A,K,aA,⟨t,ak⟩⟩
  have hsl:=uz (key:=b) (head:=a) (by omega) (by omega) k
  have hsm:=uz (key:=b) (head:=a) (by omega) (by omega) (k+1)
  refine nh<|sr<|mw (vs r (pT b a k).length s) ?_
  refine ln wN mR (Rd.of_own t) ?_
  refine mw (vi d) ?_
  refine pu (vb (decide (((pT b a k).length:Int) < d))) wN ?_
  refine n2 ?_
  rcases bt (decide (((pT b a k).length:Int) < d)) with y|y
  ·have aB:=dT y
   refine ct y<|nm<|mP<|nh<|ng<|mV ?_
   refine mw (vs r (pT b a k).length s) ?_
   refine mw (vs h b.length i) ?_
   refine mw (vs j a.length m) ?_
   refine mw (vi ((k:Nat):Int)) ?_
   refine cl wN (za J _ b (nH (N.from0 A) Z) _ a (nH (O.from0 A) aa) ((k:Nat):Int)) ?_
   rintro _ am ⟨B,⟨aC,aD,rfl,an,_⟩⟩
   have aE:=tP b a ((k:Nat):Int)
   have ao:=(mz t B)
   refine apB (pT b a k) (qY b a ((k:Nat):Int)) wN mR ao (Rd.of_own an) (z3 I K B) ?_
   intro C D aF S ap aG aq
   have au:=(A.extk B).ext S (fun k hk=>nT q.size (nb t k hk).1)
   refine aw (vs C ((pT b a k)++(qY b a ((k:Nat):Int))).length D) ?_
   refine mW<|mQ<|mP<|mV ?_
   refine mw (vi ((k:Nat):Int)) ?_
   refine ar (((k:Nat):Int)+1) wN ?_
   refine aw (vi (((k:Nat):Int)+1)) ?_
   refine mW ?_
   have T:(((pT b a k)++(qY b a ((k:Nat):Int))):List UInt8)=pT b a (k+1):=by rfl
   refine nX (w0:=J) [(0,(vs h b.length i)),(1,(vs j a.length m)),(2,(vi d)),(6,(vs none 0 0)),(7,(.slice C (pT b a (k+1)).length D)),(8,(vi (((k+1):Nat):Int)))] ?_ ?_ ?_
   · exact ⟨rfl,rfl,rfl,rfl,(cA (fun l:List UInt8=>Value.slice C l.length D) T),(cA (Value.int .i64) (show ((((k:Nat):Int)+1):Int)=(((k+1):Nat):Int) by omega)),trivial⟩
   · exact fun u=>⟨(k+1),u,C,D,rfl,au,((((Ch.refl (fun k=>p.heap.size≤k) H).ext K (fun k hk=>hk)).extk B).ext S (fun k hk=>nT (Nat.le_refl p.heap.size) (nb t k hk).1)),(by omega),(T ▸ ⟨ap,aq⟩)⟩
   · show d.toNat - (pT b a (k+1)).length < d.toNat - (pT b a k).length;omega
  have aH:=dF y
  refine cf y<|oh<|mU<|mU<|nq<|mP<|sr<|mw (vs r (pT b a k).length s) ?_
  refine mw (vi d) ?_
  refine slv ((pT b a k).take ((d).toNat)) 0 ((d).toNat) wN mR (Rd.of_own t) (by first|omega|(simp <;> omega)) (by first|omega|(simp <;> omega)) (by first|rfl|(simp;done)|(rw [List.take_of_length_le (by first|(simp;done)|(simp;omega))])) rfl rfl rfl rfl (.inl ⟨rfl,rfl⟩) (.inr ⟨_,_,_,rfl,rfl,by omega⟩) ?_
  have av:0≤((d).toNat):=(by first|omega|(simp <;> omega))
  have ax:((d).toNat)≤(pT b a k).length:=(by first|omega|(simp <;> omega))
  refine cl wN (rA J _ ((pT b a k).take ((d).toNat)) (nH (Rd.subV (x':=((pT b a k).take ((d).toNat))) (Rd.of_own t) av ax (by first|rfl|(simp;done)|(rw [List.take_of_length_le (by first|(simp;done)|(simp;omega))]))) (nT (by simp only [List.length_take,List.length_drop];omega) ak))) ?_
  rintro _ am ⟨ay,⟨V,W,rfl,az,a0,aI⟩⟩
  have a1:=A.extk ay
  refine aw (vs V (((pT b a k).take ((d).toNat))).length W) ?_
  refine n3<|rt (vs V (((pT b a k).take ((d).toNat))).length W) ?_
  refine ⟨a1.keep0,?_⟩
  have a2:nz b a d=(((pT b a k).take ((d).toNat))):=by first|exact qF (by omega)|exact rb (by omega) (by omega) (by omega) (by omega) (by omega) (by omega)
  rw [a2]
  exact ⟨_,_,rfl,(mO az (z3 q I K)),a0,⟨trivial,trivial⟩⟩

theorem CZ (e:World) (X:Value) (d:List UInt8) (ap:pI e X d) (Y:Value) (b:List UInt8) (aq:pI e Y b) (Z:Value) (a:List UInt8) (au:pI e Z a) :Fn Tryz.prog 122 #[X,Y,Z] e (fun v p=>Keep e p∧rr p e.heap.size v (ri d b a)):=by
 obtain ⟨B,C,rfl,aa,av⟩:=ap
 obtain ⟨D,E,rfl,ab,ax⟩:=aq
 obtain ⟨i,j,rfl,F,aJ⟩:=au
 refine nu (n:=46) [(vs B d.length C),(vs D b.length E),(vs i a.length j)] Tryz.func122 rfl rfl ?_
 refine sr<|aw (vs none 0 0) ?_
 refine n4<|jT1 [(0,(vs B d.length C)),(1,(vs D b.length E)),(2,(vs i a.length j)),(6,(vs none 0 0))] (ri d b a=[]) ?_ fun M=>?_
 ·intro ay G az aK
  have a0:=(Ch.base e).extk az
  refine sr<|aw (vs none 0 0) ?_
  refine n1<|rt (vs none 0 0) ?_
  refine ⟨a0.keep0,?_⟩
  rw [ay]
  exact ⟨_,_,rfl,(nM _ _ _ _),(by simp),⟨trivial,trivial⟩⟩
 refine mw (vs i a.length j) ?_
 refine ln wN mR F ?_
 refine pu (vb (decide (200 < (a.length:Int)))) wN ?_
 refine mw (vb (decide (200 < (a.length:Int)))) ?_
 rcases bt (decide (200 < (a.length:Int))) with f|f
 ·have aL:=dT f
  iterate 3 refine sk f ?_
  refine pk vT wN f ?_
  refine mw vT ?_
  iterate 3 refine sk T1 ?_
  refine pk vT wN T1 ?_
  refine n2<|ct T1 ?_
  have a1:ri d b a=[]:=by first|exact ss (by omega)|exact te (by omega) (by omega) (by omega) (by omega)
  exact wj (M a1 _ (Ch.refl _ _))
 have aM:=dF f
 refine mv (vs D b.length E) (wS f) ?_
 refine ln (wS f) mR ab ?_
 refine pu (vb (decide (100 < (b.length:Int)))) (wS f) ?_
 refine pf (vb (decide (100 < (b.length:Int)))) wN f ?_
 refine mw (vb (decide (100 < (b.length:Int)))) ?_
 rcases bt (decide (100 < (b.length:Int))) with h|h
 ·have aN:=dT h
  iterate 3 refine sk h ?_
  refine pk vT wN h ?_
  refine n2<|ct T1 ?_
  have a2:ri d b a=[]:=by first|exact ss (by omega)|exact te (by omega) (by omega) (by omega) (by omega)
  exact wj (M a2 _ (Ch.refl _ _))
 have aO:=dF h
 refine mv (vs B d.length C) (wS h) ?_
 refine ln (wS h) mR aa ?_
 refine pu (vb (decide (1048576 < (d.length:Int)))) (wS h) ?_
 refine pf (vb (decide (1048576 < (d.length:Int)))) wN h ?_
 refine n2 ?_
 rcases bt (decide (1048576 < (d.length:Int))) with t|t
 ·have aP:=dT t
  refine ct t ?_
  have a3:ri d b a=[]:=by first|exact ss (by omega)|exact te (by omega) (by omega) (by omega) (by omega)
  exact wj (M a3 _ (Ch.refl _ _))
 have aQ:=dF t
 refine cf t<|y1<|nF wN rfl rfl mR (fun w=>by kernel_rfl) ?_
 intro N G ac ad
 have H:=(Ch.base e).extk ac
 refine aw (vs (some N) 0 0) ?_
 refine n4<|mw (vs B d.length C) ?_
 refine mw (vs D b.length E) ?_
 refine mw (vs i a.length j) ?_
 refine ln wN mR (F.from0 H) ?_
 refine cl wN (Aj G _ d (nH (aa.from0 H) av) _ b (nH (ab.from0 H) ax) (a.length:Int)) ?_
 rintro _ O ⟨P,⟨Q,R,rfl,S,a4,aR⟩⟩
 have a5:=H.extk P
 have aS:=qK d b (a.length:Int)
 refine ln wN mR (Rd.of_own S) ?_
 refine mw (vi 0) ?_
 refine mW<|mP<|ng ?_
 have ae:((nz d b (a.length:Int)):List UInt8)=(nz d b (a.length:Int)):=by rfl
 have a6:=(mz ad P)
 have af:([]:List UInt8)=qJ (a.take 0) ((nz d b (a.length:Int)).take 0):=by rfl
 have ah:0=(qJ (a.take 0) ((nz d b (a.length:Int)).take 0)).length:=by rw [← af];try (first|rfl|simp only [List.length_set]|simp)
 refine oa [(2,(vs i a.length j)),(6,(vs none 0 0)),(7,(.slice (some N) (qJ (a.take 0) ((nz d b (a.length:Int)).take 0)).length 0)),(28,(.slice Q ((nz d b (a.length:Int))).length R)),(29,(vi ((nz d b (a.length:Int)).length:Int))),(30,(vi ((0:Nat):Int)))] ⟨rfl,rfl,rfl,(cA (fun l:List UInt8=>Value.slice Q l.length R) ae),rfl,(cA (Value.int .i64) (show (0:Int)=((0:Nat):Int) by omega)),trivial⟩ (fun e' p=>∃ (k:Nat) (ai:Env) (q:Option Addr) (s:Nat) (o:Option Addr) (r:Nat),e'=pt ai [(2,(vs i a.length j)),(6,(vs none 0 0)),(7,(.slice o (qJ (a.take k) ((nz d b (a.length:Int)).take k)).length r)),(28,(.slice q ((nz d b (a.length:Int))).length s)),(29,(vi ((nz d b (a.length:Int)).length:Int))),(30,(vi ((k:Nat):Int)))]∧Ch (fun k=>e.heap.size≤k) e p∧Ch (fun k=>e.heap.size≤k) O p∧k≤a.length∧(World.ownsRow p G.heap.size 5 1 (.slice q ((nz d b (a.length:Int))).length s) ((nz d b (a.length:Int))).length (((nz d b (a.length:Int))).map bV)∧((nz d b (a.length:Int))).length≤1073741824)∧(World.ownsRow p e.heap.size 5 1 (.slice o (qJ (a.take k) ((nz d b (a.length:Int)).take k)).length r) (qJ (a.take k) ((nz d b (a.length:Int)).take k)).length ((qJ (a.take k) ((nz d b (a.length:Int)).take k)).map bV)∧(qJ (a.take k) ((nz d b (a.length:Int)).take k)).length≤1073741824)∧NeS o q) (fun e' _=>a.length - ((intOf (e' 30))).toNat) ?_ ?_
 ·exact fun u=>⟨0,u,Q,R,(some N),0,rfl,a5,(Ch.refl (fun k=>e.heap.size≤k) O),(by omega),(ae ▸ ⟨S,a4⟩),⟨(by rw [← ah,← af];exact a6),(by rw [← ah];first|exact (by simp)|(simp only [List.length_append,List.length_take,List.length_replicate];omega))⟩,(NeS.lt ad S (Nat.le_refl G.heap.size))⟩
 ·rintro _ a7 ⟨k,ai,q,s,o,r,rfl,I,aj,aT,⟨T,a8⟩,⟨J,a9⟩,ak⟩
  have hzl:=xS a (nz d b (a.length:Int)) k
  have hsl:=qK d b (a.length:Int)
  refine sr<|pu (vb (decide (((k:Nat):Int) < ((nz d b (a.length:Int)).length:Int)))) wN ?_
  refine mW<|mP<|nh ?_
  rcases bf (decide (((k:Nat):Int) < ((nz d b (a.length:Int)).length:Int))) with y|y
  ·have aU:=dF y
   refine cf y<|oh<|mU<|mU<|nq<|mP<|sr<|mw (vs o (qJ (a.take k) ((nz d b (a.length:Int)).take k)).length r) ?_
   refine aw (vs o (qJ (a.take k) ((nz d b (a.length:Int)).take k)).length r) ?_
   refine n3<|rt (vs o (qJ (a.take k) ((nz d b (a.length:Int)).take k)).length r) ?_
   refine ⟨I.keep0,?_⟩
   have aA:ri d b a=(qJ (a.take k) ((nz d b (a.length:Int)).take k)):=by first|exact ss (by omega)|exact te (by omega) (by omega) (by omega) (by omega)
   rw [aA]
   exact ⟨_,_,rfl,J,a9,⟨trivial,trivial⟩⟩
  have aV:=dT y
  refine ct y<|nm<|mP<|nh<|ng<|sr<|mw (vi ((k:Nat):Int)) ?_
  refine ix wN ((k:Nat):Int) mR (Rd.of_own T) ?_
  refine eb (x:=(nz d b (a.length:Int))) k wN pP (Rd.of_own T) ?_
  refine aw (vi ((k:Nat):Int)) ?_
  refine aw (v8 (((nz d b (a.length:Int)).getD k 0).toNat:Int)) ?_
  refine mW<|mP<|mV ?_
  refine mw (vs o (qJ (a.take k) ((nz d b (a.length:Int)).take k)).length r) ?_
  refine mw (v8 (((nz d b (a.length:Int)).getD k 0).toNat:Int)) ?_
  refine mw (vs i a.length j) ?_
  refine mw (vi ((k:Nat):Int)) ?_
  refine ix wN ((k:Nat):Int) mR (F.from0 I) ?_
  refine eb (x:=a) k wN pP (F.from0 I) ?_
  refine rC ((nz d b (a.length:Int)).getD k 0) (a.getD k 0) wN rfl rfl (by kernel_rfl) ?_
  refine ltB ([(((nz d b (a.length:Int)).getD k 0)^^^(a.getD k 0))]:List UInt8) wN mR ?_
  intro aW aX aY A aB
  have aC:=(mz J A)
  refine apB (qJ (a.take k) ((nz d b (a.length:Int)).take k)) ([(((nz d b (a.length:Int)).getD k 0)^^^(a.getD k 0))]:List UInt8) wN mR aC (Rd.of_own aB) (z4 ac P aj A) ?_
  intro K L aZ V aD aE aF
  have aG:=(I.extk A).ext V (fun k hk=>nT (Nat.le_refl e.heap.size) (nb J k hk).1)
  have am:=(mz T A)
  have aH:=NeS.app ak aE am
  refine aw (vs K ((qJ (a.take k) ((nz d b (a.length:Int)).take k))++([(((nz d b (a.length:Int)).getD k 0)^^^(a.getD k 0))]:List UInt8)).length L) ?_
  refine mW<|mQ<|mP<|mV ?_
  refine ar (((k:Nat):Int)+1) wN ?_
  refine mw (vi (((k:Nat):Int)+1)) ?_
  refine mW ?_
  have aI:=(gc am V (fun g hg hlt hk=>NeS.no (NeS.symm ak) hg hk))
  have an:((nz d b (a.length:Int)):List UInt8)=(nz d b (a.length:Int)):=by rfl
  have W:((nz d b (a.length:Int))).length=((nz d b (a.length:Int))).length:=by rw [← an];try (first|rfl|simp only [List.length_set]|simp)
  have ao:(((qJ (a.take k) ((nz d b (a.length:Int)).take k))++([(((nz d b (a.length:Int)).getD k 0)^^^(a.getD k 0))]:List UInt8)):List UInt8)=qJ (a.take (k+1)) ((nz d b (a.length:Int)).take (k+1)):=by exact xq (by omega) (by omega)
  refine nX (w0:=a7) [(2,(vs i a.length j)),(6,(vs none 0 0)),(7,(.slice K (qJ (a.take (k+1)) ((nz d b (a.length:Int)).take (k+1))).length L)),(28,(.slice q ((nz d b (a.length:Int))).length s)),(29,(vi ((nz d b (a.length:Int)).length:Int))),(30,(vi (((k+1):Nat):Int)))] ?_ ?_ ?_
  · exact ⟨rfl,rfl,(cA (fun l:List UInt8=>Value.slice K l.length L) ao),(cA (fun m:Nat=>Value.slice q m s) W),rfl,(cA (Value.int .i64) (show ((((k:Nat):Int)+1):Int)=(((k+1):Nat):Int) by omega)),trivial⟩
  · exact fun u=>⟨(k+1),u,q,s,K,L,rfl,aG,((((Ch.refl (fun k=>e.heap.size≤k) O).ext aj (fun k hk=>hk)).extk A).ext V (fun k hk=>nT (Nat.le_refl e.heap.size) (nb J k hk).1)),(by omega),⟨(by rw [← W,← an];exact aI),(by rw [← W];first|exact a8|(simp only [List.length_append,List.length_take,List.length_replicate];omega))⟩,(ao ▸ ⟨aD,aF⟩),aH⟩
  · show a.length - ((((k+1):Nat):Int)).toNat < a.length - (((k:Nat):Int)).toNat;omega

def oO (b:List UInt8) (d:Int) (a:PFrame):(List UInt8)×(Bool):=bif (decide ((b.length:Int)=32)) then (bif (decide (((nA d a).length:Int)=0)) then (([],false)) else (bif (qw a.Tag (si b (nA d a))) then (((ri b (nI d a.Sn a.Epoch a.Seq) a.Body),true)) else (([],false)))) else (([],false))
theorem Ai (x:World) (ac:Value) (f:List UInt8) (ax:pI x ac f) (d:Int) (ad:Value) (a:PFrame) (ay:vg x ad a) :Fn Tryz.prog 85 #[ac,(vi d),ad] x (fun v o=>Keep x o∧xp o x.heap.size v (oO f d a)):=by
 obtain ⟨l,m,rfl,C,ae⟩:=ax
 obtain ⟨L,M,D,E,N,O,P,Q,F,G,H,I,rfl,az,a0,af,ah,a1,a2,a3,a4,ai,aj,ak,am⟩:=ay
 refine nu (n:=41) [(vs l f.length m),(vi d),(va (oD a L M D E N O P Q F G H I))] Tryz.func85 rfl rfl ?_
 refine sr<|bx (oD a L M D E N O P Q F G H I) wN ?_
 intro p R bp bq an y
 have q:=(Ch.base x).extk an
 refine aw (vs none 0 0) ?_
 refine aw vF ?_
 refine nx<|mw (vi d) ?_
 refine lN (oD a L M D E N O P Q F G H I) wN nk mZ y ?_
 refine cl wN (uv R d _ a (qI (az.from0 q) a0 (af.from0 q) ah (a1.from0 q) a2 (a3.from0 q) a4 (ai.from0 q) aj (ak.from0 q) am)) ?_
 rintro _ K ⟨r,⟨s,t,rfl,S,a5,br⟩⟩
 have u:=q.extk r
 refine aw (vs s (nA d a).length t) ?_
 refine mW<|mP<|nh<|nh ?_
 rcases bf (decide ((f.length:Int)=32)) with i|i
 ·have bu:=dF i
  refine ob ([(12,[],[],(fun _ v _=>v=(vs l f.length m))),(13,[],[0],(fun _ v _=>v=(vi (f.length:Int)))),(14,[],[0,1],(fun _ v _=>v=(vb (!(decide ((f.length:Int)=32)))))),(15,[],[0,1,2],(fun _ v _=>v=(vb (!(decide ((f.length:Int)=32)))))),(16,[],[0,1,2,3],(fun _ v _=>v=U)),(17,[],[0,1,2,3,4],(fun _ v _=>v=U)),(18,[],[0,1,2,3,4,5],(fun _ v _=>v=U)),(19,[],[0,1,2,3,4,5,6],(fun _ v _=>v=vT)),(20,[],[0,1,2,3,4,5,6,7],(fun _ v _=>v=vT)),(21,[],[0,1,2,3,4,5,6,7,8],(fun _ v _=>v=U)),(22,[],[0,1,2,3,4,5,6,7,8,9],(fun _ v _=>v=U)),(23,[],[0,1,2,3,4,5,6,7,8],(fun _ v _=>v=U)),(24,[],[0,1,2,3,4,5,6,7,8],(fun _ v _=>v=U)),(25,[],[0,1,2,3,4,5,6,7,8,11,12],(fun _ v _=>v=U))]:GV) (fun _ o=>Keep K o) [] oM rfl (by kernel_rfl) (by kernel_rfl) ?_ (fun _ _ h=>h) (fun _ _ _ _ h _ k=>h.trans k) trivial ?_ ?_ ?_
  ·exact ⟨hV,hE,⟨hV,hE,⟨hV,hE,⟨hV,hE,⟨hV,hE,⟨hV,hE,⟨hV,hE,⟨hV,hE,⟨hV,hE,⟨hV,hE,⟨hV,hE,⟨hV,hE,⟨hV,hE,⟨hV,hE,trivial⟩⟩⟩⟩⟩⟩⟩⟩⟩⟩⟩⟩⟩⟩
  ·exact trivial
  ·refine ⟨?_,⟨?_,⟨?_,⟨?_,⟨?_,⟨?_,⟨?_,⟨?_,⟨?_,⟨?_,⟨?_,⟨?_,⟨?_,⟨?_,trivial⟩⟩⟩⟩⟩⟩⟩⟩⟩⟩⟩⟩⟩⟩
   ·intro _ b bv _
    iterate 14 intro _
    refine sw<|mw (vs l f.length m) ?_
    exact f1
   ·intro _ b a6 _
    have a7:=u.extk a6
    rintro _ rfl;iterate 13 intro _
    refine sw<|ln wN mR (C.from0 a7) ?_
    exact f1
   ·intro _ b bw _
    rintro _ rfl _ rfl _ _ _ _ _ _ _ _ _ _ _ _
    refine sw<|pu (vb (!(decide ((f.length:Int)=32)))) wN ?_
    exact f1
   ·intro _ b bz _
    rintro _ rfl _ rfl _ rfl _ _ _ _ _ _ _ _ _ _ _
    refine sw<|mw (vb (!(decide ((f.length:Int)=32)))) ?_
    exact f1
   ·intro _ b b0 _
    rintro _ rfl _ rfl _ rfl _ rfl _ _ _ _ _ _ _ _ _ _
    refine sw<|sk (cA not i) ?_
    exact f1
   ·intro _ b b1 _
    rintro _ rfl _ rfl _ rfl _ rfl _ rfl _ _ _ _ _ _ _ _ _
    refine sw<|sk (cA not i) ?_
    exact f1
   ·intro _ b b2 _
    rintro _ rfl _ rfl _ rfl _ rfl _ rfl _ rfl _ _ _ _ _ _ _ _
    refine sw<|sk (cA not i) ?_
    exact f1
   ·intro _ b b3 _
    iterate 7 rintro _ rfl
    intro _ _ _ _ _ _ _
    refine sw<|pk vT wN (cA not i) ?_
    exact f1
   ·intro _ b b4 _
    iterate 8 rintro _ rfl
    intro _ _ _ _ _ _
    refine sw<|mw vT ?_
    exact f1
   ·intro _ b b5 _
    iterate 9 rintro _ rfl
    intro _ _ _ _ _
    refine sw<|sk T1 ?_
    exact f1
   ·intro _ b b6 _
    iterate 10 rintro _ rfl
    intro _ _ _ _
    refine sw<|sk T1 ?_
    exact f1
   ·intro _ b b7 _
    iterate 9 rintro _ rfl
    intro _ _ _ _ _
    refine sw<|sk T1 ?_
    exact f1
   ·intro _ b b8 _
    iterate 9 rintro _ rfl
    intro _ _ _ _ _
    refine sw<|sk T1 ?_
    exact f1
   ·intro _ b b9 _
    iterate 9 rintro _ rfl
    rintro _ _ _ rfl _ rfl _
    refine sw<|sk T1 ?_
    exact f1
  ·intro _ b a8
   have a9:=u.extk a8
   iterate 14 rintro _ rfl
   refine sw ?_
   iterate 2 refine sk T1 ?_
   refine pk vT wN T1 ?_
   refine n2<|ct T1<|sr<|aw (vs none 0 0) ?_
   refine aw vF ?_
   refine n1<|rE (.inl rfl) (vs none 0 0) vF rfl rfl rfl ?_
   refine ⟨a9.keep0,?_⟩
   simp only [oO,i,cond_true,cond_false]
   exact ⟨_,_,rfl,(nM _ _ _ _),(by simp),⟨trivial,trivial⟩⟩
 have bA:=dT i
 rcases bt (decide (((nA d a).length:Int)=0)) with g|g
 ·have bB:=dT g
  refine ob ([(12,[],[],(fun _ v _=>v=(vs l f.length m))),(13,[],[0],(fun _ v _=>v=(vi (f.length:Int)))),(14,[],[0,1],(fun _ v _=>v=(vb (!(decide ((f.length:Int)=32)))))),(15,[],[0,1,2],(fun _ v _=>v=(vb (!(decide ((f.length:Int)=32)))))),(16,[],[0,1,2,3],(fun _ v _=>v=(vs s (nA d a).length t))),(17,[],[0,1,2,3,4],(fun _ v _=>v=(vi ((nA d a).length:Int)))),(18,[],[0,1,2,3,4,5],(fun _ v _=>v=(vb (decide (((nA d a).length:Int)=0))))),(19,[],[0,1,2,3,4,5,6],(fun _ v _=>v=(vb (decide (((nA d a).length:Int)=0))))),(20,[],[0,1,2,3,4,5,6,7],(fun _ v _=>v=(vb (decide (((nA d a).length:Int)=0))))),(21,[],[0,1,2,3,4,5,6,7,8],(fun _ v _=>v=U)),(22,[],[0,1,2,3,4,5,6,7,8,9],(fun _ v _=>v=U)),(23,[],[0,1,2,3,4,5,6,7,8],(fun _ v _=>v=U)),(24,[],[0,1,2,3,4,5,6,7,8],(fun _ v _=>v=U)),(25,[],[0,1,2,3,4,5,6,7,8,11,12],(fun _ v _=>v=U))]:GV) (fun _ o=>Keep K o) [] oM rfl (by kernel_rfl) (by kernel_rfl) ?_ (fun _ _ h=>h) (fun _ _ _ _ h _ k=>h.trans k) trivial ?_ ?_ ?_
  ·exact ⟨hV,hE,⟨hV,hE,⟨hV,hE,⟨hV,hE,⟨hV,hE,⟨hV,hE,⟨hV,hE,⟨hV,hE,⟨hV,hE,⟨hV,hE,⟨hV,hE,⟨hV,hE,⟨hV,hE,⟨hV,hE,trivial⟩⟩⟩⟩⟩⟩⟩⟩⟩⟩⟩⟩⟩⟩
  ·exact trivial
  ·refine ⟨?_,⟨?_,⟨?_,⟨?_,⟨?_,⟨?_,⟨?_,⟨?_,⟨?_,⟨?_,⟨?_,⟨?_,⟨?_,⟨?_,trivial⟩⟩⟩⟩⟩⟩⟩⟩⟩⟩⟩⟩⟩⟩
   ·intro _ b bC _
    iterate 14 intro _
    refine sw<|mw (vs l f.length m) ?_
    exact f1
   ·intro _ b aA _
    have aB:=u.extk aA
    rintro _ rfl;iterate 13 intro _
    refine sw<|ln wN mR (C.from0 aB) ?_
    exact f1
   ·intro _ b bD _
    rintro _ rfl _ rfl _ _ _ _ _ _ _ _ _ _ _ _
    refine sw<|pu (vb (!(decide ((f.length:Int)=32)))) wN ?_
    exact f1
   ·intro _ b bE _
    rintro _ rfl _ rfl _ rfl _ _ _ _ _ _ _ _ _ _ _
    refine sw<|mw (vb (!(decide ((f.length:Int)=32)))) ?_
    exact f1
   ·intro _ b bF _
    rintro _ rfl _ rfl _ rfl _ rfl _ _ _ _ _ _ _ _ _ _
    refine sw<|mv (vs s (nA d a).length t) (wS (cA not i)) ?_
    exact f1
   ·intro _ b aC _
    rintro _ rfl _ rfl _ rfl _ rfl _ rfl _ _ _ _ _ _ _ _ _
    refine sw ?_
    have aD:=(mz S aC)
    refine ln (wS (cA not i)) mR (Rd.of_own aD) ?_
    exact f1
   ·intro _ b bG _
    rintro _ rfl _ rfl _ rfl _ rfl _ rfl _ rfl _ _ _ _ _ _ _ _
    refine sw<|pu (vb (decide (((nA d a).length:Int)=0))) (wS (cA not i)) ?_
    exact f1
   ·intro _ b bH _
    iterate 7 rintro _ rfl
    intro _ _ _ _ _ _ _
    refine sw<|pf (vb (decide (((nA d a).length:Int)=0))) wN (cA not i) ?_
    exact f1
   ·intro _ b bI _
    iterate 8 rintro _ rfl
    intro _ _ _ _ _ _
    refine sw<|mw (vb (decide (((nA d a).length:Int)=0))) ?_
    exact f1
   ·intro _ b bJ _
    iterate 9 rintro _ rfl
    intro _ _ _ _ _
    refine sw<|sk g ?_
    exact f1
   ·intro _ b bK _
    iterate 10 rintro _ rfl
    intro _ _ _ _
    refine sw<|sk g ?_
    exact f1
   ·intro _ b bL _
    iterate 9 rintro _ rfl
    intro _ _ _ _ _
    refine sw<|sk g ?_
    exact f1
   ·intro _ b bM _
    iterate 9 rintro _ rfl
    intro _ _ _ _ _
    refine sw<|sk g ?_
    exact f1
   ·intro _ b bN _
    iterate 9 rintro _ rfl
    rintro _ _ _ rfl _ rfl _
    refine sw<|sk g ?_
    exact f1
  ·intro _ b aE
   have aF:=u.extk aE
   iterate 14 rintro _ rfl
   refine sw ?_
   iterate 2 refine sk g ?_
   refine pk vT wN g ?_
   refine n2<|ct T1<|sr<|aw (vs none 0 0) ?_
   refine aw vF ?_
   refine n1<|rE (.inl rfl) (vs none 0 0) vF rfl rfl rfl ?_
   refine ⟨aF.keep0,?_⟩
   simp only [oO,i,g,cond_true,cond_false]
   exact ⟨_,_,rfl,(nM _ _ _ _),(by simp),⟨trivial,trivial⟩⟩
 have bO:=dF g
 refine ob ([(12,[],[],(fun _ v _=>v=(vs l f.length m))),(13,[],[0],(fun _ v _=>v=(vi (f.length:Int)))),(14,[],[0,1],(fun _ v _=>v=(vb (!(decide ((f.length:Int)=32)))))),(15,[],[0,1,2],(fun _ v _=>v=(vb (!(decide ((f.length:Int)=32)))))),(16,[],[0,1,2,3],(fun _ v _=>v=(vs s (nA d a).length t))),(17,[],[0,1,2,3,4],(fun _ v _=>v=(vi ((nA d a).length:Int)))),(18,[],[0,1,2,3,4,5],(fun _ v _=>v=(vb (decide (((nA d a).length:Int)=0))))),(19,[],[0,1,2,3,4,5,6],(fun _ v _=>v=(vb (decide (((nA d a).length:Int)=0))))),(20,[],[0,1,2,3,4,5,6,7],(fun _ v _=>v=(vb (decide (((nA d a).length:Int)=0))))),(21,[],[0,1,2,3,4,5,6,7,8],(fun _ v _=>v=(vp p 10))),(22,[],[0,1,2,3,4,5,6,7,8,9],(fun _ v _=>v=(vs H a.Tag.length I))),(23,[],[0,1,2,3,4,5,6,7,8],(fun _ v _=>v=(vs l f.length m))),(24,[],[0,1,2,3,4,5,6,7,8],(fun _ v _=>v=(vs s (nA d a).length t))),(25,[],[0,1,2,3,4,5,6,7,8,11,12],(fun _ v w=>rr w K.heap.size v (si f (nA d a))))]:GV) (fun _ o=>Keep K o) [] oM rfl (by kernel_rfl) (by kernel_rfl) ?_ (fun _ _ h=>h) (fun _ _ _ _ h _ k=>h.trans k) trivial ?_ ?_ ?_
 ·exact ⟨hV,hE,⟨hV,hE,⟨hV,hE,⟨hV,hE,⟨hV,hE,⟨hV,hE,⟨hV,hE,⟨hV,hE,⟨hV,hE,⟨hV,hE,⟨hV,hE,⟨hV,hE,⟨hV,hE,⟨(fun e v w R h hk=>by obtain ⟨T,V,he,W,X,hap⟩:=h;exact ⟨T,V,he,mz W hk,X,hap⟩),hE,trivial⟩⟩⟩⟩⟩⟩⟩⟩⟩⟩⟩⟩⟩⟩
 ·exact trivial
 ·refine ⟨?_,⟨?_,⟨?_,⟨?_,⟨?_,⟨?_,⟨?_,⟨?_,⟨?_,⟨?_,⟨?_,⟨?_,⟨?_,⟨?_,trivial⟩⟩⟩⟩⟩⟩⟩⟩⟩⟩⟩⟩⟩⟩
  ·intro _ b bP _
   iterate 14 intro _
   refine sw<|mw (vs l f.length m) ?_
   exact f1
  ·intro _ b aG _
   have aH:=u.extk aG
   rintro _ rfl;iterate 13 intro _
   refine sw<|ln wN mR (C.from0 aH) ?_
   exact f1
  ·intro _ b bQ _
   rintro _ rfl _ rfl _ _ _ _ _ _ _ _ _ _ _ _
   refine sw<|pu (vb (!(decide ((f.length:Int)=32)))) wN ?_
   exact f1
  ·intro _ b bR _
   rintro _ rfl _ rfl _ rfl _ _ _ _ _ _ _ _ _ _ _
   refine sw<|mw (vb (!(decide ((f.length:Int)=32)))) ?_
   exact f1
  ·intro _ b bS _
   rintro _ rfl _ rfl _ rfl _ rfl _ _ _ _ _ _ _ _ _ _
   refine sw<|mv (vs s (nA d a).length t) (wS (cA not i)) ?_
   exact f1
  ·intro _ b aI _
   rintro _ rfl _ rfl _ rfl _ rfl _ rfl _ _ _ _ _ _ _ _ _
   refine sw ?_
   have aJ:=(mz S aI)
   refine ln (wS (cA not i)) mR (Rd.of_own aJ) ?_
   exact f1
  ·intro _ b bT _
   rintro _ rfl _ rfl _ rfl _ rfl _ rfl _ rfl _ _ _ _ _ _ _ _
   refine sw<|pu (vb (decide (((nA d a).length:Int)=0))) (wS (cA not i)) ?_
   exact f1
  ·intro _ b bU _
   iterate 7 rintro _ rfl
   intro _ _ _ _ _ _ _
   refine sw<|pf (vb (decide (((nA d a).length:Int)=0))) wN (cA not i) ?_
   exact f1
  ·intro _ b bW _
   iterate 8 rintro _ rfl
   intro _ _ _ _ _ _
   refine sw<|mw (vb (decide (((nA d a).length:Int)=0))) ?_
   exact f1
  ·intro _ b bX _
   iterate 9 rintro _ rfl
   intro _ _ _ _ _
   refine sw<|pu (vp p 10) (wS g) ?_
   exact f1
  ·intro _ b aK _
   iterate 10 rintro _ rfl
   intro _ _ _ _
   refine sw ?_
   have aL:=((y.kp r).kp aK)
   refine ld (vs H a.Tag.length I) (wS g) nd aL ?_
   exact f1
  ·intro _ b bY _
   iterate 9 rintro _ rfl
   intro _ _ _ _ _
   refine sw<|mv (vs l f.length m) (wS g) ?_
   exact f1
  ·intro _ b bZ _
   iterate 9 rintro _ rfl
   intro _ _ _ _ _
   refine sw<|mv (vs s (nA d a).length t) (wS g) ?_
   exact f1
  ·intro _ b Y _
   have aM:=u.extk Y
   iterate 9 rintro _ rfl
   rintro _ _ _ rfl _ rfl _
   refine sw ?_
   have aN:=(mz S Y)
   refine cl (wS g) (CX b _ f (nH (C.from0 aM) ae) _ (nA d a) (nH (Rd.of_own aN) a5)) ?_
   rintro _ Z ⟨aO,⟨ca,cb,rfl,aP,aQ,aR⟩⟩
   have cc:=rL f (nA d a)
   exact nK aO ⟨_,_,rfl,(mO aP Y.size),aQ,aR⟩
 ·intro _ b A
  have ao:=u.extk A
  iterate 13 rintro _ rfl
  rintro _ ⟨cd,ce,rfl,aS,aT,cg⟩
  have ci:=rL f (nA d a)
  refine sw<|cl (wS g) (yV b _ a.Tag (nH (ak.from0 ao) am) _ (si f (nA d a)) (nH (Rd.of_own aS) aT)) ?_
  rintro _ Z ⟨B,rfl⟩
  have aa:=ao.extk B
  refine pu (vb (!(qw a.Tag (si f (nA d a))))) (wS g) ?_
  refine pf (vb (!(qw a.Tag (si f (nA d a))))) wN g ?_
  refine n2 ?_
  rcases bf (qw a.Tag (si f (nA d a))) with J|J
  ·refine ct (cA not J)<|sr<|aw (vs none 0 0) ?_
   refine aw vF ?_
   refine n1<|rE (.inl rfl) (vs none 0 0) vF rfl rfl rfl ?_
   refine ⟨aa.keep0,?_⟩
   simp only [oO,i,g,J,cond_true,cond_false]
   exact ⟨_,_,rfl,(nM _ _ _ _),(by simp),⟨trivial,trivial⟩⟩
  refine cf (cA not J)<|nm<|mP<|nh<|ob ([(29,[],[],(fun _ v _=>v=(vs l f.length m))),(30,[],[],(fun _ v _=>v=(vi d))),(31,[],[],(fun _ v _=>v=(vp p 3))),(32,[],[2],(fun _ v _=>v=(vs D a.Sn.length E))),(33,[],[],(fun _ v _=>v=(vp p 7))),(34,[],[4],(fun _ v _=>v=(vi a.Epoch))),(35,[],[],(fun _ v _=>v=(vp p 8))),(36,[],[6],(fun _ v _=>v=(vi a.Seq))),(37,[],[1,2,3,4,5,6,7],(fun _ v w=>rr w Z.heap.size v (nI d a.Sn a.Epoch a.Seq))),(38,[],[],(fun _ v _=>v=(vp p 9))),(39,[],[9],(fun _ v _=>v=(vs F a.Body.length G)))]:GV) (fun _ o=>Keep Z o) [] oM rfl (by kernel_rfl) (by kernel_rfl) ?_ (fun _ _ h=>h) (fun _ _ _ _ h _ k=>h.trans k) trivial ?_ ?_ ?_
  ·exact ⟨hV,hE,⟨hV,hE,⟨hV,hE,⟨hV,hE,⟨hV,hE,⟨hV,hE,⟨hV,hE,⟨hV,hE,⟨(fun e v w R h hk=>by obtain ⟨T,V,he,W,X,hap⟩:=h;exact ⟨T,V,he,mz W hk,X,hap⟩),hE,⟨hV,hE,⟨hV,hE,trivial⟩⟩⟩⟩⟩⟩⟩⟩⟩⟩⟩
  ·exact trivial
  ·refine ⟨?_,⟨?_,⟨?_,⟨?_,⟨?_,⟨?_,⟨?_,⟨?_,⟨?_,⟨?_,⟨?_,trivial⟩⟩⟩⟩⟩⟩⟩⟩⟩⟩⟩
   ·intro _ j cj _
    rintro _ _ _ _ _ _ _ _ _ _ _
    refine sw<|mw (vs l f.length m) ?_
    exact f1
   ·intro _ j ck _
    rintro _ _ _ _ _ _ _ _ _ _ _
    refine sw<|mw (vi d) ?_
    exact f1
   ·intro _ j cm _
    rintro _ _ _ _ _ _ _ _ _ _ _
    refine sw<|pu (vp p 3) wN ?_
    exact f1
   ·intro _ j aU _
    rintro _ _ _ rfl _ _ _ _ _ _ _ _
    refine sw ?_
    have aV:=((((y.kp r).kp A).kp B).kp aU)
    refine ld (vs D a.Sn.length E) wN nd aV ?_
    exact f1
   ·intro _ j cn _
    rintro _ _ _ _ _ _ _ _ _ _ _
    refine sw<|pu (vp p 7) wN ?_
    exact f1
   ·intro _ j aW _
    rintro _ _ _ _ _ rfl _ _ _ _ _ _
    refine sw ?_
    have aX:=((((y.kp r).kp A).kp B).kp aW)
    refine ld (vi a.Epoch) wN mT aX ?_
    exact f1
   ·intro _ j co _
    rintro _ _ _ _ _ _ _ _ _ _ _
    refine sw<|pu (vp p 8) wN ?_
    exact f1
   ·intro _ j aY _
    rintro _ _ _ _ _ _ _ rfl _ _ _ _
    refine sw ?_
    have aZ:=((((y.kp r).kp A).kp B).kp aY)
    refine ld (vi a.Seq) wN mT aZ ?_
    exact f1
   ·intro _ j ap _
    have ba:=aa.extk ap
    rintro _
    iterate 7 rintro _ rfl
    intro _ _ _
    refine sw<|cl wN (xd j d _ a.Sn (nH (af.from0 ba) ah) a.Epoch a.Seq) ?_
    rintro _ bb ⟨bc,⟨cp,cq,rfl,bd,be,bg⟩⟩
    have cr:=qb d a.Sn a.Epoch a.Seq
    exact nK bc ⟨_,_,rfl,(mO bd ap.size),be,bg⟩
   ·intro _ j cs _
    rintro _ _ _ _ _ _ _ _ _ _ _
    refine sw<|pu (vp p 9) wN ?_
    exact f1
   ·intro _ j bh _
    rintro _ _ _ _ _ _ _ _ _ _ rfl _
    refine sw ?_
    have bi:=((((y.kp r).kp A).kp B).kp bh)
    refine ld (vs F a.Body.length G) wN nd bi ?_
    exact f1
  ·intro _ j aq
   have ab:=aa.extk aq
   iterate 8 rintro _ rfl
   rintro _ ⟨cu,cv,rfl,bj,bk,cw⟩
   have cy:=qb d a.Sn a.Epoch a.Seq
   rintro _ rfl _ rfl
   refine sw<|cl wN (CZ j _ f (nH (C.from0 ab) ae) _ (nI d a.Sn a.Epoch a.Seq) (nH (Rd.of_own bj) bk) _ a.Body (nH (ai.from0 ab) aj)) ?_
   rintro _ bb ⟨bl,⟨au,av,rfl,bm,bn,cz⟩⟩
   have bo:=ab.extk bl
   have c0:=tn f (nI d a.Sn a.Epoch a.Seq) a.Body
   refine aw (vs au (ri f (nI d a.Sn a.Epoch a.Seq) a.Body).length av) ?_
   refine aw vT ?_
   refine n3<|rE (.inl rfl) (vs au (ri f (nI d a.Sn a.Epoch a.Seq) a.Body).length av) vT rfl rfl rfl ?_
   refine ⟨bo.keep0,?_⟩
   simp only [oO,i,g,J,cond_true,cond_false]
   exact ⟨_,_,rfl,(mO bm (z5 an r A B aq)),bn,⟨trivial,trivial⟩⟩

def wa (w:World) (lo:Nat) (v:Value) (x:(PEp)×(List UInt8)×(Int)):Prop:=∃ (a:Option Addr) (b:Nat) (d:Option Addr) (e:Nat) (f:Option Addr) (g:Nat),v=.tuple #[.agg #[.int .i64 x.1.N,.slice a x.1.Key.length b,.int .i64 x.1.Seq,.int .i64 x.1.Win.Top,.slice d x.1.Win.Bits.length e],.slice f x.2.1.length g,.int .i64 x.2.2]∧w.ownsRow lo 5 1 (.slice a x.1.Key.length b) x.1.Key.length (x.1.Key.map bV)∧x.1.Key.length≤1073741824∧w.ownsRow lo 3 1 (.slice d x.1.Win.Bits.length e) x.1.Win.Bits.length (x.1.Win.Bits.map iV)∧x.1.Win.Bits.length≤1073741824∧w.ownsRow lo 5 1 (.slice f x.2.1.length g) x.2.1.length (x.2.1.map bV)∧x.2.1.length≤1073741824∧Aps [(a,b),(d,e),(f,g)]
def mS (a:PEp) (d:Int) (b:PFrame):(PEp)×(List UInt8)×(Int):=bif (pd a) then (bif (decide (((nA d b).length:Int)=0)) then (((a),[],1)) else (bif (decide (b.Epoch=a.N)) then (bif ((rp a.Win b.Seq).2) then (bif ((oO a.Key d b).2) then (({(a) with Win:=((rp a.Win b.Seq).1):PEp},(oO a.Key d b).1,0)) else (((a),[],2))) else (((a),[],3))) else (((a),[],1)))) else (((a),[],1))
theorem uY (Q:World) (aG:Value) (a:PEp) (bm:xn Q aG a) (g:Int) (aH:Value) (b:PFrame) (bn:vg Q aH b) :Fn Tryz.prog 47 #[aG,(vi g),aH] Q (fun v aI=>Keep Q aI∧wa aI Q.heap.size v (mS a g b)):=by
 obtain ⟨X,Y,Z,aa,rfl,a5,a6,a7,a8⟩:=bm
 obtain ⟨af,ah,ai,aj,ak,am,an,ao,ap,aq,au,av,rfl,aJ,aK,aL,aM,aN,aO,aP,aQ,aR,aS,aT,aU⟩:=bn
 refine nu (n:=59) [(va (oi a X Y Z aa)),(vi g),(va (oD b af ah ai aj ak am an ao ap aq au av))] Tryz.func47 rfl rfl ?_
 refine sr<|bx (oi a X Y Z aa) wN ?_
 intro ax cg ci aV t bo
 refine bx (oD b af ah ai aj ak am an ao ap aq au av) wN ?_
 intro a9 cj ck aW l bp
 refine al se wN pm ?_
 intro bq J ay y m az
 have aA:=(((Ch.base Q).extk t).extk l).extk m
 refine aw (vs none 0 0) ?_
 refine aw (vi 0) ?_
 refine nx ?_
 have aX:=((bo.kp l).kp m)
 refine lN (oi a X Y Z aa) wN nv mY aX ?_
 refine cl wN (uW J _ a (qs (a5.from0 aA) a6 (a7.from0 aA) a8)) ?_
 rintro _ O ⟨i,⟨p,q,B,C,rfl,I,a0,R,aB,aC⟩⟩
 refine al se wN pm ?_
 intro aY cm A ab j br
 refine sv (oi (a) p q B C) wN mY br ?_
 intro bu f a1 cn
 have a2:=((aA.extk i).extk j).ext f (fun k hk=>by subst hk;exact nT (z4 t l m i) A)
 refine n4<|jT1 [(1,(vi g)),(3,(vp ax 0)),(5,(vp a9 0)),(6,(vp bq 0)),(7,(vs none 0 0)),(8,(vi 0)),(9,(vp aY 0))] (mS a g b=((a),[],1)) ?_ fun aD=>?_
 ·intro bv aZ a3 co
  refine sr ?_
  have bw:=(a1.kp a3)
  refine lN (oi (a) p q B C) wN nv mY bw ?_
  have bz:=((((az.kp i).kp j).ch f (nN (nL y (nT i.size A)))).kp a3)
  refine sv (oi (a) p q B C) wN mY bz ?_
  intro ba bb b0 cp
  have b1:=(a2.extk a3).ext bb (fun k hk=>by subst hk;exact nT (z2 t l) ay)
  refine aw (vs none 0 0) ?_
  refine aw (vi 1) ?_
  refine n1 ?_
  have bc:=fun (E sz n:Nat) (v:Value) (F:List Value) (o:World.ownsRow O J.heap.size E sz v n F) (x:World.ownsRow O J.heap.size E sz v n F)=>(gc (mz (gc (mz o j) f (ne2 x (A))) a3) bb (ne1 x (y)))
  have b2:=(bc _ _ _ _ _ I I)
  have b3:=(bc _ _ _ _ _ R R)
  refine rc3 (oi (a) p q B C) (vs none 0 0) (vi 1) b0 nv mY ?_
  refine ⟨b1.keep0,?_⟩
  rw [bv]
  exact ⟨_,_,_,_,_,_,rfl,(mO b2 (z3 t l m)),a0,(mO b3 (z3 t l m)),aB,(nM _ _ _ _),(by simp),⟨⟨(aC.1.1),⟨(Ap.nr _),trivial⟩⟩,⟨⟨(Ap.nr _),trivial⟩,⟨trivial,trivial⟩⟩⟩⟩
 have bd:=(((aX.kp i).kp j).ch f (nN (nL aV (nT (z3 l m i) A))))
 refine lN (oi a X Y Z aa) wN nv mY bd ?_
 refine cl wN (yZ bu _ a (qs (a5.from0 a2) a6 (a7.from0 a2) a8)) ?_
 rintro _ aZ ⟨d,rfl⟩
 have P:=a2.extk d
 refine pu (vb (!(pd a))) wN ?_
 refine mw (vb (!(pd a))) ?_
 rcases bf (pd a) with u|u
 ·iterate 5 refine sk (cA not u) ?_
  refine pk vT wN (cA not u) ?_
  refine mw vT ?_
  iterate 5 refine sk T1 ?_
  refine pk vT wN T1 ?_
  refine n2<|ct T1 ?_
  have b4:mS a g b=((a),[],1):=by simp only [mS,u,cond_true,cond_false]
  exact wj (aD b4 _ d)
 have cq:=rx u
 refine mv (vi g) (wS (cA not u)) ?_
 have be:=(((((bp.kp m).kp i).kp j).ch f (nN (nL aW (nT (z2 m i) A)))).kp d)
 refine lN (oD b af ah ai aj ak am an ao ap aq au av) (wS (cA not u)) nk mZ be ?_
 refine cl (wS (cA not u)) (uv aZ g _ b (qI (aJ.from0 P) aK (aL.from0 P) aM (aN.from0 P) aO (aP.from0 P) aQ (aR.from0 P) aS (aT.from0 P) aU)) ?_
 rintro _ ba ⟨e,⟨cr,cs,rfl,b5,_⟩⟩
 have bg:=P.extk e
 refine ln (wS (cA not u)) mR (Rd.of_own b5) ?_
 refine pu (vb (decide (((nA g b).length:Int)=0))) (wS (cA not u)) ?_
 refine pf (vb (decide (((nA g b).length:Int)=0))) wN (cA not u) ?_
 refine mw (vb (decide (((nA g b).length:Int)=0))) ?_
 rcases bt (decide (((nA g b).length:Int)=0)) with w|w
 ·have cu:=dT w
  iterate 5 refine sk w ?_
  refine pk vT wN w ?_
  refine n2<|ct T1 ?_
  have b6:mS a g b=((a),[],1):=by simp only [mS,u,w,cond_true,cond_false]
  exact wj (aD b6 _ (d.trans e))
 have cv:=dF w
 refine pu (vp a9 7) (wS w) ?_
 have aE:=(be.kp e)
 refine ld (vi b.Epoch) (wS w) mT aE ?_
 refine pu (vp ax 0) (wS w) ?_
 have aF:=((bd.kp d).kp e)
 refine ld (vi a.N) (wS w) mT aF ?_
 refine pu (vb (!(decide (b.Epoch=a.N)))) (wS w) ?_
 refine pf (vb (!(decide (b.Epoch=a.N)))) wN w ?_
 refine n2 ?_
 rcases bf (decide (b.Epoch=a.N)) with K|K
 ·have cw:=dF K
  refine ct (cA not K) ?_
  have b7:mS a g b=((a),[],1):=by simp only [mS,u,w,K,cond_true,cond_false]
  exact wj (aD b7 _ (d.trans e))
 have cy:=dT K
 refine cf (cA not K)<|y1<|pu (vp ax 3) wN ?_
 refine lN (pn a.Win Z aa) wN nJ ni aF ?_
 refine pu (vp a9 8) wN ?_
 refine ld (vi b.Seq) wN mT aE ?_
 refine cl wN (Ah ba _ a.Win (qX (a7.from0 bg) a8) b.Seq) ?_
 rintro _ cz ⟨h,⟨G,H,rfl,S,b8,c0⟩⟩
 refine mw (.tuple #[(va (pn ((rp a.Win b.Seq).1) G H)),(vb ((rp a.Win b.Seq).2))]) ?_
 refine pu (va (pn ((rp a.Win b.Seq).1) G H)) wN ?_
 refine pu (vb ((rp a.Win b.Seq).2)) wN ?_
 refine al [(vi 0),(vs none 0 0)] wN pX ?_
 intro c1 c2 D c3 r b9
 refine sv (pn ((rp a.Win b.Seq).1) G H) wN ni b9 ?_
 intro bA s bB c4
 have L:=((bg.extk h).extk r).ext s (fun k hk=>by subst hk;exact nT (z9 t l m i j f d e h) D)
 refine aw (vb ((rp a.Win b.Seq).2)) ?_
 refine n4<|mw (vb ((rp a.Win b.Seq).2)) ?_
 refine pu (vb (!((rp a.Win b.Seq).2))) wN ?_
 refine n2 ?_
 rcases bf ((rp a.Win b.Seq).2) with T|T
 ·refine ct (cA not T)<|sr ?_
  have bC:=(((((a1.kp d).kp e).kp h).kp r).ch s (nN (nL ab (nT (z4 f d e h) D))))
  refine lN (oi (a) p q B C) wN nv mY bC ?_
  have bD:=((((((((az.kp i).kp j).ch f (nN (nL y (nT i.size A)))).kp d).kp e).kp h).kp r).ch s (nN (nL y (nT (z6 i j f d e h) D))))
  refine sv (oi (a) p q B C) wN mY bD ?_
  intro bE bh bF c5
  have bG:=L.ext bh (fun k hk=>by subst hk;exact nT (z2 t l) ay)
  refine aw (vs none 0 0) ?_
  refine aw (vi 3) ?_
  refine n1 ?_
  have bi:=fun (E sz n:Nat) (v:Value) (F:List Value) (o:World.ownsRow O J.heap.size E sz v n F) (x:World.ownsRow O J.heap.size E sz v n F)=>(gc (gc (mz (mz (mz (mz (gc (mz o j) f (ne2 x (A))) d) e) h) r) s (ne2 x (nT (z5 j f d e h) D))) bh (ne1 x (y)))
  have bH:=(bi _ _ _ _ _ I I)
  have bI:=(bi _ _ _ _ _ R R)
  refine rc3 (oi (a) p q B C) (vs none 0 0) (vi 3) bF nv mY ?_
  refine ⟨bG.keep0,?_⟩
  simp only [mS,u,w,K,T,cond_true,cond_false]
  exact ⟨_,_,_,_,_,_,rfl,(mO bH (z3 t l m)),a0,(mO bI (z3 t l m)),aB,(nM _ _ _ _),(by simp),⟨⟨(aC.1.1),⟨(Ap.nr _),trivial⟩⟩,⟨⟨(Ap.nr _),trivial⟩,⟨trivial,trivial⟩⟩⟩⟩
 refine cf (cA not T)<|y1<|pu (vp ax 1) wN ?_
 have bJ:=(((aF.kp h).kp r).ch s (nN (nL aV (nT (z8 l m i j f d e h) D))))
 refine ld (vs X a.Key.length Y) wN nd bJ ?_
 refine mw (vi g) ?_
 have bK:=(((aE.kp h).kp r).ch s (nN (nL aW (nT (z7 m i j f d e h) D))))
 refine lN (oD b af ah ai aj ak am an ao ap aq au av) wN nk mZ bK ?_
 refine cl wN (Ai bA _ a.Key (nH (a5.from0 L) a6) g _ b (qI (aJ.from0 L) aK (aL.from0 L) aM (aN.from0 L) aO (aP.from0 L) aQ (aR.from0 L) aS (aT.from0 L) aU)) ?_
 rintro _ bE ⟨M,⟨V,W,rfl,ac,bL,c6⟩⟩
 have bj:=L.extk M
 refine mw (.tuple #[(vs V ((oO a.Key g b).1).length W),(vb ((oO a.Key g b).2))]) ?_
 refine pu (vs V ((oO a.Key g b).1).length W) wN ?_
 refine pu (vb ((oO a.Key g b).2)) wN ?_
 refine aw (vs V ((oO a.Key g b).1).length W) ?_
 refine aw (vb ((oO a.Key g b).2)) ?_
 refine n4<|mw (vb ((oO a.Key g b).2)) ?_
 refine pu (vb (!((oO a.Key g b).2))) wN ?_
 refine n2 ?_
 rcases bf ((oO a.Key g b).2) with ad|ad
 ·refine ct (cA not ad)<|sr ?_
  have bM:=((((((a1.kp d).kp e).kp h).kp r).ch s (nN (nL ab (nT (z4 f d e h) D)))).kp M)
  refine lN (oi (a) p q B C) wN nv mY bM ?_
  have bN:=(((((((((az.kp i).kp j).ch f (nN (nL y (nT i.size A)))).kp d).kp e).kp h).kp r).ch s (nN (nL y (nT (z6 i j f d e h) D)))).kp M)
  refine sv (oi (a) p q B C) wN mY bN ?_
  intro bO bk bP c7
  have bQ:=bj.ext bk (fun k hk=>by subst hk;exact nT (z2 t l) ay)
  refine aw (vs none 0 0) ?_
  refine aw (vi 2) ?_
  refine n1 ?_
  have bl:=fun (E sz n:Nat) (v:Value) (F:List Value) (o:World.ownsRow O J.heap.size E sz v n F) (x:World.ownsRow O J.heap.size E sz v n F)=>(gc (mz (gc (mz (mz (mz (mz (gc (mz o j) f (ne2 x (A))) d) e) h) r) s (ne2 x (nT (z5 j f d e h) D))) M) bk (ne1 x (y)))
  have bR:=(bl _ _ _ _ _ I I)
  have bS:=(bl _ _ _ _ _ R R)
  refine rc3 (oi (a) p q B C) (vs none 0 0) (vi 2) bP nv mY ?_
  refine ⟨bQ.keep0,?_⟩
  simp only [mS,u,w,K,T,ad,cond_true,cond_false]
  exact ⟨_,_,_,_,_,_,rfl,(mO bR (z3 t l m)),a0,(mO bS (z3 t l m)),aB,(nM _ _ _ _),(by simp),⟨⟨(aC.1.1),⟨(Ap.nr _),trivial⟩⟩,⟨⟨(Ap.nr _),trivial⟩,⟨trivial,trivial⟩⟩⟩⟩
 refine cf (cA not ad)<|y1 ?_
 have bT:=(bB.kp M)
 refine lN (pn ((rp a.Win b.Seq).1) G H) wN nJ ni bT ?_
 refine pu (vp aY 3) wN ?_
 have bU:=((((((a1.kp d).kp e).kp h).kp r).ch s (nN (nL ab (nT (z4 f d e h) D)))).kp M)
 refine st (va (pn ((rp a.Win b.Seq).1) G H)) (pn ((rp a.Win b.Seq).1) G H) (oi {(a) with Win:=((rp a.Win b.Seq).1):PEp} p q G H) wN ni bU ?_
 intro bO ae bW c8
 have bX:=bj.ext ae (fun k hk=>by subst hk;exact nT (z4 t l m i) A)
 refine nx<|lN (oi {(a) with Win:=((rp a.Win b.Seq).1):PEp} p q G H) wN nv mY bW ?_
 refine mw (vs V ((oO a.Key g b).1).length W) ?_
 have bY:=((((((((((az.kp i).kp j).ch f (nN (nL y (nT i.size A)))).kp d).kp e).kp h).kp r).ch s (nN (nL y (nT (z6 i j f d e h) D)))).kp M).ch ae (nN (nL y (nT i.size A))))
 refine sv (oi {(a) with Win:=((rp a.Win b.Seq).1):PEp} p q G H) wN mY bY ?_
 intro c9 a4 bZ cC
 have ca:=bX.ext a4 (fun k hk=>by subst hk;exact nT (z2 t l) ay)
 refine aw (vs V ((oO a.Key g b).1).length W) ?_
 refine aw (vi 0) ?_
 refine n3 ?_
 have cb:=fun (E sz n:Nat) (v:Value) (F:List Value) (o:World.ownsRow O J.heap.size E sz v n F) (x:World.ownsRow O J.heap.size E sz v n F)=>(gc (gc (mz (gc (mz (mz (mz (mz (gc (mz o j) f (ne2 x (A))) d) e) h) r) s (ne2 x (nT (z5 j f d e h) D))) M) ae (ne2 x (A))) a4 (ne1 x (y)))
 have cc:=(cb _ _ _ _ _ I I)
 have cd:=(gc (gc (mz (gc (mz S r) s (ne2 S (D))) M) ae (ne1 S (nL ab (z3 f d e)))) a4 (ne1 S (nL y (z5 i j f d e))))
 have ce:=(gc (gc ac ae (ne1 ac (nL ab (z6 f d e h r s)))) a4 (ne1 ac (nL y (z8 i j f d e h r s))))
 refine rc3 (oi {(a) with Win:=((rp a.Win b.Seq).1):PEp} p q G H) (vs V ((oO a.Key g b).1).length W) (vi 0) bZ nv mY ?_
 refine ⟨ca.keep0,?_⟩
 simp only [mS,u,w,K,T,ad,cond_true,cond_false]
 exact ⟨_,_,_,_,_,_,rfl,(mO cc (z3 t l m)),a0,(mO cd (z8 t l m i j f d e)),b8,(mO ce (z11 t l m i j f d e h r s)),bL,⟨⟨(Ap.lt I S (z4 j f d e)),⟨(Ap.lt I ac (z7 j f d e h r s)),trivial⟩⟩,⟨⟨(Ap.lt S ac (z2 r s)),trivial⟩,⟨trivial,trivial⟩⟩⟩⟩

def vZ (w:World) (lo:Nat) (v:Value) (x:(PChan)×(List UInt8)×(Int)):Prop:=∃ (a:Option Addr) (b:Nat) (d:Option Addr) (e:Nat) (f:Option Addr) (g:Nat) (h:Option Addr) (i:Nat) (j:Option Addr) (k:Nat) (l:Option Addr) (m:Nat) (o:Option Addr) (p:Nat),v=.tuple #[.agg #[.int .i64 x.1.Role,.slice a x.1.Sn.length b,.int .i64 x.1.Cur.N,.slice d x.1.Cur.Key.length e,.int .i64 x.1.Cur.Seq,.int .i64 x.1.Cur.Win.Top,.slice f x.1.Cur.Win.Bits.length g,.int .i64 x.1.Old.N,.slice h x.1.Old.Key.length i,.int .i64 x.1.Old.Seq,.int .i64 x.1.Old.Win.Top,.slice j x.1.Old.Win.Bits.length k,.bool x.1.HasOld,.int .i64 x.1.Until,.slice l x.1.Next.length m],.slice o x.2.1.length p,.int .i64 x.2.2]∧w.ownsRow lo 5 1 (.slice a x.1.Sn.length b) x.1.Sn.length (x.1.Sn.map bV)∧x.1.Sn.length≤1073741824∧w.ownsRow lo 5 1 (.slice d x.1.Cur.Key.length e) x.1.Cur.Key.length (x.1.Cur.Key.map bV)∧x.1.Cur.Key.length≤1073741824∧w.ownsRow lo 3 1 (.slice f x.1.Cur.Win.Bits.length g) x.1.Cur.Win.Bits.length (x.1.Cur.Win.Bits.map iV)∧x.1.Cur.Win.Bits.length≤1073741824∧w.ownsRow lo 5 1 (.slice h x.1.Old.Key.length i) x.1.Old.Key.length (x.1.Old.Key.map bV)∧x.1.Old.Key.length≤1073741824∧w.ownsRow lo 3 1 (.slice j x.1.Old.Win.Bits.length k) x.1.Old.Win.Bits.length (x.1.Old.Win.Bits.map iV)∧x.1.Old.Win.Bits.length≤1073741824∧w.ownsRow lo 5 1 (.slice l x.1.Next.length m) x.1.Next.length (x.1.Next.map bV)∧x.1.Next.length≤1073741824∧w.ownsRow lo 5 1 (.slice o x.2.1.length p) x.2.1.length (x.2.1.map bV)∧x.2.1.length≤1073741824∧Aps [(a,b),(d,e),(f,g),(h,i),(j,k),(l,m),(o,p)]
theorem Ce {c:PChan} (h:nY c=true) (b:c.HasOld=true):c.Old.N=c.Cur.N - 1:=by
  simp only [nY,Bool.cond_false_right,Bool.and_eq_true] at h
  have a:=h.2.2.2.1
  simp only [pq,b,cond_true,Bool.cond_false_right,Bool.and_eq_true,decide_eq_true_eq] at a
  exact a.2.1
theorem AF {c:PChan} {e:Int} (h:nY c=true) (b:decide (e=c.Cur.N)=true) (a:(bif c.HasOld then (decide (e=c.Old.N)) else (false))=true):False:=by
  cases h0:c.HasOld
  · rw [h0] at a;cases a
  · rw [h0] at a
    have d:=Ce h h0
    have f:=dT b
    have g:=dT a
    omega
theorem AG {c:PChan} {e:Int} (b:decide (e=c.Cur.N)=true) (a:(bif (decide (0 < (c.Next.length:Int))) then (decide (e=(c.Cur.N+1))) else (false))=true):False:=by
  cases h0:decide (0 < (c.Next.length:Int))
  · rw [h0] at a;cases a
  · rw [h0] at a
    have d:=dT b
    have f:=dT a
    omega
theorem AE {c:PChan} {e:Int} (h:nY c=true) (a:(bif c.HasOld then (decide (e=c.Old.N)) else (false))=true) (b:(bif (decide (0 < (c.Next.length:Int))) then (decide (e=(c.Cur.N+1))) else (false))=true):False:=by
  cases h0:c.HasOld
  · rw [h0] at a;cases a
  · rw [h0] at a
    cases h6:decide (0 < (c.Next.length:Int))
    · rw [h6] at b;cases b
    · rw [h6] at b
      have d:=Ce h h0
      have f:=dT a
      have g:=dT b
      omega
def nQ (a:PChan) (d:Int) (b:PFrame):(PChan)×(List UInt8)×(Int):=bif (bif a.HasOld then (decide (b.Epoch=a.Old.N)) else (false)) then (bif (decide ((mS a.Old (1 - a.Role) b).2.2=0)) then (({(a) with Old:=((mS a.Old (1 - a.Role) b).1):PChan},(mS a.Old (1 - a.Role) b).2.1,0)) else (((a),[],(mS a.Old (1 - a.Role) b).2.2))) else (bif (bif (decide (0 < (a.Next.length:Int))) then (decide (b.Epoch=(a.Cur.N+1))) else (false)) then (bif (decide ((mS (nU (a.Cur.N+1) a.Next) (1 - a.Role) b).2.2=0)) then (({Role:=(a).Role,Sn:=(a).Sn,Cur:=((mS (nU (a.Cur.N+1) a.Next) (1 - a.Role) b).1),Old:=((a).Cur),HasOld:=true,Until:=(d+5),Next:=[]:PChan},(mS (nU (a.Cur.N+1) a.Next) (1 - a.Role) b).2.1,0)) else (((a),[],(mS (nU (a.Cur.N+1) a.Next) (1 - a.Role) b).2.2))) else (bif (decide ((mS a.Cur (1 - a.Role) b).2.2=0)) then (bif (decide (b.Epoch=a.Cur.N)) then (bif a.HasOld then (bif (decide (a.Until=(-1))) then (({(a) with Cur:=((mS a.Cur (1 - a.Role) b).1),Until:=(d+5):PChan},(mS a.Cur (1 - a.Role) b).2.1,0)) else (({(a) with Cur:=((mS a.Cur (1 - a.Role) b).1):PChan},(mS a.Cur (1 - a.Role) b).2.1,0))) else (({(a) with Cur:=((mS a.Cur (1 - a.Role) b).1):PChan},(mS a.Cur (1 - a.Role) b).2.1,0))) else (({Role:=(a).Role,Sn:=(a).Sn,Cur:=((mS a.Cur (1 - a.Role) b).1),Old:=((a).Cur),HasOld:=true,Until:=(d+5),Next:=[]:PChan},(mS a.Cur (1 - a.Role) b).2.1,0))) else (((a),[],(mS a.Cur (1 - a.Role) b).2.2))))
def oc (a:PChan) (b:Int) (d:PFrame):(PChan)×(List UInt8)×(Int):=bif (bif a.HasOld then (decide (d.Epoch=a.Old.N)) else (false)) then (bif (decide (a.Until=(-1))) then ((nQ a b d)) else (bif (decide (a.Until < b)) then (((a),[],9)) else ((nQ a b d)))) else ((nQ a b d))
def od (a:PChan) (d:Int) (b:PFrame):(PChan)×(List UInt8)×(Int):=bif (decide ((qh b.Sn a.Sn)=0)) then (bif (decide (b.Epoch=a.Cur.N)) then ((oc a d b)) else (bif (bif a.HasOld then (decide (b.Epoch=a.Old.N)) else (false)) then ((oc a d b)) else (bif (bif (decide (0 < (a.Next.length:Int))) then (decide (b.Epoch=(a.Cur.N+1))) else (false)) then ((oc a d b)) else (((a),[],8))))) else (((a),[],8))
def oP (a:PChan) (b:Int) (d:PFrame):(PChan)×(List UInt8)×(Int):=bif (decide (0 < (a.Next.length:Int))) then ((od a b d)) else ((od a b d))
def i_ChanOpen (a:PChan) (d:Int) (b:PFrame):(PChan)×(List UInt8)×(Int):=bif (nY a) then (bif (i_within d 0 1000000) then (bif (oZ b.Kind) then (bif (nW b) then (bif a.HasOld then ((oP a d b)) else ((oP a d b))) else (((a),[],1))) else (((a),[],1))) else (((a),[],1))) else (((a),[],1))
theorem uw (bL:World) (dU:Value) (a:PChan) (eG:zx bL dU a) (A:Int) (dV:Value) (b:PFrame) (eH:vg bL dV b) :Fn Tryz.prog 11 #[dU,(vi A),dV] bL (fun v dW=>Keep bL dW∧vZ dW bL.heap.size v (i_ChanOpen a A b)):=by
 obtain ⟨cv,cw,bz,b0,b1,b2,b3,b4,b5,b6,bM,bN,rfl,dm,dn,dp,dq,dr,ds,dt,du,dv,dw,cK,dx⟩:=eG
 obtain ⟨bO,bP,b7,b8,bQ,bR,bS,bT,bU,bW,bX,bY,rfl,cL,cM,cy,cz,cN,cO,cP,cQ,cR,cS,cT,cU⟩:=eH
 refine nu (n:=157) [(va (oj a cv cw bz b0 b1 b2 b3 b4 b5 b6 bM bN)),(vi A),(va (oD b bO bP b7 b8 bQ bR bS bT bU bW bX bY))] Tryz.func11 rfl rfl ?_
 refine sr<|bx (oj a cv cw bz b0 b1 b2 b3 b4 b5 b6 bM bN) wN ?_
 intro X hY hZ bk w eI
 refine bx (oD b bO bP b7 b8 bQ bR bS bT bU bW bX bY) wN ?_
 intro aJ ia ib bZ q eJ
 refine al tT wN pJ ?_
 intro b9 aj aK J s aL
 have bA:=(((Ch.base bL).extk w).extk q).extk s
 refine aw (vs none 0 0) ?_
 refine aw (vi 0) ?_
 refine nx ?_
 have dX:=((eI.kp q).kp s)
 refine lN (oj a cv cw bz b0 b1 b2 b3 b4 b5 b6 bM bN) wN nj mX dX ?_
 refine cl wN (xK aj _ a (rW (dm.from0 bA) dn (dp.from0 bA) dq (dr.from0 bA) ds (dt.from0 bA) du (dv.from0 bA) dw (cK.from0 bA) dx)) ?_
 rintro _ ak ⟨x,⟨G,H,B,C,D,F,Q,R,S,T,K,L,rfl,P,aM,Y,aY,Z,aZ,am,bl,an,bm,aa,ba,p⟩⟩
 refine al tT wN pJ ?_
 intro ao ic I ac r eK
 refine sv (oj (a) G H B C D F Q R S T K L) wN mX eK ?_
 intro eL m aV ie
 have bn:=((bA.extk x).extk r).ext m (fun k hk=>by subst hk;exact nT (z4 w q s x) I)
 refine n4<|jT1 [(1,(vi A)),(3,(vp X 0)),(5,(vp aJ 0)),(6,(vp b9 0)),(7,(vs none 0 0)),(8,(vi 0)),(9,(vp ao 0))] (i_ChanOpen a A b=((a),[],1)) ?_ fun cV=>?_
 ·intro eM dY cW ig
  refine sr ?_
  have eN:=(aV.kp cW)
  refine lN (oj (a) G H B C D F Q R S T K L) wN nj mX eN ?_
  have eO:=((((aL.kp x).kp r).ch m (nN (nL J (nT x.size I)))).kp cW)
  refine sv (oj (a) G H B C D F Q R S T K L) wN mX eO ?_
  intro dZ ea eP ih
  have eQ:=(bn.extk cW).ext ea (fun k hk=>by subst hk;exact nT (z2 w q) aK)
  refine aw (vs none 0 0) ?_
  refine aw (vi 1) ?_
  refine n1 ?_
  have ca:=fun (E sz n:Nat) (v:Value) (O:List Value) (o:World.ownsRow ak aj.heap.size E sz v n O) (t:World.ownsRow ak aj.heap.size E sz v n O)=>(gc (mz (gc (mz o r) m (ne2 t (I))) cW) ea (ne1 t (J)))
  have eR:=(ca _ _ _ _ _ P P)
  have eS:=(ca _ _ _ _ _ Y Y)
  have eT:=(ca _ _ _ _ _ Z Z)
  have eU:=(ca _ _ _ _ _ am am)
  have eV:=(ca _ _ _ _ _ an an)
  have eW:=(ca _ _ _ _ _ aa aa)
  refine rc3 (oj (a) G H B C D F Q R S T K L) (vs none 0 0) (vi 1) eP nj mX ?_
  refine ⟨eQ.keep0,?_⟩
  rw [eM]
  exact ⟨_,_,_,_,_,_,_,_,_,_,_,_,_,_,rfl,(mO eR (z3 w q s)),aM,(mO eS (z3 w q s)),aY,(mO eT (z3 w q s)),aZ,(mO eU (z3 w q s)),bl,(mO eV (z3 w q s)),bm,(mO eW (z3 w q s)),ba,(nM _ _ _ _),(by simp),⟨⟨(p.1.1),⟨(p.1.2.1),⟨(p.1.2.2.1),⟨(p.1.2.2.2.1),⟨(p.1.2.2.2.2.1),⟨(Ap.nr _),trivial⟩⟩⟩⟩⟩⟩,⟨⟨(p.2.1.1),⟨(p.2.1.2.1),⟨(p.2.1.2.2.1),⟨(p.2.1.2.2.2.1),⟨(Ap.nr _),trivial⟩⟩⟩⟩⟩,⟨⟨(p.2.2.1.1),⟨(p.2.2.1.2.1),⟨(p.2.2.1.2.2.1),⟨(Ap.nr _),trivial⟩⟩⟩⟩,⟨⟨(p.2.2.2.1.1),⟨(p.2.2.2.1.2.1),⟨(Ap.nr _),trivial⟩⟩⟩,⟨⟨(p.2.2.2.2.1.1),⟨(Ap.nr _),trivial⟩⟩,⟨⟨(Ap.nr _),trivial⟩,⟨trivial,trivial⟩⟩⟩⟩⟩⟩⟩⟩
 have ec:=(((dX.kp x).kp r).ch m (nN (nL bk (nT (z3 q s x) I))))
 refine lN (oj a cv cw bz b0 b1 b2 b3 b4 b5 b6 bM bN) wN nj mX ec ?_
 refine cl wN (uZ eL _ a (rW (dm.from0 bn) dn (dp.from0 bn) dq (dr.from0 bn) ds (dt.from0 bn) du (dv.from0 bn) dw (cK.from0 bn) dx)) ?_
 rintro _ dY ⟨h,rfl⟩
 refine pu (vb (!(nY a))) wN ?_
 refine mw (vb (!(nY a))) ?_
 rcases bf (nY a) with a0|a0
 ·iterate 3 refine sk (cA not a0) ?_
  refine pk vT wN (cA not a0) ?_
  refine mw vT ?_
  iterate 4 refine sk T1 ?_
  refine pk vT wN T1 ?_
  refine mw vT ?_
  iterate 3 refine sk T1 ?_
  refine pk vT wN T1 ?_
  refine n2<|ct T1 ?_
  have eX:i_ChanOpen a A b=((a),[],1):=by simp only [i_ChanOpen,a0,cond_true,cond_false]
  exact wj (cV eX _ h)
 have ii:=sx a0
 refine mv (vi A) (wS (cA not a0)) ?_
 refine cl (wS (cA not a0)) (oW dY A 0 1000000) ?_
 rintro _ dZ ⟨i,rfl⟩
 refine pu (vb (!(i_within A 0 1000000))) (wS (cA not a0)) ?_
 refine pf (vb (!(i_within A 0 1000000))) wN (cA not a0) ?_
 refine mw (vb (!(i_within A 0 1000000))) ?_
 rcases bf (i_within A 0 1000000) with a3|a3
 ·have ij:=oe a3
  iterate 4 refine sk (cA not a3) ?_
  refine pk vT wN (cA not a3) ?_
  refine mw vT ?_
  iterate 3 refine sk T1 ?_
  refine pk vT wN T1 ?_
  refine n2<|ct T1 ?_
  have eY:i_ChanOpen a A b=((a),[],1):=by simp only [i_ChanOpen,a0,a3,cond_true,cond_false]
  exact wj (cV eY _ (h.trans i))
 have ik:=nD a3
 refine pu (vp aJ 0) (wS (cA not a3)) ?_
 have ed:=((((((eJ.kp s).kp x).kp r).ch m (nN (nL bZ (nT (z2 s x) I)))).kp h).kp i)
 refine ld (vi b.Kind) (wS (cA not a3)) mT ed ?_
 refine cl (wS (cA not a3)) (uX dZ b.Kind) ?_
 rintro _ eZ ⟨j,rfl⟩
 have bB:=((bn.extk h).extk i).extk j
 refine pu (vb (!(oZ b.Kind))) (wS (cA not a3)) ?_
 refine pf (vb (!(oZ b.Kind))) wN (cA not a3) ?_
 refine mw (vb (!(oZ b.Kind))) ?_
 rcases bf (oZ b.Kind) with aN|aN
 ·iterate 3 refine sk (cA not aN) ?_
  refine pk vT wN (cA not aN) ?_
  refine n2<|ct T1 ?_
  have fa:i_ChanOpen a A b=((a),[],1):=by simp only [i_ChanOpen,a0,a3,aN,cond_true,cond_false]
  exact wj (cV fa _ ((h.trans i).trans j))
 have ee:=(ed.kp j)
 refine lN (oD b bO bP b7 b8 bQ bR bS bT bU bW bX bY) (wS (cA not aN)) nk mZ ee ?_
 refine cl (wS (cA not aN)) (vV eZ _ b (qI (cL.from0 bB) cM (cy.from0 bB) cz (cN.from0 bB) cO (cP.from0 bB) cQ (cR.from0 bB) cS (cT.from0 bB) cU)) ?_
 rintro _ il ⟨l,rfl⟩
 refine pu (vb (!(nW b))) (wS (cA not aN)) ?_
 refine pf (vb (!(nW b))) wN (cA not aN) ?_
 refine n2 ?_
 rcases bf (nW b) with bC|bC
 ·refine ct (cA not bC) ?_
  have fb:i_ChanOpen a A b=((a),[],1):=by simp only [i_ChanOpen,a0,a3,aN,bC,cond_true,cond_false]
  exact wj (cV fb _ (((h.trans i).trans j).trans l))
 have im:=vJ bC
 refine cf (cA not bC)<|y1<|pu (vp aJ 7) wN ?_
 have bD:=(ee.kp l)
 refine ld (vi b.Epoch) wN mT bD ?_
 refine pu (vp X 2) wN ?_
 refine pu (vp X 2) wN ?_
 have bE:=((((ec.kp h).kp i).kp j).kp l)
 refine ld (vi a.Cur.N) wN mT bE ?_
 refine pu (vb (decide (b.Epoch=a.Cur.N))) wN ?_
 refine aw (vb (decide (b.Epoch=a.Cur.N))) ?_
 refine nx<|jB [(1,(vi A)),(3,(vp X 0)),(5,(vp aJ 0)),(6,(vp b9 0)),(7,(vs none 0 0)),(8,(vi 0)),(9,(vp ao 0)),(10,(vb (decide (b.Epoch=a.Cur.N)))),(11,(vb (bif a.HasOld then (decide (b.Epoch=a.Old.N)) else (false))))] (i_ChanOpen a A b=(oP a A b)) ?_ fun ef=>?_
 ·intro eg io e ip
  have eh:=(bB.extk l).extk e
  refine sr<|jB [(1,(vi A)),(3,(vp X 0)),(5,(vp aJ 0)),(6,(vp b9 0)),(7,(vs none 0 0)),(8,(vi 0)),(9,(vp ao 0)),(10,(vb (decide (b.Epoch=a.Cur.N)))),(11,(vb (bif a.HasOld then (decide (b.Epoch=a.Old.N)) else (false)))),(12,(vb (bif (decide (0 < (a.Next.length:Int))) then (decide (b.Epoch=(a.Cur.N+1))) else (false))))] (i_ChanOpen a A b=(od a A b)) ?_ fun ej=>?_
  ·intro c0 fc g iq
   have cX:=eh.extk g
   refine nh<|sr<|jT1 [(1,(vi A)),(3,(vp X 0)),(5,(vp aJ 0)),(6,(vp b9 0)),(7,(vs none 0 0)),(8,(vi 0)),(9,(vp ao 0)),(10,(vb (decide (b.Epoch=a.Cur.N)))),(11,(vb (bif a.HasOld then (decide (b.Epoch=a.Old.N)) else (false)))),(12,(vb (bif (decide (0 < (a.Next.length:Int))) then (decide (b.Epoch=(a.Cur.N+1))) else (false))))] (i_ChanOpen a A b=((a),[],8)) ?_ fun ek=>?_
   ·intro fd em cY ir
    refine sr ?_
    have fe:=(((((((aV.kp h).kp i).kp j).kp l).kp e).kp g).kp cY)
    refine lN (oj (a) G H B C D F Q R S T K L) wN nj mX fe ?_
    have ff:=((((((((((aL.kp x).kp r).ch m (nN (nL J (nT x.size I)))).kp h).kp i).kp j).kp l).kp e).kp g).kp cY)
    refine sv (oj (a) G H B C D F Q R S T K L) wN mX ff ?_
    intro en eo fg it
    have fh:=(cX.extk cY).ext eo (fun k hk=>by subst hk;exact nT (z2 w q) aK)
    refine aw (vs none 0 0) ?_
    refine aw (vi 8) ?_
    refine n1 ?_
    have cb:=fun (E sz n:Nat) (v:Value) (O:List Value) (o:World.ownsRow ak aj.heap.size E sz v n O) (t:World.ownsRow ak aj.heap.size E sz v n O)=>(gc (mz (mz (mz (mz (mz (mz (mz (gc (mz o r) m (ne2 t (I))) h) i) j) l) e) g) cY) eo (ne1 t (J)))
    have fi:=(cb _ _ _ _ _ P P)
    have fj:=(cb _ _ _ _ _ Y Y)
    have fk:=(cb _ _ _ _ _ Z Z)
    have fl:=(cb _ _ _ _ _ am am)
    have fm:=(cb _ _ _ _ _ an an)
    have fo:=(cb _ _ _ _ _ aa aa)
    refine rc3 (oj (a) G H B C D F Q R S T K L) (vs none 0 0) (vi 8) fg nj mX ?_
    refine ⟨fh.keep0,?_⟩
    rw [fd]
    exact ⟨_,_,_,_,_,_,_,_,_,_,_,_,_,_,rfl,(mO fi (z3 w q s)),aM,(mO fj (z3 w q s)),aY,(mO fk (z3 w q s)),aZ,(mO fl (z3 w q s)),bl,(mO fm (z3 w q s)),bm,(mO fo (z3 w q s)),ba,(nM _ _ _ _),(by simp),⟨⟨(p.1.1),⟨(p.1.2.1),⟨(p.1.2.2.1),⟨(p.1.2.2.2.1),⟨(p.1.2.2.2.2.1),⟨(Ap.nr _),trivial⟩⟩⟩⟩⟩⟩,⟨⟨(p.2.1.1),⟨(p.2.1.2.1),⟨(p.2.1.2.2.1),⟨(p.2.1.2.2.2.1),⟨(Ap.nr _),trivial⟩⟩⟩⟩⟩,⟨⟨(p.2.2.1.1),⟨(p.2.2.1.2.1),⟨(p.2.2.1.2.2.1),⟨(Ap.nr _),trivial⟩⟩⟩⟩,⟨⟨(p.2.2.2.1.1),⟨(p.2.2.2.1.2.1),⟨(Ap.nr _),trivial⟩⟩⟩,⟨⟨(p.2.2.2.2.1.1),⟨(Ap.nr _),trivial⟩⟩,⟨⟨(Ap.nr _),trivial⟩,⟨trivial,trivial⟩⟩⟩⟩⟩⟩⟩⟩
   refine jF1 [(1,(vi A)),(3,(vp X 0)),(5,(vp aJ 0)),(6,(vp b9 0)),(7,(vs none 0 0)),(8,(vi 0)),(9,(vp ao 0)),(10,(vb (decide (b.Epoch=a.Cur.N)))),(11,(vb (bif a.HasOld then (decide (b.Epoch=a.Old.N)) else (false)))),(12,(vb (bif (decide (0 < (a.Next.length:Int))) then (decide (b.Epoch=(a.Cur.N+1))) else (false))))] (i_ChanOpen a A b=(oc a A b)) ?_ fun dy=>?_
   ·intro cZ em d iu
    have ep:=cX.extk d
    refine y2<|jF1 [(1,(vi A)),(3,(vp X 0)),(5,(vp aJ 0)),(6,(vp b9 0)),(7,(vs none 0 0)),(8,(vi 0)),(9,(vp ao 0)),(10,(vb (decide (b.Epoch=a.Cur.N)))),(11,(vb (bif a.HasOld then (decide (b.Epoch=a.Old.N)) else (false)))),(12,(vb (bif (decide (0 < (a.Next.length:Int))) then (decide (b.Epoch=(a.Cur.N+1))) else (false))))] (i_ChanOpen a A b=(nQ a A b)) ?_ fun dz=>?_
    ·intro bb en f iv
     refine y1<|pu (vp X 2) wN ?_
     have da:=((((bE.kp e).kp g).kp d).kp f)
     refine lN (oi a.Cur bz b0 b1 b2) wN nv mY da ?_
     refine al se wN pm ?_
     intro iw iy M er y fp
     refine sv (oi a.Cur bz b0 b1 b2) wN mY fp ?_
     intro bo u d0 iz
     have aA:=((ep.extk f).extk y).ext u (fun k hk=>by subst hk;exact nT (t3 (z12 w q s x r m h i j l e g) d.size f.size) M)
     refine n4<|mw (vb (bif a.HasOld then (decide (b.Epoch=a.Old.N)) else (false))) ?_
     refine n2 ?_
     rcases bt (bif a.HasOld then (decide (b.Epoch=a.Old.N)) else (false)) with aq|aq
     ·refine ct aq<|mV ?_
      refine pu (vp X 7) wN ?_
      have es:=((da.kp y).ch u (nN (nL bk (nT (nT (z12 q s x r m h i j l e g d) f.size) M))))
      refine lN (oi a.Old b3 b4 b5 b6) wN nv mY es ?_
      refine sv (oi a.Old b3 b4 b5 b6) wN mY d0 ?_
      intro aO ap fq i0
      have bc:=aA.ext ap (fun k hk=>by subst hk;exact nT (t3 (z12 w q s x r m h i j l e g) d.size f.size) M)
      refine n4<|mw (vb (bif (decide (0 < (a.Next.length:Int))) then (decide (b.Epoch=(a.Cur.N+1))) else (false))) ?_
      refine n2 ?_
      rcases bt (bif (decide (0 < (a.Next.length:Int))) then (decide (b.Epoch=(a.Cur.N+1))) else (false)) with c1|c1
      ·exact (AE a0 aq c1).elim
      refine cf c1<|y1<|lN (oi a.Old b3 b4 b5 b6) wN nv mY fq ?_
      refine pu (vp X 0) wN ?_
      have fr:=(es.ch ap (nN (nL bk (nT (nT (z12 q s x r m h i j l e g d) f.size) M))))
      refine ld (vi a.Role) wN mT fr ?_
      refine ar (1 - a.Role) wN ?_
      have fs:=(((((((bD.kp e).kp g).kp d).kp f).kp y).ch u (nN (nL bZ (nT (z12 s x r m h i j l e g d f) M)))).ch ap (nN (nL bZ (nT (z12 s x r m h i j l e g d f) M))))
      refine lN (oD b bO bP b7 b8 bQ bR bS bT bU bW bX bY) wN nk mZ fs ?_
      refine cl wN (uY aO _ a.Old (qs (dt.from0 bc) du (dv.from0 bc) dw) (1 - a.Role) _ b (qI (cL.from0 bc) cM (cy.from0 bc) cz (cN.from0 bc) cO (cP.from0 bc) cQ (cR.from0 bc) cS (cT.from0 bc) cU)) ?_
      rintro _ bF ⟨a5,⟨aP,aQ,aR,aS,cc,cd,rfl,ce,ft,cg,fu,ci,fv,d1⟩⟩
      refine mw (.tuple #[(va (oi ((mS a.Old (1 - a.Role) b).1) aP aQ aR aS)),(vs cc ((mS a.Old (1 - a.Role) b).2.1).length cd),(vi ((mS a.Old (1 - a.Role) b).2.2))]) ?_
      refine pu (va (oi ((mS a.Old (1 - a.Role) b).1) aP aQ aR aS)) wN ?_
      refine pu (vs cc ((mS a.Old (1 - a.Role) b).2.1).length cd) wN ?_
      refine pu (vi ((mS a.Old (1 - a.Role) b).2.2)) wN ?_
      refine al se wN pm ?_
      intro i1 db bp i2 bq fw
      refine sv (oi ((mS a.Old (1 - a.Role) b).1) aP aQ aR aS) wN mY fw ?_
      intro dc br fx i3
      have et:=((bc.extk a5).extk bq).ext br (fun k hk=>by subst hk;exact nT (t7 (z12 w q s x r m h i j l e g) d.size f.size y.size u.size ap.size a5.size) bp)
      refine aw (vs cc ((mS a.Old (1 - a.Role) b).2.1).length cd) ?_
      refine aw (vi ((mS a.Old (1 - a.Role) b).2.2)) ?_
      refine n4<|mw (vi ((mS a.Old (1 - a.Role) b).2.2)) ?_
      refine pu (vb (!(decide ((mS a.Old (1 - a.Role) b).2.2=0)))) wN ?_
      refine n2 ?_
      rcases bf (decide ((mS a.Old (1 - a.Role) b).2.2=0)) with bG|bG
      ·have i4:=dF bG
       refine ct (cA not bG)<|sr ?_
       have fy:=((((((((((((((aV.kp h).kp i).kp j).kp l).kp e).kp g).kp d).kp f).kp y).ch u (nN (nL ac (nT (z9 m h i j l e g d f) M)))).ch ap (nN (nL ac (nT (z9 m h i j l e g d f) M)))).kp a5).kp bq).ch br (nN (nL ac (nT (nT (z12 m h i j l e g d f y u ap) a5.size) bp))))
       refine lN (oj (a) G H B C D F Q R S T K L) wN nj mX fy ?_
       refine mw (vi ((mS a.Old (1 - a.Role) b).2.2)) ?_
       have fz:=(((((((((((((((((aL.kp x).kp r).ch m (nN (nL J (nT x.size I)))).kp h).kp i).kp j).kp l).kp e).kp g).kp d).kp f).kp y).ch u (nN (nL J (nT (z11 x r m h i j l e g d f) M)))).ch ap (nN (nL J (nT (z11 x r m h i j l e g d f) M)))).kp a5).kp bq).ch br (nN (nL J (nT (t4 (z12 x r m h i j l e g d f y) u.size ap.size a5.size) bp))))
       refine sv (oj (a) G H B C D F Q R S T K L) wN mX fz ?_
       intro c2 eu f0 i5
       have f3:=et.ext eu (fun k hk=>by subst hk;exact nT (z2 w q) aK)
       refine aw (vs none 0 0) ?_
       refine aw (vi ((mS a.Old (1 - a.Role) b).2.2)) ?_
       refine n1 ?_
       have cj:=fun (E sz n:Nat) (v:Value) (O:List Value) (o:World.ownsRow ak aj.heap.size E sz v n O) (t:World.ownsRow ak aj.heap.size E sz v n O)=>(gc (gc (mz (mz (gc (gc (mz (mz (mz (mz (mz (mz (mz (mz (mz (gc (mz o r) m (ne2 t (I))) h) i) j) l) e) g) d) f) y) u (ne2 t (nT (z10 r m h i j l e g d f) M))) ap (ne2 t (nT (z10 r m h i j l e g d f) M))) a5) bq) br (ne2 t (nT (t3 (z12 r m h i j l e g d f y u) ap.size a5.size) bp))) eu (ne1 t (J)))
       have f4:=(cj _ _ _ _ _ P P)
       have f5:=(cj _ _ _ _ _ Y Y)
       have f6:=(cj _ _ _ _ _ Z Z)
       have f7:=(cj _ _ _ _ _ am am)
       have f8:=(cj _ _ _ _ _ an an)
       have f9:=(cj _ _ _ _ _ aa aa)
       refine rc3 (oj (a) G H B C D F Q R S T K L) (vs none 0 0) (vi ((mS a.Old (1 - a.Role) b).2.2)) f0 nj mX ?_
       refine ⟨f3.keep0,?_⟩
       rw [bb];simp only [nQ,aq,c1];try simp only [bG,cond_true,cond_false]
       exact ⟨_,_,_,_,_,_,_,_,_,_,_,_,_,_,rfl,(mO f4 (z3 w q s)),aM,(mO f5 (z3 w q s)),aY,(mO f6 (z3 w q s)),aZ,(mO f7 (z3 w q s)),bl,(mO f8 (z3 w q s)),bm,(mO f9 (z3 w q s)),ba,(nM _ _ _ _),(by simp),⟨⟨(p.1.1),⟨(p.1.2.1),⟨(p.1.2.2.1),⟨(p.1.2.2.2.1),⟨(p.1.2.2.2.2.1),⟨(Ap.nr _),trivial⟩⟩⟩⟩⟩⟩,⟨⟨(p.2.1.1),⟨(p.2.1.2.1),⟨(p.2.1.2.2.1),⟨(p.2.1.2.2.2.1),⟨(Ap.nr _),trivial⟩⟩⟩⟩⟩,⟨⟨(p.2.2.1.1),⟨(p.2.2.1.2.1),⟨(p.2.2.1.2.2.1),⟨(Ap.nr _),trivial⟩⟩⟩⟩,⟨⟨(p.2.2.2.1.1),⟨(p.2.2.2.1.2.1),⟨(Ap.nr _),trivial⟩⟩⟩,⟨⟨(p.2.2.2.2.1.1),⟨(Ap.nr _),trivial⟩⟩,⟨⟨(Ap.nr _),trivial⟩,⟨trivial,trivial⟩⟩⟩⟩⟩⟩⟩⟩
      have i6:=dT bG
      refine cf (cA not bG)<|nm<|mP<|nh<|ng<|sr<|mw (vb (decide (b.Epoch=a.Cur.N))) ?_
      refine aw (vb (decide (b.Epoch=a.Cur.N))) ?_
      refine n2 ?_
      rcases bt (decide (b.Epoch=a.Cur.N)) with ck|ck
      ·have i7:=dT ck
       exact (AF a0 ck aq).elim
      have i8:=dF ck
      refine cf ck<|sr<|mw (vb (bif a.HasOld then (decide (b.Epoch=a.Old.N)) else (false))) ?_
      refine aw (vb (bif a.HasOld then (decide (b.Epoch=a.Old.N)) else (false))) ?_
      refine n2<|ct aq<|mV ?_
      refine lN (oi ((mS a.Old (1 - a.Role) b).1) aP aQ aR aS) wN nv mY fx ?_
      refine pu (vp ao 7) wN ?_
      have fA:=((((((((((((((aV.kp h).kp i).kp j).kp l).kp e).kp g).kp d).kp f).kp y).ch u (nN (nL ac (nT (z9 m h i j l e g d f) M)))).ch ap (nN (nL ac (nT (z9 m h i j l e g d f) M)))).kp a5).kp bq).ch br (nN (nL ac (nT (nT (z12 m h i j l e g d f y u ap) a5.size) bp))))
      refine st (va (oi ((mS a.Old (1 - a.Role) b).1) aP aQ aR aS)) (oi ((mS a.Old (1 - a.Role) b).1) aP aQ aR aS) (oj {(a) with Old:=((mS a.Old (1 - a.Role) b).1):PChan} G H B C D F aP aQ aR aS K L) wN mY fA ?_
      intro c2 dd fB i9
      have fC:=et.ext dd (fun k hk=>by subst hk;exact nT (z4 w q s x) I)
      refine mW<|mQ<|mP<|sr ?_
      refine lN (oj {(a) with Old:=((mS a.Old (1 - a.Role) b).1):PChan} G H B C D F aP aQ aR aS K L) wN nj mX fB ?_
      refine mw (vs cc ((mS a.Old (1 - a.Role) b).2.1).length cd) ?_
      have fD:=((((((((((((((((((aL.kp x).kp r).ch m (nN (nL J (nT x.size I)))).kp h).kp i).kp j).kp l).kp e).kp g).kp d).kp f).kp y).ch u (nN (nL J (nT (z11 x r m h i j l e g d f) M)))).ch ap (nN (nL J (nT (z11 x r m h i j l e g d f) M)))).kp a5).kp bq).ch br (nN (nL J (nT (t4 (z12 x r m h i j l e g d f y) u.size ap.size a5.size) bp)))).ch dd (nN (nL J (nT x.size I))))
      refine sv (oj {(a) with Old:=((mS a.Old (1 - a.Role) b).1):PChan} G H B C D F aP aQ aR aS K L) wN mX fD ?_
      intro c3 d2 fE iA
      have fF:=fC.ext d2 (fun k hk=>by subst hk;exact nT (z2 w q) aK)
      refine aw (vs cc ((mS a.Old (1 - a.Role) b).2.1).length cd) ?_
      refine aw (vi 0) ?_
      refine n3 ?_
      have de:=fun (E sz n:Nat) (v:Value) (O:List Value) (o:World.ownsRow ak aj.heap.size E sz v n O) (t:World.ownsRow ak aj.heap.size E sz v n O)=>(gc (gc (gc (mz (mz (gc (gc (mz (mz (mz (mz (mz (mz (mz (mz (mz (gc (mz o r) m (ne2 t (I))) h) i) j) l) e) g) d) f) y) u (ne2 t (nT (z10 r m h i j l e g d f) M))) ap (ne2 t (nT (z10 r m h i j l e g d f) M))) a5) bq) br (ne2 t (nT (t3 (z12 r m h i j l e g d f y u) ap.size a5.size) bp))) dd (ne2 t (I))) d2 (ne1 t (J)))
      have fG:=(de _ _ _ _ _ P P)
      have fH:=(de _ _ _ _ _ Y Y)
      have fI:=(de _ _ _ _ _ Z Z)
      have d3:=fun (E sz n:Nat) (v:Value) (O:List Value) (o:World.ownsRow bF aO.heap.size E sz v n O) (t:World.ownsRow bF aO.heap.size E sz v n O)=>(gc (gc (gc (mz o bq) br (ne2 t (bp))) dd (ne1 t (nL ac (z12 m h i j l e g d f y u ap)))) d2 (ne1 t (nL J (t3 (z12 x r m h i j l e g d f y) u.size ap.size))))
      have fJ:=(d3 _ _ _ _ _ ce ce)
      have fK:=(d3 _ _ _ _ _ cg cg)
      have fL:=(de _ _ _ _ _ aa aa)
      have fM:=(d3 _ _ _ _ _ ci ci)
      refine rc3 (oj {(a) with Old:=((mS a.Old (1 - a.Role) b).1):PChan} G H B C D F aP aQ aR aS K L) (vs cc ((mS a.Old (1 - a.Role) b).2.1).length cd) (vi 0) fE nj mX ?_
      refine ⟨fF.keep0,?_⟩
      rw [bb];simp only [nQ,aq,c1];try simp only [bG,ck,cond_true,cond_false]
      have aB:=nT (z12 r m h i j l e g d f y u) ap.size
      have d4:=z12 w q s x r m h i j l e g
      exact ⟨_,_,_,_,_,_,_,_,_,_,_,_,_,_,rfl,(mO fG (z3 w q s)),aM,(mO fH (z3 w q s)),aY,(mO fI (z3 w q s)),aZ,(mO fJ (t6 d4 d.size f.size y.size u.size ap.size)),ft,(mO fK (t6 d4 d.size f.size y.size u.size ap.size)),fu,(mO fL (z3 w q s)),ba,(mO fM (t6 d4 d.size f.size y.size u.size ap.size)),fv,⟨⟨(p.1.1),⟨(p.1.2.1),⟨(Ap.lt P ce aB),⟨(Ap.lt P cg aB),⟨(p.1.2.2.2.2.1),⟨(Ap.lt P ci aB),trivial⟩⟩⟩⟩⟩⟩,⟨⟨(p.2.1.1),⟨(Ap.lt Y ce aB),⟨(Ap.lt Y cg aB),⟨(p.2.1.2.2.2.1),⟨(Ap.lt Y ci aB),trivial⟩⟩⟩⟩⟩,⟨⟨(Ap.lt Z ce aB),⟨(Ap.lt Z cg aB),⟨(p.2.2.1.2.2.1),⟨(Ap.lt Z ci aB),trivial⟩⟩⟩⟩,⟨⟨(d1.1.1),⟨(Ap.lt aa ce aB).symm,⟨(d1.1.2.1),trivial⟩⟩⟩,⟨⟨(Ap.lt aa cg aB).symm,⟨(d1.2.1.1),trivial⟩⟩,⟨⟨(Ap.lt aa ci aB),trivial⟩,⟨trivial,trivial⟩⟩⟩⟩⟩⟩⟩⟩
     refine cf aq<|y2<|mw (vb (bif (decide (0 < (a.Next.length:Int))) then (decide (b.Epoch=(a.Cur.N+1))) else (false))) ?_
     refine n2 ?_
     rcases bt (bif (decide (0 < (a.Next.length:Int))) then (decide (b.Epoch=(a.Cur.N+1))) else (false)) with aT|aT
     ·refine ct aT<|mV ?_
      refine pu (vp X 2) wN ?_
      refine pu (vp X 2) wN ?_
      have d5:=((da.kp y).ch u (nN (nL bk (nT (nT (z12 q s x r m h i j l e g d) f.size) M))))
      refine ld (vi a.Cur.N) wN mT d5 ?_
      refine ar (a.Cur.N+1) wN ?_
      refine pu (vp X 14) wN ?_
      refine ld (vs bM a.Next.length bN) wN nd d5 ?_
      refine cl wN (Bx bo (a.Cur.N+1) _ a.Next (nH (cK.from0 aA) dx)) ?_
      rintro _ aO ⟨W,⟨ew,ex,ey,ez,rfl,e0,fN,e1,fO,iB⟩⟩
      have fP:=(d0.kp W)
      refine sv (oi (nU (a.Cur.N+1) a.Next) ew ex ey ez) wN mY fP ?_
      intro bF V fQ iC
      have bH:=(aA.extk W).ext V (fun k hk=>by subst hk;exact nT (t3 (z12 w q s x r m h i j l e g) d.size f.size) M)
      refine nx<|lN (oi (nU (a.Cur.N+1) a.Next) ew ex ey ez) wN nv mY fQ ?_
      refine pu (vp X 0) wN ?_
      have fR:=((d5.kp W).ch V (nN (nL bk (nT (nT (z12 q s x r m h i j l e g d) f.size) M))))
      refine ld (vi a.Role) wN mT fR ?_
      refine ar (1 - a.Role) wN ?_
      have fS:=((((((((bD.kp e).kp g).kp d).kp f).kp y).ch u (nN (nL bZ (nT (z12 s x r m h i j l e g d f) M)))).kp W).ch V (nN (nL bZ (nT (z12 s x r m h i j l e g d f) M))))
      refine lN (oD b bO bP b7 b8 bQ bR bS bT bU bW bX bY) wN nk mZ fS ?_
      have fT:=(gc e0 V (ne1 e0 (nL er u.size)))
      have fU:=(gc e1 V (ne1 e1 (nL er u.size)))
      refine cl wN (uY bF _ (nU (a.Cur.N+1) a.Next) (qs (Rd.of_own fT) fN (Rd.of_own fU) fO) (1 - a.Role) _ b (qI (cL.from0 bH) cM (cy.from0 bH) cz (cN.from0 bH) cO (cP.from0 bH) cQ (cR.from0 bH) cS (cT.from0 bH) cU)) ?_
      rintro _ db ⟨a4,⟨aC,aD,aE,aF,cm,cn,rfl,c4,fV,c5,fW,c6,fX,d6⟩⟩
      refine mw (.tuple #[(va (oi ((mS (nU (a.Cur.N+1) a.Next) (1 - a.Role) b).1) aC aD aE aF)),(vs cm ((mS (nU (a.Cur.N+1) a.Next) (1 - a.Role) b).2.1).length cn),(vi ((mS (nU (a.Cur.N+1) a.Next) (1 - a.Role) b).2.2))]) ?_
      refine pu (va (oi ((mS (nU (a.Cur.N+1) a.Next) (1 - a.Role) b).1) aC aD aE aF)) wN ?_
      refine pu (vs cm ((mS (nU (a.Cur.N+1) a.Next) (1 - a.Role) b).2.1).length cn) wN ?_
      refine pu (vi ((mS (nU (a.Cur.N+1) a.Next) (1 - a.Role) b).2.2)) wN ?_
      refine al se wN pm ?_
      intro iD dc bd iE bu fY
      refine sv (oi ((mS (nU (a.Cur.N+1) a.Next) (1 - a.Role) b).1) aC aD aE aF) wN mY fY ?_
      intro c2 bv fZ iF
      have e2:=((bH.extk a4).extk bu).ext bv (fun k hk=>by subst hk;exact nT (t8 (z12 w q s x r m h i j l e g) d.size f.size y.size u.size W.size V.size a4.size) bd)
      refine aw (vs cm ((mS (nU (a.Cur.N+1) a.Next) (1 - a.Role) b).2.1).length cn) ?_
      refine aw (vi ((mS (nU (a.Cur.N+1) a.Next) (1 - a.Role) b).2.2)) ?_
      refine n4<|mw (vi ((mS (nU (a.Cur.N+1) a.Next) (1 - a.Role) b).2.2)) ?_
      refine pu (vb (!(decide ((mS (nU (a.Cur.N+1) a.Next) (1 - a.Role) b).2.2=0)))) wN ?_
      refine n2 ?_
      rcases bf (decide ((mS (nU (a.Cur.N+1) a.Next) (1 - a.Role) b).2.2=0)) with bI|bI
      ·have iG:=dF bI
       refine ct (cA not bI)<|sr ?_
       have ga:=(((((((((((((((aV.kp h).kp i).kp j).kp l).kp e).kp g).kp d).kp f).kp y).ch u (nN (nL ac (nT (z9 m h i j l e g d f) M)))).kp W).ch V (nN (nL ac (nT (z9 m h i j l e g d f) M)))).kp a4).kp bu).ch bv (nN (nL ac (nT (t3 (z12 m h i j l e g d f y u W) V.size a4.size) bd))))
       refine lN (oj (a) G H B C D F Q R S T K L) wN nj mX ga ?_
       refine mw (vi ((mS (nU (a.Cur.N+1) a.Next) (1 - a.Role) b).2.2)) ?_
       have gb:=((((((((((((((((((aL.kp x).kp r).ch m (nN (nL J (nT x.size I)))).kp h).kp i).kp j).kp l).kp e).kp g).kp d).kp f).kp y).ch u (nN (nL J (nT (z11 x r m h i j l e g d f) M)))).kp W).ch V (nN (nL J (nT (z11 x r m h i j l e g d f) M)))).kp a4).kp bu).ch bv (nN (nL J (nT (t5 (z12 x r m h i j l e g d f y) u.size W.size V.size a4.size) bd))))
       refine sv (oj (a) G H B C D F Q R S T K L) wN mX gb ?_
       intro c3 e3 gd iH
       have ge:=e2.ext e3 (fun k hk=>by subst hk;exact nT (z2 w q) aK)
       refine aw (vs none 0 0) ?_
       refine aw (vi ((mS (nU (a.Cur.N+1) a.Next) (1 - a.Role) b).2.2)) ?_
       refine n1 ?_
       have co:=fun (E sz n:Nat) (v:Value) (O:List Value) (o:World.ownsRow ak aj.heap.size E sz v n O) (t:World.ownsRow ak aj.heap.size E sz v n O)=>(gc (gc (mz (mz (gc (mz (gc (mz (mz (mz (mz (mz (mz (mz (mz (mz (gc (mz o r) m (ne2 t (I))) h) i) j) l) e) g) d) f) y) u (ne2 t (nT (z10 r m h i j l e g d f) M))) W) V (ne2 t (nT (z10 r m h i j l e g d f) M))) a4) bu) bv (ne2 t (nT (t4 (z12 r m h i j l e g d f y u) W.size V.size a4.size) bd))) e3 (ne1 t (J)))
       have gf:=(co _ _ _ _ _ P P)
       have gg:=(co _ _ _ _ _ Y Y)
       have gh:=(co _ _ _ _ _ Z Z)
       have gi:=(co _ _ _ _ _ am am)
       have gj:=(co _ _ _ _ _ an an)
       have gk:=(co _ _ _ _ _ aa aa)
       refine rc3 (oj (a) G H B C D F Q R S T K L) (vs none 0 0) (vi ((mS (nU (a.Cur.N+1) a.Next) (1 - a.Role) b).2.2)) gd nj mX ?_
       refine ⟨ge.keep0,?_⟩
       rw [bb];simp only [nQ,aq,aT];try simp only [bI,cond_true,cond_false]
       exact ⟨_,_,_,_,_,_,_,_,_,_,_,_,_,_,rfl,(mO gf (z3 w q s)),aM,(mO gg (z3 w q s)),aY,(mO gh (z3 w q s)),aZ,(mO gi (z3 w q s)),bl,(mO gj (z3 w q s)),bm,(mO gk (z3 w q s)),ba,(nM _ _ _ _),(by simp),⟨⟨(p.1.1),⟨(p.1.2.1),⟨(p.1.2.2.1),⟨(p.1.2.2.2.1),⟨(p.1.2.2.2.2.1),⟨(Ap.nr _),trivial⟩⟩⟩⟩⟩⟩,⟨⟨(p.2.1.1),⟨(p.2.1.2.1),⟨(p.2.1.2.2.1),⟨(p.2.1.2.2.2.1),⟨(Ap.nr _),trivial⟩⟩⟩⟩⟩,⟨⟨(p.2.2.1.1),⟨(p.2.2.1.2.1),⟨(p.2.2.1.2.2.1),⟨(Ap.nr _),trivial⟩⟩⟩⟩,⟨⟨(p.2.2.2.1.1),⟨(p.2.2.2.1.2.1),⟨(Ap.nr _),trivial⟩⟩⟩,⟨⟨(p.2.2.2.2.1.1),⟨(Ap.nr _),trivial⟩⟩,⟨⟨(Ap.nr _),trivial⟩,⟨trivial,trivial⟩⟩⟩⟩⟩⟩⟩⟩
      have iI:=dT bI
      refine cf (cA not bI)<|nm<|mP<|nh<|ng<|sr<|mw (vb (decide (b.Epoch=a.Cur.N))) ?_
      refine aw (vb (decide (b.Epoch=a.Cur.N))) ?_
      refine n2 ?_
      rcases bt (decide (b.Epoch=a.Cur.N)) with cp|cp
      ·have iJ:=dT cp
       exact (AG cp aT).elim
      have iK:=dF cp
      refine cf cp<|sr<|mw (vb (bif a.HasOld then (decide (b.Epoch=a.Old.N)) else (false))) ?_
      refine aw (vb (bif a.HasOld then (decide (b.Epoch=a.Old.N)) else (false))) ?_
      refine n2<|cf aq<|sr<|pu (vp ao 2) wN ?_
      have e4:=(((((((((((((((aV.kp h).kp i).kp j).kp l).kp e).kp g).kp d).kp f).kp y).ch u (nN (nL ac (nT (z9 m h i j l e g d f) M)))).kp W).ch V (nN (nL ac (nT (z9 m h i j l e g d f) M)))).kp a4).kp bu).ch bv (nN (nL ac (nT (t3 (z12 m h i j l e g d f y u W) V.size a4.size) bd))))
      refine lN (oi ((a).Cur) B C D F) wN nv mY e4 ?_
      refine mw (vi A) ?_
      refine ar (A+5) wN ?_
      refine pu (vp ao 7) wN ?_
      refine st (va (oi ((a).Cur) B C D F)) (oi ((a).Cur) B C D F) (oj {(a) with Old:=((a).Cur):PChan} G H B C D F B C D F K L) wN mY e4 ?_
      intro c3 c7 gl iM
      have gm:=e2.ext c7 (fun k hk=>by subst hk;exact nT (z4 w q s x) I)
      refine pu (vp ao 12) wN ?_
      refine sf (vb true) wN sj gl ?_
      intro gn c8 gp iN
      have gq:=gm.ext c8 (fun k hk=>by subst hk;exact nT (z4 w q s x) I)
      refine pu (vp ao 13) wN ?_
      refine sf (vi (A+5)) wN nV gp ?_
      intro gr c9 gs iO
      have gt:=gq.ext c9 (fun k hk=>by subst hk;exact nT (z4 w q s x) I)
      refine mW<|mP<|mV ?_
      have d7:=nL ac (nT (t3 (z12 m h i j l e g d f y u W) V.size a4.size) bd)
      have gu:=(((fZ.ch c7 (Ne.symm (nN d7))).ch c8 (Ne.symm (nN d7))).ch c9 (Ne.symm (nN d7)))
      refine lN (oi ((mS (nU (a.Cur.N+1) a.Next) (1 - a.Role) b).1) aC aD aE aF) wN nv mY gu ?_
      refine pu (vp ao 2) wN ?_
      refine st (va (oi ((mS (nU (a.Cur.N+1) a.Next) (1 - a.Role) b).1) aC aD aE aF)) (oi ((mS (nU (a.Cur.N+1) a.Next) (1 - a.Role) b).1) aC aD aE aF) [(vi ((a).Role)),(vs G ((a).Sn).length H),(vi (((mS (nU (a.Cur.N+1) a.Next) (1 - a.Role) b).1).N)),(vs aC (((mS (nU (a.Cur.N+1) a.Next) (1 - a.Role) b).1).Key).length aD),(vi (((mS (nU (a.Cur.N+1) a.Next) (1 - a.Role) b).1).Seq)),(vi ((((mS (nU (a.Cur.N+1) a.Next) (1 - a.Role) b).1).Win).Top)),(vs aE ((((mS (nU (a.Cur.N+1) a.Next) (1 - a.Role) b).1).Win).Bits).length aF),(vi (((a).Cur).N)),(vs B (((a).Cur).Key).length C),(vi (((a).Cur).Seq)),(vi ((((a).Cur).Win).Top)),(vs D ((((a).Cur).Win).Bits).length F),vT,(vi (A+5)),(vs K ((a).Next).length L)] wN mY gs ?_
      intro gv df gw iP
      have gx:=gt.ext df (fun k hk=>by subst hk;exact nT (z4 w q s x) I)
      refine pu (vp ao 14) wN ?_
      refine sf (vs none 0 0) wN nG gw ?_
      intro iQ dg gy iR
      have gz:=gx.ext dg (fun k hk=>by subst hk;exact nT (z4 w q s x) I)
      refine mW<|mQ<|mP<|sr ?_
      refine lN [(vi ((a).Role)),(vs G ((a).Sn).length H),(vi (((mS (nU (a.Cur.N+1) a.Next) (1 - a.Role) b).1).N)),(vs aC (((mS (nU (a.Cur.N+1) a.Next) (1 - a.Role) b).1).Key).length aD),(vi (((mS (nU (a.Cur.N+1) a.Next) (1 - a.Role) b).1).Seq)),(vi ((((mS (nU (a.Cur.N+1) a.Next) (1 - a.Role) b).1).Win).Top)),(vs aE ((((mS (nU (a.Cur.N+1) a.Next) (1 - a.Role) b).1).Win).Bits).length aF),(vi (((a).Cur).N)),(vs B (((a).Cur).Key).length C),(vi (((a).Cur).Seq)),(vi ((((a).Cur).Win).Top)),(vs D ((((a).Cur).Win).Bits).length F),vT,(vi (A+5)),(vs none 0 0)] wN nj mX gy ?_
      refine mw (vs cm ((mS (nU (a.Cur.N+1) a.Next) (1 - a.Role) b).2.1).length cn) ?_
      have cq:=nL J (nT x.size I)
      have g0:=(((((((((((((((((((((((aL.kp x).kp r).ch m (nN cq)).kp h).kp i).kp j).kp l).kp e).kp g).kp d).kp f).kp y).ch u (nN (nL J (nT (z11 x r m h i j l e g d f) M)))).kp W).ch V (nN (nL J (nT (z11 x r m h i j l e g d f) M)))).kp a4).kp bu).ch bv (nN (nL J (nT (t5 (z12 x r m h i j l e g d f y) u.size W.size V.size a4.size) bd)))).ch c7 (nN cq)).ch c8 (nN cq)).ch c9 (nN cq)).ch df (nN cq)).ch dg (nN cq))
      refine sv [(vi ((a).Role)),(vs G ((a).Sn).length H),(vi (((mS (nU (a.Cur.N+1) a.Next) (1 - a.Role) b).1).N)),(vs aC (((mS (nU (a.Cur.N+1) a.Next) (1 - a.Role) b).1).Key).length aD),(vi (((mS (nU (a.Cur.N+1) a.Next) (1 - a.Role) b).1).Seq)),(vi ((((mS (nU (a.Cur.N+1) a.Next) (1 - a.Role) b).1).Win).Top)),(vs aE ((((mS (nU (a.Cur.N+1) a.Next) (1 - a.Role) b).1).Win).Bits).length aF),(vi (((a).Cur).N)),(vs B (((a).Cur).Key).length C),(vi (((a).Cur).Seq)),(vi ((((a).Cur).Win).Top)),(vs D ((((a).Cur).Win).Bits).length F),vT,(vi (A+5)),(vs none 0 0)] wN mX g0 ?_
      intro iS d8 g1 iT
      have g2:=gz.ext d8 (fun k hk=>by subst hk;exact nT (z2 w q) aK)
      refine aw (vs cm ((mS (nU (a.Cur.N+1) a.Next) (1 - a.Role) b).2.1).length cn) ?_
      refine aw (vi 0) ?_
      refine n3 ?_
      have d9:=fun (E sz n:Nat) (v:Value) (O:List Value) (o:World.ownsRow ak aj.heap.size E sz v n O) (t:World.ownsRow ak aj.heap.size E sz v n O)=>(gc (gc (gc (gc (gc (gc (gc (mz (mz (gc (mz (gc (mz (mz (mz (mz (mz (mz (mz (mz (mz (gc (mz o r) m (ne2 t (I))) h) i) j) l) e) g) d) f) y) u (ne2 t (nT (z10 r m h i j l e g d f) M))) W) V (ne2 t (nT (z10 r m h i j l e g d f) M))) a4) bu) bv (ne2 t (nT (t4 (z12 r m h i j l e g d f y u) W.size V.size a4.size) bd))) c7 (ne2 t (I))) c8 (ne2 t (I))) c9 (ne2 t (I))) df (ne2 t (I))) dg (ne2 t (I))) d8 (ne1 t (J)))
      have g3:=(d9 _ _ _ _ _ P P)
      have cC:=nL ac (nT (z12 m h i j l e g d f y u W) V.size)
      have dA:=fun (E sz n:Nat) (v:Value) (O:List Value) (o:World.ownsRow db bF.heap.size E sz v n O) (t:World.ownsRow db bF.heap.size E sz v n O)=>(gc (gc (gc (gc (gc (gc (gc (mz o bu) bv (ne2 t (bd))) c7 (ne1 t cC)) c8 (ne1 t cC)) c9 (ne1 t cC)) df (ne1 t cC)) dg (ne1 t cC)) d8 (ne1 t (nL J (t4 (z12 x r m h i j l e g d f y) u.size W.size V.size))))
      have g4:=(dA _ _ _ _ _ c4 c4)
      have g5:=(dA _ _ _ _ _ c5 c5)
      have g6:=(d9 _ _ _ _ _ Y Y)
      have g7:=(d9 _ _ _ _ _ Z Z)
      have g8:=(dA _ _ _ _ _ c6 c6)
      refine rc3 [(vi ((a).Role)),(vs G ((a).Sn).length H),(vi (((mS (nU (a.Cur.N+1) a.Next) (1 - a.Role) b).1).N)),(vs aC (((mS (nU (a.Cur.N+1) a.Next) (1 - a.Role) b).1).Key).length aD),(vi (((mS (nU (a.Cur.N+1) a.Next) (1 - a.Role) b).1).Seq)),(vi ((((mS (nU (a.Cur.N+1) a.Next) (1 - a.Role) b).1).Win).Top)),(vs aE ((((mS (nU (a.Cur.N+1) a.Next) (1 - a.Role) b).1).Win).Bits).length aF),(vi (((a).Cur).N)),(vs B (((a).Cur).Key).length C),(vi (((a).Cur).Seq)),(vi ((((a).Cur).Win).Top)),(vs D ((((a).Cur).Win).Bits).length F),(vb true),(vi (A+5)),(vs none 0 0)] (vs cm ((mS (nU (a.Cur.N+1) a.Next) (1 - a.Role) b).2.1).length cn) (vi 0) g1 nj mX ?_
      refine ⟨g2.keep0,?_⟩
      rw [bb];simp only [nQ,aq,aT];try simp only [bI,cp,cond_true,cond_false]
      have be:=z12 r m h i j l e g d f y u
      have dB:=z12 w q s x r m h i j l e g
      exact ⟨_,_,_,_,_,_,_,_,_,_,_,_,_,_,rfl,(mO g3 (z3 w q s)),aM,(mO g4 (t7 dB d.size f.size y.size u.size W.size V.size)),fV,(mO g5 (t7 dB d.size f.size y.size u.size W.size V.size)),fW,(mO g6 (z3 w q s)),aY,(mO g7 (z3 w q s)),aZ,(nM _ _ _ _),(by simp),(mO g8 (t7 dB d.size f.size y.size u.size W.size V.size)),fX,⟨⟨(Ap.lt P c4 (t3 be W.size V.size)),⟨(Ap.lt P c5 (t3 be W.size V.size)),⟨(p.1.1),⟨(p.1.2.1),⟨(Ap.nr _),⟨(Ap.lt P c6 (t3 be W.size V.size)),trivial⟩⟩⟩⟩⟩⟩,⟨⟨(d6.1.1),⟨(Ap.lt Y c4 (t3 be W.size V.size)).symm,⟨(Ap.lt Z c4 (t3 be W.size V.size)).symm,⟨(Ap.nr _),⟨(d6.1.2.1),trivial⟩⟩⟩⟩⟩,⟨⟨(Ap.lt Y c5 (t3 be W.size V.size)).symm,⟨(Ap.lt Z c5 (t3 be W.size V.size)).symm,⟨(Ap.nr _),⟨(d6.2.1.1),trivial⟩⟩⟩⟩,⟨⟨(p.2.1.1),⟨(Ap.nr _),⟨(Ap.lt Y c6 (t3 be W.size V.size)),trivial⟩⟩⟩,⟨⟨(Ap.nr _),⟨(Ap.lt Z c6 (t3 be W.size V.size)),trivial⟩⟩,⟨⟨(Ap.nl _),trivial⟩,⟨trivial,trivial⟩⟩⟩⟩⟩⟩⟩⟩
     refine cf aT<|y1<|lN (oi a.Cur bz b0 b1 b2) wN nv mY d0 ?_
     refine pu (vp X 0) wN ?_
     have e5:=((da.kp y).ch u (nN (nL bk (nT (nT (z12 q s x r m h i j l e g d) f.size) M))))
     refine ld (vi a.Role) wN mT e5 ?_
     refine ar (1 - a.Role) wN ?_
     have g9:=((((((bD.kp e).kp g).kp d).kp f).kp y).ch u (nN (nL bZ (nT (z12 s x r m h i j l e g d f) M))))
     refine lN (oD b bO bP b7 b8 bQ bR bS bT bU bW bX bY) wN nk mZ g9 ?_
     refine cl wN (uY bo _ a.Cur (qs (dp.from0 aA) dq (dr.from0 aA) ds) (1 - a.Role) _ b (qI (cL.from0 aA) cM (cy.from0 aA) cz (cN.from0 aA) cO (cP.from0 aA) cQ (cR.from0 aA) cS (cT.from0 aA) cU)) ?_
     rintro _ aO ⟨ab,⟨ad,ae,af,ah,a7,a8,rfl,au,dC,av,dD,ax,dE,bg⟩⟩
     refine mw (.tuple #[(va (oi ((mS a.Cur (1 - a.Role) b).1) ad ae af ah)),(vs a7 ((mS a.Cur (1 - a.Role) b).2.1).length a8),(vi ((mS a.Cur (1 - a.Role) b).2.2))]) ?_
     refine pu (va (oi ((mS a.Cur (1 - a.Role) b).1) ad ae af ah)) wN ?_
     refine pu (vs a7 ((mS a.Cur (1 - a.Role) b).2.1).length a8) wN ?_
     refine pu (vi ((mS a.Cur (1 - a.Role) b).2.2)) wN ?_
     refine al se wN pm ?_
     intro iU bF ay iW a1 gA
     refine sv (oi ((mS a.Cur (1 - a.Role) b).1) ad ae af ah) wN mY gA ?_
     intro db a2 e6 iX
     have dG:=((aA.extk ab).extk a1).ext a2 (fun k hk=>by subst hk;exact nT (t6 (z12 w q s x r m h i j l e g) d.size f.size y.size u.size ab.size) ay)
     refine aw (vs a7 ((mS a.Cur (1 - a.Role) b).2.1).length a8) ?_
     refine aw (vi ((mS a.Cur (1 - a.Role) b).2.2)) ?_
     refine n4<|mw (vi ((mS a.Cur (1 - a.Role) b).2.2)) ?_
     refine pu (vb (!(decide ((mS a.Cur (1 - a.Role) b).2.2=0)))) wN ?_
     refine n2 ?_
     rcases bf (decide ((mS a.Cur (1 - a.Role) b).2.2=0)) with aW|aW
     ·have iY:=dF aW
      refine ct (cA not aW)<|sr ?_
      have gB:=(((((((((((((aV.kp h).kp i).kp j).kp l).kp e).kp g).kp d).kp f).kp y).ch u (nN (nL ac (nT (z9 m h i j l e g d f) M)))).kp ab).kp a1).ch a2 (nN (nL ac (nT (z12 m h i j l e g d f y u ab) ay))))
      refine lN (oj (a) G H B C D F Q R S T K L) wN nj mX gB ?_
      refine mw (vi ((mS a.Cur (1 - a.Role) b).2.2)) ?_
      have gC:=((((((((((((((((aL.kp x).kp r).ch m (nN (nL J (nT x.size I)))).kp h).kp i).kp j).kp l).kp e).kp g).kp d).kp f).kp y).ch u (nN (nL J (nT (z11 x r m h i j l e g d f) M)))).kp ab).kp a1).ch a2 (nN (nL J (nT (t3 (z12 x r m h i j l e g d f y) u.size ab.size) ay))))
      refine sv (oj (a) G H B C D F Q R S T K L) wN mX gC ?_
      intro dc e7 gD iZ
      have gE:=dG.ext e7 (fun k hk=>by subst hk;exact nT (z2 w q) aK)
      refine aw (vs none 0 0) ?_
      refine aw (vi ((mS a.Cur (1 - a.Role) b).2.2)) ?_
      refine n1 ?_
      have cr:=fun (E sz n:Nat) (v:Value) (O:List Value) (o:World.ownsRow ak aj.heap.size E sz v n O) (t:World.ownsRow ak aj.heap.size E sz v n O)=>(gc (gc (mz (mz (gc (mz (mz (mz (mz (mz (mz (mz (mz (mz (gc (mz o r) m (ne2 t (I))) h) i) j) l) e) g) d) f) y) u (ne2 t (nT (z10 r m h i j l e g d f) M))) ab) a1) a2 (ne2 t (nT (nT (z12 r m h i j l e g d f y u) ab.size) ay))) e7 (ne1 t (J)))
      have gF:=(cr _ _ _ _ _ P P)
      have gG:=(cr _ _ _ _ _ Y Y)
      have gH:=(cr _ _ _ _ _ Z Z)
      have gI:=(cr _ _ _ _ _ am am)
      have gJ:=(cr _ _ _ _ _ an an)
      have gK:=(cr _ _ _ _ _ aa aa)
      refine rc3 (oj (a) G H B C D F Q R S T K L) (vs none 0 0) (vi ((mS a.Cur (1 - a.Role) b).2.2)) gD nj mX ?_
      refine ⟨gE.keep0,?_⟩
      rw [bb];simp only [nQ,aq,aT];try simp only [aW,cond_true,cond_false]
      exact ⟨_,_,_,_,_,_,_,_,_,_,_,_,_,_,rfl,(mO gF (z3 w q s)),aM,(mO gG (z3 w q s)),aY,(mO gH (z3 w q s)),aZ,(mO gI (z3 w q s)),bl,(mO gJ (z3 w q s)),bm,(mO gK (z3 w q s)),ba,(nM _ _ _ _),(by simp),⟨⟨(p.1.1),⟨(p.1.2.1),⟨(p.1.2.2.1),⟨(p.1.2.2.2.1),⟨(p.1.2.2.2.2.1),⟨(Ap.nr _),trivial⟩⟩⟩⟩⟩⟩,⟨⟨(p.2.1.1),⟨(p.2.1.2.1),⟨(p.2.1.2.2.1),⟨(p.2.1.2.2.2.1),⟨(Ap.nr _),trivial⟩⟩⟩⟩⟩,⟨⟨(p.2.2.1.1),⟨(p.2.2.1.2.1),⟨(p.2.2.1.2.2.1),⟨(Ap.nr _),trivial⟩⟩⟩⟩,⟨⟨(p.2.2.2.1.1),⟨(p.2.2.2.1.2.1),⟨(Ap.nr _),trivial⟩⟩⟩,⟨⟨(p.2.2.2.2.1.1),⟨(Ap.nr _),trivial⟩⟩,⟨⟨(Ap.nr _),trivial⟩,⟨trivial,trivial⟩⟩⟩⟩⟩⟩⟩⟩
     have ja:=dT aW
     refine cf (cA not aW)<|nm<|mP<|nh<|ng<|sr<|mw (vb (decide (b.Epoch=a.Cur.N))) ?_
     refine aw (vb (decide (b.Epoch=a.Cur.N))) ?_
     refine n2 ?_
     rcases bf (decide (b.Epoch=a.Cur.N)) with bh|bh
     ·have jb:=dF bh
      refine cf bh<|sr<|mw (vb (bif a.HasOld then (decide (b.Epoch=a.Old.N)) else (false))) ?_
      refine aw (vb (bif a.HasOld then (decide (b.Epoch=a.Old.N)) else (false))) ?_
      refine n2<|cf aq<|sr<|pu (vp ao 2) wN ?_
      have e8:=(((((((((((((aV.kp h).kp i).kp j).kp l).kp e).kp g).kp d).kp f).kp y).ch u (nN (nL ac (nT (z9 m h i j l e g d f) M)))).kp ab).kp a1).ch a2 (nN (nL ac (nT (z12 m h i j l e g d f y u ab) ay))))
      refine lN (oi ((a).Cur) B C D F) wN nv mY e8 ?_
      refine mw (vi A) ?_
      refine ar (A+5) wN ?_
      refine pu (vp ao 7) wN ?_
      refine st (va (oi ((a).Cur) B C D F)) (oi ((a).Cur) B C D F) (oj {(a) with Old:=((a).Cur):PChan} G H B C D F B C D F K L) wN mY e8 ?_
      intro dc cD gL jc
      have gM:=dG.ext cD (fun k hk=>by subst hk;exact nT (z4 w q s x) I)
      refine pu (vp ao 12) wN ?_
      refine sf (vb true) wN sj gL ?_
      intro c2 cE gN jd
      have gO:=gM.ext cE (fun k hk=>by subst hk;exact nT (z4 w q s x) I)
      refine pu (vp ao 13) wN ?_
      refine sf (vi (A+5)) wN nV gN ?_
      intro c3 cF gP je
      have gQ:=gO.ext cF (fun k hk=>by subst hk;exact nT (z4 w q s x) I)
      refine mW<|mP<|mV ?_
      have dH:=nL ac (nT (z12 m h i j l e g d f y u ab) ay)
      have gR:=(((e6.ch cD (Ne.symm (nN dH))).ch cE (Ne.symm (nN dH))).ch cF (Ne.symm (nN dH)))
      refine lN (oi ((mS a.Cur (1 - a.Role) b).1) ad ae af ah) wN nv mY gR ?_
      refine pu (vp ao 2) wN ?_
      refine st (va (oi ((mS a.Cur (1 - a.Role) b).1) ad ae af ah)) (oi ((mS a.Cur (1 - a.Role) b).1) ad ae af ah) [(vi ((a).Role)),(vs G ((a).Sn).length H),(vi (((mS a.Cur (1 - a.Role) b).1).N)),(vs ad (((mS a.Cur (1 - a.Role) b).1).Key).length ae),(vi (((mS a.Cur (1 - a.Role) b).1).Seq)),(vi ((((mS a.Cur (1 - a.Role) b).1).Win).Top)),(vs af ((((mS a.Cur (1 - a.Role) b).1).Win).Bits).length ah),(vi (((a).Cur).N)),(vs B (((a).Cur).Key).length C),(vi (((a).Cur).Seq)),(vi ((((a).Cur).Win).Top)),(vs D ((((a).Cur).Win).Bits).length F),vT,(vi (A+5)),(vs K ((a).Next).length L)] wN mY gP ?_
      intro gn dh gS jf
      have gT:=gQ.ext dh (fun k hk=>by subst hk;exact nT (z4 w q s x) I)
      refine pu (vp ao 14) wN ?_
      refine sf (vs none 0 0) wN nG gS ?_
      intro gr di gU jg
      have gV:=gT.ext di (fun k hk=>by subst hk;exact nT (z4 w q s x) I)
      refine mW<|mQ<|mP<|sr ?_
      refine lN [(vi ((a).Role)),(vs G ((a).Sn).length H),(vi (((mS a.Cur (1 - a.Role) b).1).N)),(vs ad (((mS a.Cur (1 - a.Role) b).1).Key).length ae),(vi (((mS a.Cur (1 - a.Role) b).1).Seq)),(vi ((((mS a.Cur (1 - a.Role) b).1).Win).Top)),(vs af ((((mS a.Cur (1 - a.Role) b).1).Win).Bits).length ah),(vi (((a).Cur).N)),(vs B (((a).Cur).Key).length C),(vi (((a).Cur).Seq)),(vi ((((a).Cur).Win).Top)),(vs D ((((a).Cur).Win).Bits).length F),vT,(vi (A+5)),(vs none 0 0)] wN nj mX gU ?_
      refine mw (vs a7 ((mS a.Cur (1 - a.Role) b).2.1).length a8) ?_
      have cs:=nL J (nT x.size I)
      have gW:=(((((((((((((((((((((aL.kp x).kp r).ch m (nN cs)).kp h).kp i).kp j).kp l).kp e).kp g).kp d).kp f).kp y).ch u (nN (nL J (nT (z11 x r m h i j l e g d f) M)))).kp ab).kp a1).ch a2 (nN (nL J (nT (t3 (z12 x r m h i j l e g d f y) u.size ab.size) ay)))).ch cD (nN cs)).ch cE (nN cs)).ch cF (nN cs)).ch dh (nN cs)).ch di (nN cs))
      refine sv [(vi ((a).Role)),(vs G ((a).Sn).length H),(vi (((mS a.Cur (1 - a.Role) b).1).N)),(vs ad (((mS a.Cur (1 - a.Role) b).1).Key).length ae),(vi (((mS a.Cur (1 - a.Role) b).1).Seq)),(vi ((((mS a.Cur (1 - a.Role) b).1).Win).Top)),(vs af ((((mS a.Cur (1 - a.Role) b).1).Win).Bits).length ah),(vi (((a).Cur).N)),(vs B (((a).Cur).Key).length C),(vi (((a).Cur).Seq)),(vi ((((a).Cur).Win).Top)),(vs D ((((a).Cur).Win).Bits).length F),vT,(vi (A+5)),(vs none 0 0)] wN mX gW ?_
      intro gv dI gX jh
      have gY:=gV.ext dI (fun k hk=>by subst hk;exact nT (z2 w q) aK)
      refine aw (vs a7 ((mS a.Cur (1 - a.Role) b).2.1).length a8) ?_
      refine aw (vi 0) ?_
      refine n3 ?_
      have dJ:=fun (E sz n:Nat) (v:Value) (O:List Value) (o:World.ownsRow ak aj.heap.size E sz v n O) (t:World.ownsRow ak aj.heap.size E sz v n O)=>(gc (gc (gc (gc (gc (gc (gc (mz (mz (gc (mz (mz (mz (mz (mz (mz (mz (mz (mz (gc (mz o r) m (ne2 t (I))) h) i) j) l) e) g) d) f) y) u (ne2 t (nT (z10 r m h i j l e g d f) M))) ab) a1) a2 (ne2 t (nT (nT (z12 r m h i j l e g d f y u) ab.size) ay))) cD (ne2 t (I))) cE (ne2 t (I))) cF (ne2 t (I))) dh (ne2 t (I))) di (ne2 t (I))) dI (ne1 t (J)))
      have gZ:=(dJ _ _ _ _ _ P P)
      have cG:=nL ac (z11 m h i j l e g d f y u)
      have dK:=fun (E sz n:Nat) (v:Value) (O:List Value) (o:World.ownsRow aO bo.heap.size E sz v n O) (t:World.ownsRow aO bo.heap.size E sz v n O)=>(gc (gc (gc (gc (gc (gc (gc (mz o a1) a2 (ne2 t (ay))) cD (ne1 t cG)) cE (ne1 t cG)) cF (ne1 t cG)) dh (ne1 t cG)) di (ne1 t cG)) dI (ne1 t (nL J (nT (z12 x r m h i j l e g d f y) u.size))))
      have ha:=(dK _ _ _ _ _ au au)
      have hb:=(dK _ _ _ _ _ av av)
      have hc:=(dJ _ _ _ _ _ Y Y)
      have hd:=(dJ _ _ _ _ _ Z Z)
      have he:=(dK _ _ _ _ _ ax ax)
      refine rc3 [(vi ((a).Role)),(vs G ((a).Sn).length H),(vi (((mS a.Cur (1 - a.Role) b).1).N)),(vs ad (((mS a.Cur (1 - a.Role) b).1).Key).length ae),(vi (((mS a.Cur (1 - a.Role) b).1).Seq)),(vi ((((mS a.Cur (1 - a.Role) b).1).Win).Top)),(vs af ((((mS a.Cur (1 - a.Role) b).1).Win).Bits).length ah),(vi (((a).Cur).N)),(vs B (((a).Cur).Key).length C),(vi (((a).Cur).Seq)),(vi ((((a).Cur).Win).Top)),(vs D ((((a).Cur).Win).Bits).length F),(vb true),(vi (A+5)),(vs none 0 0)] (vs a7 ((mS a.Cur (1 - a.Role) b).2.1).length a8) (vi 0) gX nj mX ?_
      refine ⟨gY.keep0,?_⟩
      rw [bb];simp only [nQ,aq,aT];try simp only [aW,bh,cond_true,cond_false]
      have bi:=z12 r m h i j l e g d f y u
      have dL:=z12 w q s x r m h i j l e g
      exact ⟨_,_,_,_,_,_,_,_,_,_,_,_,_,_,rfl,(mO gZ (z3 w q s)),aM,(mO ha (t5 dL d.size f.size y.size u.size)),dC,(mO hb (t5 dL d.size f.size y.size u.size)),dD,(mO hc (z3 w q s)),aY,(mO hd (z3 w q s)),aZ,(nM _ _ _ _),(by simp),(mO he (t5 dL d.size f.size y.size u.size)),dE,⟨⟨(Ap.lt P au bi),⟨(Ap.lt P av bi),⟨(p.1.1),⟨(p.1.2.1),⟨(Ap.nr _),⟨(Ap.lt P ax bi),trivial⟩⟩⟩⟩⟩⟩,⟨⟨(bg.1.1),⟨(Ap.lt Y au bi).symm,⟨(Ap.lt Z au bi).symm,⟨(Ap.nr _),⟨(bg.1.2.1),trivial⟩⟩⟩⟩⟩,⟨⟨(Ap.lt Y av bi).symm,⟨(Ap.lt Z av bi).symm,⟨(Ap.nr _),⟨(bg.2.1.1),trivial⟩⟩⟩⟩,⟨⟨(p.2.1.1),⟨(Ap.nr _),⟨(Ap.lt Y ax bi),trivial⟩⟩⟩,⟨⟨(Ap.nr _),⟨(Ap.lt Z ax bi),trivial⟩⟩,⟨⟨(Ap.nl _),trivial⟩,⟨trivial,trivial⟩⟩⟩⟩⟩⟩⟩⟩
     have ji:=dT bh
     refine ct bh<|sr<|lN (oi ((mS a.Cur (1 - a.Role) b).1) ad ae af ah) wN nv mY e6 ?_
     refine pu (vp ao 2) wN ?_
     have hf:=(((((((((((((aV.kp h).kp i).kp j).kp l).kp e).kp g).kp d).kp f).kp y).ch u (nN (nL ac (nT (z9 m h i j l e g d f) M)))).kp ab).kp a1).ch a2 (nN (nL ac (nT (z12 m h i j l e g d f y u ab) ay))))
     refine st (va (oi ((mS a.Cur (1 - a.Role) b).1) ad ae af ah)) (oi ((mS a.Cur (1 - a.Role) b).1) ad ae af ah) (oj {(a) with Cur:=((mS a.Cur (1 - a.Role) b).1):PChan} G H ad ae af ah Q R S T K L) wN mY hf ?_
     intro dc bw e9 jj
     have eA:=dG.ext bw (fun k hk=>by subst hk;exact nT (z4 w q s x) I)
     refine nx<|jF1 [(6,(vp b9 0)),(7,(vs none 0 0)),(8,(vi 0)),(9,(vp ao 0)),(15,(vs a7 ((mS a.Cur (1 - a.Role) b).2.1).length a8))] (i_ChanOpen a A b=({(a) with Cur:=((mS a.Cur (1 - a.Role) b).1):PChan},(mS a.Cur (1 - a.Role) b).2.1,0)) ?_ fun eB=>?_
     ·intro hg c2 cH jk
      refine nm<|mQ<|mP<|sr ?_
      have hh:=(e9.kp cH)
      refine lN (oj {(a) with Cur:=((mS a.Cur (1 - a.Role) b).1):PChan} G H ad ae af ah Q R S T K L) wN nj mX hh ?_
      refine mw (vs a7 ((mS a.Cur (1 - a.Role) b).2.1).length a8) ?_
      have hi:=((((((((((((((((((aL.kp x).kp r).ch m (nN (nL J (nT x.size I)))).kp h).kp i).kp j).kp l).kp e).kp g).kp d).kp f).kp y).ch u (nN (nL J (nT (z11 x r m h i j l e g d f) M)))).kp ab).kp a1).ch a2 (nN (nL J (nT (t3 (z12 x r m h i j l e g d f y) u.size ab.size) ay)))).ch bw (nN (nL J (nT x.size I)))).kp cH)
      refine sv (oj {(a) with Cur:=((mS a.Cur (1 - a.Role) b).1):PChan} G H ad ae af ah Q R S T K L) wN mX hi ?_
      intro c3 dM hj jl
      have hl:=(eA.extk cH).ext dM (fun k hk=>by subst hk;exact nT (z2 w q) aK)
      refine aw (vs a7 ((mS a.Cur (1 - a.Role) b).2.1).length a8) ?_
      refine aw (vi 0) ?_
      refine n3 ?_
      have dj:=fun (E sz n:Nat) (v:Value) (O:List Value) (o:World.ownsRow ak aj.heap.size E sz v n O) (t:World.ownsRow ak aj.heap.size E sz v n O)=>(gc (mz (gc (gc (mz (mz (gc (mz (mz (mz (mz (mz (mz (mz (mz (mz (gc (mz o r) m (ne2 t (I))) h) i) j) l) e) g) d) f) y) u (ne2 t (nT (z10 r m h i j l e g d f) M))) ab) a1) a2 (ne2 t (nT (nT (z12 r m h i j l e g d f y u) ab.size) ay))) bw (ne2 t (I))) cH) dM (ne1 t (J)))
      have hm:=(dj _ _ _ _ _ P P)
      have dN:=fun (E sz n:Nat) (v:Value) (O:List Value) (o:World.ownsRow aO bo.heap.size E sz v n O) (t:World.ownsRow aO bo.heap.size E sz v n O)=>(gc (mz (gc (gc (mz o a1) a2 (ne2 t (ay))) bw (ne1 t (nL ac (z11 m h i j l e g d f y u)))) cH) dM (ne1 t (nL J (nT (z12 x r m h i j l e g d f y) u.size))))
      have hn:=(dN _ _ _ _ _ au au)
      have ho:=(dN _ _ _ _ _ av av)
      have hp:=(dj _ _ _ _ _ am am)
      have hq:=(dj _ _ _ _ _ an an)
      have hr:=(dj _ _ _ _ _ aa aa)
      have hs:=(dN _ _ _ _ _ ax ax)
      refine rc3 (oj {(a) with Cur:=((mS a.Cur (1 - a.Role) b).1):PChan} G H ad ae af ah Q R S T K L) (vs a7 ((mS a.Cur (1 - a.Role) b).2.1).length a8) (vi 0) hj nj mX ?_
      refine ⟨hl.keep0,?_⟩
      rw [hg]
      have aG:=z12 r m h i j l e g d f y u
      have dO:=z12 w q s x r m h i j l e g
      exact ⟨_,_,_,_,_,_,_,_,_,_,_,_,_,_,rfl,(mO hm (z3 w q s)),aM,(mO hn (t5 dO d.size f.size y.size u.size)),dC,(mO ho (t5 dO d.size f.size y.size u.size)),dD,(mO hp (z3 w q s)),bl,(mO hq (z3 w q s)),bm,(mO hr (z3 w q s)),ba,(mO hs (t5 dO d.size f.size y.size u.size)),dE,⟨⟨(Ap.lt P au aG),⟨(Ap.lt P av aG),⟨(p.1.2.2.1),⟨(p.1.2.2.2.1),⟨(p.1.2.2.2.2.1),⟨(Ap.lt P ax aG),trivial⟩⟩⟩⟩⟩⟩,⟨⟨(bg.1.1),⟨(Ap.lt am au aG).symm,⟨(Ap.lt an au aG).symm,⟨(Ap.lt aa au aG).symm,⟨(bg.1.2.1),trivial⟩⟩⟩⟩⟩,⟨⟨(Ap.lt am av aG).symm,⟨(Ap.lt an av aG).symm,⟨(Ap.lt aa av aG).symm,⟨(bg.2.1.1),trivial⟩⟩⟩⟩,⟨⟨(p.2.2.2.1.1),⟨(p.2.2.2.1.2.1),⟨(Ap.lt am ax aG),trivial⟩⟩⟩,⟨⟨(p.2.2.2.2.1.1),⟨(Ap.lt an ax aG),trivial⟩⟩,⟨⟨(Ap.lt aa ax aG),trivial⟩,⟨trivial,trivial⟩⟩⟩⟩⟩⟩⟩⟩
     refine pu (vp X 12) wN ?_
     have eC:=((((e5.kp ab).kp a1).ch a2 (nN (nL bk (nT (t5 (z12 q s x r m h i j l e g d) f.size y.size u.size ab.size) ay)))).ch bw (nN (nL bk (nT (z3 q s x) I))))
     refine ld (vb a.HasOld) wN qC eC ?_
     refine mw (vb a.HasOld) ?_
     rcases bf a.HasOld with aX|aX
     ·iterate 3 refine sk aX ?_
      refine pf vF wN aX ?_
      refine n2<|cf F1 ?_
      have ht:i_ChanOpen a A b=({(a) with Cur:=((mS a.Cur (1 - a.Role) b).1):PChan},(mS a.Cur (1 - a.Role) b).2.1,0):=by rw [bb];simp only [nQ,aq,aT];try simp only [aW,bh,aX,cond_true,cond_false]
      exact wj (eB ht _ (Ch.refl _ _))
     refine pu (vp X 13) (wS aX) ?_
     refine ld (vi a.Until) (wS aX) mT eC ?_
     refine pu (vb (decide (a.Until=(-1)))) (wS aX) ?_
     refine pk (vb (decide (a.Until=(-1)))) wN aX ?_
     refine n2 ?_
     rcases bf (decide (a.Until=(-1))) with bJ|bJ
     ·have jm:=dF bJ
      refine cf bJ ?_
      have hu:i_ChanOpen a A b=({(a) with Cur:=((mS a.Cur (1 - a.Role) b).1):PChan},(mS a.Cur (1 - a.Role) b).2.1,0):=by rw [bb];simp only [nQ,aq,aT];try simp only [aW,bh,aX,bJ,cond_true,cond_false]
      exact wj (eB hu _ (Ch.refl _ _))
     have jn:=dT bJ
     refine ct bJ<|mV ?_
     refine mw (vi A) ?_
     refine ar (A+5) wN ?_
     refine pu (vp ao 13) wN ?_
     refine sf (vi (A+5)) wN nV e9 ?_
     intro c2 dk hv jo
     have hw:=eA.ext dk (fun k hk=>by subst hk;exact nT (z4 w q s x) I)
     refine mW<|mQ<|mP<|sr ?_
     refine lN (oj {(a) with Cur:=((mS a.Cur (1 - a.Role) b).1),Until:=(A+5):PChan} G H ad ae af ah Q R S T K L) wN nj mX hv ?_
     refine mw (vs a7 ((mS a.Cur (1 - a.Role) b).2.1).length a8) ?_
     have dP:=nL J (nT x.size I)
     have hx:=((((((((((((((((((aL.kp x).kp r).ch m (nN dP)).kp h).kp i).kp j).kp l).kp e).kp g).kp d).kp f).kp y).ch u (nN (nL J (nT (z11 x r m h i j l e g d f) M)))).kp ab).kp a1).ch a2 (nN (nL J (nT (t3 (z12 x r m h i j l e g d f y) u.size ab.size) ay)))).ch bw (nN dP)).ch dk (nN dP))
     refine sv (oj {(a) with Cur:=((mS a.Cur (1 - a.Role) b).1),Until:=(A+5):PChan} G H ad ae af ah Q R S T K L) wN mX hx ?_
     intro c3 dQ hy jp
     have hz:=hw.ext dQ (fun k hk=>by subst hk;exact nT (z2 w q) aK)
     refine aw (vs a7 ((mS a.Cur (1 - a.Role) b).2.1).length a8) ?_
     refine aw (vi 0) ?_
     refine n3 ?_
     have dl:=fun (E sz n:Nat) (v:Value) (O:List Value) (o:World.ownsRow ak aj.heap.size E sz v n O) (t:World.ownsRow ak aj.heap.size E sz v n O)=>(gc (gc (gc (gc (mz (mz (gc (mz (mz (mz (mz (mz (mz (mz (mz (mz (gc (mz o r) m (ne2 t (I))) h) i) j) l) e) g) d) f) y) u (ne2 t (nT (z10 r m h i j l e g d f) M))) ab) a1) a2 (ne2 t (nT (nT (z12 r m h i j l e g d f y u) ab.size) ay))) bw (ne2 t (I))) dk (ne2 t (I))) dQ (ne1 t (J)))
     have h0:=(dl _ _ _ _ _ P P)
     have dR:=fun (E sz n:Nat) (v:Value) (O:List Value) (o:World.ownsRow aO bo.heap.size E sz v n O) (t:World.ownsRow aO bo.heap.size E sz v n O)=>(gc (gc (gc (gc (mz o a1) a2 (ne2 t (ay))) bw (ne1 t (nL ac (z11 m h i j l e g d f y u)))) dk (ne1 t (nL ac (z11 m h i j l e g d f y u)))) dQ (ne1 t (nL J (nT (z12 x r m h i j l e g d f y) u.size))))
     have h1:=(dR _ _ _ _ _ au au)
     have h2:=(dR _ _ _ _ _ av av)
     have h3:=(dl _ _ _ _ _ am am)
     have h4:=(dl _ _ _ _ _ an an)
     have h5:=(dl _ _ _ _ _ aa aa)
     have h6:=(dR _ _ _ _ _ ax ax)
     refine rc3 (oj {(a) with Cur:=((mS a.Cur (1 - a.Role) b).1),Until:=(A+5):PChan} G H ad ae af ah Q R S T K L) (vs a7 ((mS a.Cur (1 - a.Role) b).2.1).length a8) (vi 0) hy nj mX ?_
     refine ⟨hz.keep0,?_⟩
     rw [bb];simp only [nQ,aq,aT];try simp only [aW,bh,aX,bJ,cond_true,cond_false]
     have aH:=z12 r m h i j l e g d f y u
     have dS:=z12 w q s x r m h i j l e g
     exact ⟨_,_,_,_,_,_,_,_,_,_,_,_,_,_,rfl,(mO h0 (z3 w q s)),aM,(mO h1 (t5 dS d.size f.size y.size u.size)),dC,(mO h2 (t5 dS d.size f.size y.size u.size)),dD,(mO h3 (z3 w q s)),bl,(mO h4 (z3 w q s)),bm,(mO h5 (z3 w q s)),ba,(mO h6 (t5 dS d.size f.size y.size u.size)),dE,⟨⟨(Ap.lt P au aH),⟨(Ap.lt P av aH),⟨(p.1.2.2.1),⟨(p.1.2.2.2.1),⟨(p.1.2.2.2.2.1),⟨(Ap.lt P ax aH),trivial⟩⟩⟩⟩⟩⟩,⟨⟨(bg.1.1),⟨(Ap.lt am au aH).symm,⟨(Ap.lt an au aH).symm,⟨(Ap.lt aa au aH).symm,⟨(bg.1.2.1),trivial⟩⟩⟩⟩⟩,⟨⟨(Ap.lt am av aH).symm,⟨(Ap.lt an av aH).symm,⟨(Ap.lt aa av aH).symm,⟨(bg.2.1.1),trivial⟩⟩⟩⟩,⟨⟨(p.2.2.2.1.1),⟨(p.2.2.2.1.2.1),⟨(Ap.lt am ax aH),trivial⟩⟩⟩,⟨⟨(p.2.2.2.2.1.1),⟨(Ap.lt an ax aH),trivial⟩⟩,⟨⟨(Ap.lt aa ax aH),trivial⟩,⟨trivial,trivial⟩⟩⟩⟩⟩⟩⟩⟩
    refine mw (vb (bif a.HasOld then (decide (b.Epoch=a.Old.N)) else (false))) ?_
    refine mw (vb (bif a.HasOld then (decide (b.Epoch=a.Old.N)) else (false))) ?_
    rcases bf (bif a.HasOld then (decide (b.Epoch=a.Old.N)) else (false)) with aU|aU
    ·iterate 3 refine sk aU ?_
     refine pf vF wN aU ?_
     refine mw vF ?_
     iterate 4 refine sk F1 ?_
     refine pf vF wN F1 ?_
     refine n2<|cf F1 ?_
     have h7:i_ChanOpen a A b=(nQ a A b):=by rw [cZ];simp only [oc,aU];try simp only [cond_true,cond_false]
     exact wj (dz h7 _ (Ch.refl _ _))
    refine pu (vp X 13) (wS aU) ?_
    have eD:=(((bE.kp e).kp g).kp d)
    refine ld (vi a.Until) (wS aU) mT eD ?_
    refine pu (vb (!(decide (a.Until=(-1))))) (wS aU) ?_
    refine pk (vb (!(decide (a.Until=(-1))))) wN aU ?_
    refine mw (vb (!(decide (a.Until=(-1))))) ?_
    rcases bt (decide (a.Until=(-1))) with a9|a9
    ·have jq:=dT a9
     iterate 4 refine sk (cA not a9) ?_
     refine pf vF wN (cA not a9) ?_
     refine n2<|cf F1 ?_
     have h8:i_ChanOpen a A b=(nQ a A b):=by rw [cZ];simp only [oc,aU];try simp only [a9,cond_true,cond_false]
     exact wj (dz h8 _ (Ch.refl _ _))
    have jr:=dF a9
    refine mv (vi A) (wS (cA not a9)) ?_
    refine pu (vp X 13) (wS (cA not a9)) ?_
    refine ld (vi a.Until) (wS (cA not a9)) mT eD ?_
    refine pu (vb (decide (a.Until < A))) (wS (cA not a9)) ?_
    refine pk (vb (decide (a.Until < A))) wN (cA not a9) ?_
    refine n2 ?_
    rcases bf (decide (a.Until < A)) with bK|bK
    ·have js:=dF bK
     refine cf bK ?_
     have h9:i_ChanOpen a A b=(nQ a A b):=by rw [cZ];simp only [oc,aU];try simp only [a9,bK,cond_true,cond_false]
     exact wj (dz h9 _ (Ch.refl _ _))
    have jt:=dT bK
    refine ct bK<|sr ?_
    have hA:=(((((((aV.kp h).kp i).kp j).kp l).kp e).kp g).kp d)
    refine lN (oj (a) G H B C D F Q R S T K L) wN nj mX hA ?_
    have hB:=((((((((((aL.kp x).kp r).ch m (nN (nL J (nT x.size I)))).kp h).kp i).kp j).kp l).kp e).kp g).kp d)
    refine sv (oj (a) G H B C D F Q R S T K L) wN mX hB ?_
    intro en eE hC ju
    have hD:=ep.ext eE (fun k hk=>by subst hk;exact nT (z2 w q) aK)
    refine aw (vs none 0 0) ?_
    refine aw (vi 9) ?_
    refine n1 ?_
    have cu:=fun (E sz n:Nat) (v:Value) (O:List Value) (o:World.ownsRow ak aj.heap.size E sz v n O) (t:World.ownsRow ak aj.heap.size E sz v n O)=>(gc (mz (mz (mz (mz (mz (mz (mz (gc (mz o r) m (ne2 t (I))) h) i) j) l) e) g) d) eE (ne1 t (J)))
    have hF:=(cu _ _ _ _ _ P P)
    have hG:=(cu _ _ _ _ _ Y Y)
    have hH:=(cu _ _ _ _ _ Z Z)
    have hI:=(cu _ _ _ _ _ am am)
    have hJ:=(cu _ _ _ _ _ an an)
    have hK:=(cu _ _ _ _ _ aa aa)
    refine rc3 (oj (a) G H B C D F Q R S T K L) (vs none 0 0) (vi 9) hC nj mX ?_
    refine ⟨hD.keep0,?_⟩
    rw [cZ];simp only [oc,aU];try simp only [a9,bK,cond_true,cond_false]
    exact ⟨_,_,_,_,_,_,_,_,_,_,_,_,_,_,rfl,(mO hF (z3 w q s)),aM,(mO hG (z3 w q s)),aY,(mO hH (z3 w q s)),aZ,(mO hI (z3 w q s)),bl,(mO hJ (z3 w q s)),bm,(mO hK (z3 w q s)),ba,(nM _ _ _ _),(by simp),⟨⟨(p.1.1),⟨(p.1.2.1),⟨(p.1.2.2.1),⟨(p.1.2.2.2.1),⟨(p.1.2.2.2.2.1),⟨(Ap.nr _),trivial⟩⟩⟩⟩⟩⟩,⟨⟨(p.2.1.1),⟨(p.2.1.2.1),⟨(p.2.1.2.2.1),⟨(p.2.1.2.2.2.1),⟨(Ap.nr _),trivial⟩⟩⟩⟩⟩,⟨⟨(p.2.2.1.1),⟨(p.2.2.1.2.1),⟨(p.2.2.1.2.2.1),⟨(Ap.nr _),trivial⟩⟩⟩⟩,⟨⟨(p.2.2.2.1.1),⟨(p.2.2.2.1.2.1),⟨(Ap.nr _),trivial⟩⟩⟩,⟨⟨(p.2.2.2.2.1.1),⟨(Ap.nr _),trivial⟩⟩,⟨⟨(Ap.nr _),trivial⟩,⟨trivial,trivial⟩⟩⟩⟩⟩⟩⟩⟩
   refine pu (vp aJ 3) wN ?_
   have hL:=((bD.kp e).kp g)
   refine ld (vs b7 b.Sn.length b8) wN nd hL ?_
   refine pu (vp X 1) wN ?_
   have hM:=((bE.kp e).kp g)
   refine ld (vs cv a.Sn.length cw) wN nd hM ?_
   refine cl wN (AM fc _ b.Sn (nH (cy.from0 cX) cz) _ a.Sn (nH (dm.from0 cX) dn)) ?_
   rintro _ em ⟨cI,rfl⟩
   refine pu (vb (!(decide ((qh b.Sn a.Sn)=0)))) wN ?_
   refine mw (vb (!(decide ((qh b.Sn a.Sn)=0)))) ?_
   rcases bf (decide ((qh b.Sn a.Sn)=0)) with ai|ai
   ·have jv:=dF ai
    iterate 3 refine sk (cA not ai) ?_
    refine su ?_
    refine su ?_
    iterate 2 refine sk (cA not ai) ?_
    refine su ?_
    refine su ?_
    refine sk (cA not ai) ?_
    refine pk vT wN (cA not ai) ?_
    refine n2<|ct T1 ?_
    have hN:i_ChanOpen a A b=((a),[],8):=by rw [c0];simp only [od,ai,cond_true,cond_false]
    exact wj (ek hN _ cI)
   have jw:=dT ai
   refine mv (vb (decide (b.Epoch=a.Cur.N))) (wS (cA not ai)) ?_
   refine pu (vb (!(decide (b.Epoch=a.Cur.N)))) (wS (cA not ai)) ?_
   refine mv (vb (!(decide (b.Epoch=a.Cur.N)))) (wS (cA not ai)) ?_
   rcases bt (decide (b.Epoch=a.Cur.N)) with aI|aI
   ·have jx:=dT aI
    iterate 2 refine sk (cA not aI) ?_
    refine pf vF (wS (cA not ai)) (cA not aI) ?_
    refine mv vF (wS (cA not ai)) ?_
    iterate 2 refine sk F1 ?_
    refine pf vF (wS (cA not ai)) F1 ?_
    refine pf vF wN (cA not ai) ?_
    refine n2<|cf F1 ?_
    have hO:i_ChanOpen a A b=(oc a A b):=by rw [c0];simp only [od,ai,aI,cond_true,cond_false]
    exact wj (dy hO _ cI)
   have jy:=dF aI
   refine mv (vb (bif a.HasOld then (decide (b.Epoch=a.Old.N)) else (false))) (wS (cA not aI)) ?_
   refine pu (vb (!(bif a.HasOld then (decide (b.Epoch=a.Old.N)) else (false)))) (wS (cA not aI)) ?_
   refine pk (vb (!(bif a.HasOld then (decide (b.Epoch=a.Old.N)) else (false)))) (wS (cA not ai)) (cA not aI) ?_
   refine mv (vb (!(bif a.HasOld then (decide (b.Epoch=a.Old.N)) else (false)))) (wS (cA not ai)) ?_
   rcases bt (bif a.HasOld then (decide (b.Epoch=a.Old.N)) else (false)) with bj|bj
   ·iterate 2 refine sk (cA not bj) ?_
    refine pf vF (wS (cA not ai)) (cA not bj) ?_
    refine pf vF wN (cA not ai) ?_
    refine n2<|cf F1 ?_
    have hP:i_ChanOpen a A b=(oc a A b):=by rw [c0];simp only [od,bj];try simp only [ai,aI,cond_true,cond_false]
    exact wj (dy hP _ cI)
   refine mv (vb (bif (decide (0 < (a.Next.length:Int))) then (decide (b.Epoch=(a.Cur.N+1))) else (false))) (wS (cA not bj)) ?_
   refine pu (vb (!(bif (decide (0 < (a.Next.length:Int))) then (decide (b.Epoch=(a.Cur.N+1))) else (false)))) (wS (cA not bj)) ?_
   refine pk (vb (!(bif (decide (0 < (a.Next.length:Int))) then (decide (b.Epoch=(a.Cur.N+1))) else (false)))) (wS (cA not ai)) (cA not bj) ?_
   refine pf (vb (!(bif (decide (0 < (a.Next.length:Int))) then (decide (b.Epoch=(a.Cur.N+1))) else (false)))) wN (cA not ai) ?_
   refine n2 ?_
   rcases bf (bif (decide (0 < (a.Next.length:Int))) then (decide (b.Epoch=(a.Cur.N+1))) else (false)) with cJ|cJ
   ·refine ct (cA not cJ) ?_
    have hQ:i_ChanOpen a A b=((a),[],8):=by rw [c0];simp only [od,bj,cJ];try simp only [ai,aI,cond_true,cond_false]
    exact wj (ek hQ _ cI)
   refine cf (cA not cJ) ?_
   have hR:i_ChanOpen a A b=(oc a A b):=by rw [c0];simp only [od,bj,cJ];try simp only [ai,aI,cond_true,cond_false]
   exact wj (dy hR _ cI)
  refine pu (vp X 14) wN ?_
  have eF:=(bE.kp e)
  refine ld (vs bM a.Next.length bN) wN nd eF ?_
  refine ln wN mR (cK.from0 eh) ?_
  refine pu (vb (decide (0 < (a.Next.length:Int)))) wN ?_
  refine mw (vb (decide (0 < (a.Next.length:Int)))) ?_
  rcases bf (decide (0 < (a.Next.length:Int))) with az|az
  ·have jz:=dF az
   iterate 7 refine sk az ?_
   refine pf vF wN az ?_
   refine aw vF ?_
   refine n2 ?_
   have hS:i_ChanOpen a A b=(od a A b):=by rw [eg];simp only [oP,az,cond_true,cond_false]
   exact oq _ (by exact ⟨rfl,rfl,rfl,rfl,rfl,rfl,rfl,rfl,rfl,(cA Value.bool (show (false:Bool)=(bif (decide (0 < (a.Next.length:Int))) then (decide (b.Epoch=(a.Cur.N+1))) else (false)) by simp only [az,cond_true,cond_false])),trivial⟩) (ej hS _ (Ch.refl _ _))
  have j0:=dT az
  refine pu (vp aJ 7) (wS az) ?_
  have hT:=(bD.kp e)
  refine ld (vi b.Epoch) (wS az) mT hT ?_
  refine pu (vp X 2) (wS az) ?_
  refine pu (vp X 2) (wS az) ?_
  refine ld (vi a.Cur.N) (wS az) mT eF ?_
  refine ar (a.Cur.N+1) (wS az) ?_
  refine pu (vb (decide (b.Epoch=(a.Cur.N+1)))) (wS az) ?_
  refine pk (vb (decide (b.Epoch=(a.Cur.N+1)))) wN az ?_
  refine aw (vb (decide (b.Epoch=(a.Cur.N+1)))) ?_
  refine n2 ?_
  have hU:i_ChanOpen a A b=(od a A b):=by rw [eg];simp only [oP,az,cond_true,cond_false]
  exact oq _ (by exact ⟨rfl,rfl,rfl,rfl,rfl,rfl,rfl,rfl,rfl,(cA Value.bool (show (decide (b.Epoch=(a.Cur.N+1)):Bool)=(bif (decide (0 < (a.Next.length:Int))) then (decide (b.Epoch=(a.Cur.N+1))) else (false)) by simp only [az,cond_true,cond_false])),trivial⟩) (ej hU _ (Ch.refl _ _))
 refine pu (vp X 12) wN ?_
 refine ld (vb a.HasOld) wN qC bE ?_
 refine mw (vb a.HasOld) ?_
 rcases bf a.HasOld with a6|a6
 ·iterate 6 refine sk a6 ?_
  refine pf vF wN a6 ?_
  refine aw vF ?_
  refine n2 ?_
  have hW:i_ChanOpen a A b=(oP a A b):=by simp only [i_ChanOpen,a0,a3,aN,bC,a6,cond_true,cond_false]
  exact oq _ (by exact ⟨rfl,rfl,rfl,rfl,rfl,rfl,rfl,rfl,(cA Value.bool (show (false:Bool)=(bif a.HasOld then (decide (b.Epoch=a.Old.N)) else (false)) by simp only [a6,cond_true,cond_false])),trivial⟩) (ef hW _ (Ch.refl _ _))
 refine pu (vp aJ 7) (wS a6) ?_
 refine ld (vi b.Epoch) (wS a6) mT bD ?_
 refine pu (vp X 7) (wS a6) ?_
 refine pu (vp X 7) (wS a6) ?_
 refine ld (vi a.Old.N) (wS a6) mT bE ?_
 refine pu (vb (decide (b.Epoch=a.Old.N))) (wS a6) ?_
 refine pk (vb (decide (b.Epoch=a.Old.N))) wN a6 ?_
 refine aw (vb (decide (b.Epoch=a.Old.N))) ?_
 refine n2 ?_
 have hX:i_ChanOpen a A b=(oP a A b):=by simp only [i_ChanOpen,a0,a3,aN,bC,a6,cond_true,cond_false]
 exact oq _ (by exact ⟨rfl,rfl,rfl,rfl,rfl,rfl,rfl,rfl,(cA Value.bool (show (decide (b.Epoch=a.Old.N):Bool)=(bif a.HasOld then (decide (b.Epoch=a.Old.N)) else (false)) by simp only [a6,cond_true,cond_false])),trivial⟩) (ef hX _ (Ch.refl _ _))

theorem uM (i:World) (I:Value) (a:PEp) (R:xn i I a) :Fn Tryz.prog 69 #[I] i (fun v m=>Keep i m∧Ar m i.heap.size v (a)):=by
 obtain ⟨d,o,p,q,rfl,S,T,V,W⟩:=R
 refine nu (n:=15) [(va (oi a d o p q))] Tryz.func69 rfl rfl ?_
 refine sr<|bx (oi a d o p q) wN ?_
 intro f B aB aC r s
 refine al se wN pm ?_
 intro aD t X J g Y
 have C:=((Ch.base i).extk r).extk g
 refine mW<|mP<|nh<|ob ([(3,[],[],(fun _ v _=>v=(vp f 0))),(4,[],[0],(fun _ v _=>v=(vi a.N))),(5,[],[],(fun _ v w=>∃ a0:Addr,v=.slice (some a0) 0 0∧w.ownsRow t.heap.size 5 1 (.slice (some a0) 0 0) 0 [])),(6,[],[],(fun _ v _=>v=(vp f 1))),(7,[],[3],(fun _ v _=>v=(vs d a.Key.length o))),(8,[],[2,3,4],(fun _ v w=>∃ (d:Option Addr) (D:Nat),v=.slice d a.Key.length D∧w.ownsRow t.heap.size 5 1 (.slice d a.Key.length D) a.Key.length (a.Key.map bV)∧a.Key.length≤1073741824∧Aps [(d,D)])),(9,[],[],(fun _ v _=>v=(vp f 2))),(10,[],[6],(fun _ v _=>v=(vi a.Seq))),(11,[],[],(fun _ v _=>v=(vp f 3))),(12,[],[8],(fun _ v _=>v=(va (pn a.Win p q)))),(13,[8],[2,3,4,5,8,9],(fun e v w=>CH w t.heap.size v a.Win (fun Z=>Ap (sp (e 8)) Z)))]:GV) (fun _ m=>Keep t m) [] oM rfl (by kernel_rfl) (by kernel_rfl) ?_ (fun _ _ h=>h) (fun _ _ _ _ h _ k=>h.trans k) trivial ?_ ?_ ?_
 ·exact ⟨hV,hE,⟨hV,hE,⟨(fun e v w B h hk=>by obtain ⟨j,he,l⟩:=h;exact ⟨j,he,mz l hk⟩),hE,⟨hV,hE,⟨hV,hE,⟨(fun e v w B h hk=>by obtain ⟨j,E,he,l,F,hap⟩:=h;exact ⟨j,E,he,mz l hk,F,hap⟩),hE,⟨hV,hE,⟨hV,hE,⟨hV,hE,⟨hV,hE,⟨(fun e v w B h hk=>by obtain ⟨j,E,he,l,F,hap,hx⟩:=h;exact ⟨j,E,he,mz l hk,F,hap,hx⟩),(fun aE aF v w hx h=>by have aa:=hx 8 (by simp);simp only [aa] at h;exact h),trivial⟩⟩⟩⟩⟩⟩⟩⟩⟩⟩⟩
 ·exact trivial
 ·refine ⟨?_,⟨?_,⟨?_,⟨?_,⟨?_,⟨?_,⟨?_,⟨?_,⟨?_,⟨?_,⟨?_,trivial⟩⟩⟩⟩⟩⟩⟩⟩⟩⟩⟩
  ·intro _ b aG _
   rintro _ _ _ _ _ _ _ _ _ _ _
   refine sw<|pu (vp f 0) wN ?_
   exact f1
  ·intro _ b ab _
   rintro _ rfl _ _ _ _ _ _ _ _ _ _
   refine sw ?_
   have ac:=((s.kp g).kp ab)
   refine ld (vi a.N) wN mT ac ?_
   exact f1
  ·intro _ b ad _
   rintro _ _ _ _ _ _ _ _ _ _ _
   refine sw<|nF wN rfl rfl mR (fun w=>by kernel_rfl) ?_
   intro aH G ae af
   exact nK ae ⟨_,rfl,mO af ad.size⟩
  ·intro _ b aI _
   rintro _ _ _ _ _ _ _ _ _ _ _
   refine sw<|pu (vp f 1) wN ?_
   exact f1
  ·intro _ b ah _
   rintro _ _ _ _ rfl _ _ _ _ _ _ _
   refine sw ?_
   have ai:=((s.kp g).kp ah)
   refine ld (vs d a.Key.length o) wN nd ai ?_
   exact f1
  ·intro _ b K _
   have aj:=C.extk K
   rintro _ _ _ ⟨aJ,rfl,ak⟩ _ rfl _ rfl _ _ _ _ _ _
   refine sw<|ap0 a.Key wN mR ak (S.from0 aj) K.size ?_
   intro aK aL G am an aM
   exact nK am ⟨_,_,rfl,an,T,⟨trivial,trivial⟩⟩
  ·intro _ b aN _
   rintro _ _ _ _ _ _ _ _ _ _ _
   refine sw<|pu (vp f 2) wN ?_
   exact f1
  ·intro _ b ao _
   rintro _ _ _ _ _ _ _ rfl _ _ _ _
   refine sw ?_
   have ap:=((s.kp g).kp ao)
   refine ld (vi a.Seq) wN mT ap ?_
   exact f1
  ·intro _ b aO _
   rintro _ _ _ _ _ _ _ _ _ _ _
   refine sw<|pu (vp f 3) wN ?_
   exact f1
  ·intro _ b aq _
   rintro _ _ _ _ _ _ _ _ _ rfl _ _
   refine sw ?_
   have au:=((s.kp g).kp aq)
   refine lN (pn a.Win p q) wN nJ ni au ?_
   exact f1
  ·intro _ b L _
   have av:=C.extk L
   rintro _ _ _ ⟨aP,rfl,aQ⟩ _ rfl _ rfl _ ⟨aR,aS,rfl,ax,aT,-⟩ _ _ _ rfl _ rfl _
   refine sw<|cl wN (wQ b _ a.Win (qX (V.from0 av) W)) ?_
   rintro _ G ⟨ay,⟨aU,aV,rfl,M,az,a1⟩⟩
   exact nK ay ⟨_,_,rfl,(mO M L.size),az,a1,(Ap.lt ax M (Nat.le_refl _))⟩
 ·intro _ b O
  rintro _ rfl _ rfl _ ⟨aW,rfl,aX⟩ _ rfl _ rfl _ ⟨u,x,rfl,P,a2,-⟩ _ rfl _ rfl _ rfl _ rfl _ ⟨y,A,rfl,Q,a3,aY,a4⟩
  refine sw<|pu (va (oi a u x y A)) wN ?_
  have a5:=(Y.kp O)
  refine sv (oi a u x y A) wN mY a5 ?_
  intro G H a6 aZ
  have a7:=(C.extk O).ext H (fun k hk=>by subst hk;exact nT r.size X)
  refine n3 ?_
  have a8:=(gc P H (ne1 P (J)))
  have a9:=(gc Q H (ne1 Q (J)))
  refine rc (oi a u x y A) a6 nv mY ?_
  refine ⟨a7.keep0,?_⟩
  have aA:a=a:=by rfl
  rw [aA]
  exact ⟨_,_,_,_,rfl,(mO a8 (z2 r g)),a2,(mO a9 (z2 r g)),a3,⟨⟨a4,trivial⟩,⟨trivial,trivial⟩⟩⟩

theorem Bp (r:World) (R:Value) (a:PEp) (ai:xn r R a) (s:Bool) :Fn Tryz.prog 70 #[R,(vb s)] r (fun v A=>Keep r A∧Ar A r.heap.size v (a)):=by
 obtain ⟨d,t,u,x,rfl,S,T,V,W⟩:=ai
 refine nu (n:=27) [(va (oi a d t u x)),(vb s)] Tryz.func70 rfl rfl ?_
 refine sr<|bx (oi a d t u x) wN ?_
 intro f B be bg j o
 refine al se wN pm ?_
 intro bh p X C g Y
 have q:=((Ch.base r).extk j).extk g
 refine n4<|mw (vb s) ?_
 refine pu (vb (!s)) wN ?_
 refine n2 ?_
 rcases bt s with H|H
 ·refine cf (cA not H)<|y1 ?_
  have aj:=(o.kp g)
  refine lN (oi a d t u x) wN nv mY aj ?_
  refine cl wN (uM p _ a (qs (S.from0 q) T (V.from0 q) W)) ?_
  rintro _ b ⟨Z,⟨I,J,K,L,rfl,aa,ak,ab,am,an⟩⟩
  have ao:=(Y.kp Z)
  refine sv (oi (a) I J K L) wN mY ao ?_
  intro y M ap bi
  have aq:=(q.extk Z).ext M (fun k hk=>by subst hk;exact nT j.size X)
  refine n3 ?_
  have au:=(gc aa M (ne1 aa (C)))
  have av:=(gc ab M (ne1 ab (C)))
  refine rc (oi (a) I J K L) ap nv mY ?_
  refine ⟨aq.keep0,?_⟩
  have ax:a=(a):=by rfl
  rw [ax]
  exact ⟨_,_,_,_,rfl,(mO au (z2 j g)),ak,(mO av (z2 j g)),am,⟨⟨(an.1.1),trivial⟩,⟨trivial,trivial⟩⟩⟩
 refine ct (cA not H)<|nh<|ob ([(7,[],[],(fun _ v _=>v=(vp f 0))),(8,[],[0],(fun _ v _=>v=(vi a.N))),(9,[],[],(fun _ v w=>∃ a0:Addr,v=.slice (some a0) 0 0∧w.ownsRow p.heap.size 5 1 (.slice (some a0) 0 0) 0 [])),(10,[],[],(fun _ v _=>v=(vp f 1))),(11,[],[3],(fun _ v _=>v=(vs d a.Key.length t))),(12,[],[2,3,4],(fun _ v w=>∃ (d:Option Addr) (i:Nat),v=.slice d a.Key.length i∧w.ownsRow p.heap.size 5 1 (.slice d a.Key.length i) a.Key.length (a.Key.map bV)∧a.Key.length≤1073741824∧Aps [(d,i)])),(13,[],[],(fun _ v _=>v=(vp f 2))),(14,[],[6],(fun _ v _=>v=(vi a.Seq))),(15,[],[],(fun _ v _=>v=(vp f 3))),(16,[],[8],(fun _ v _=>v=(vp f 3))),(17,[],[8,9],(fun _ v _=>v=(vi a.Win.Top))),(18,[],[],(fun _ v w=>∃ a0:Addr,v=.slice (some a0) 0 0∧w.ownsRow p.heap.size 3 1 (.slice (some a0) 0 0) 0 [])),(19,[],[],(fun _ v _=>v=(vp f 3))),(20,[],[12],(fun _ v _=>v=(vp f 4))),(21,[],[12,13],(fun _ v _=>v=(vs u a.Win.Bits.length x))),(22,[12],[2,3,4,5,11,12,13,14],(fun e v w=>∃ (d:Option Addr) (i:Nat),v=.slice d a.Win.Bits.length i∧w.ownsRow p.heap.size 3 1 (.slice d a.Win.Bits.length i) a.Win.Bits.length (a.Win.Bits.map iV)∧a.Win.Bits.length≤1073741824∧Aps [(d,i)]∧Ap (sp (e 12)) (d,i))),(23,[22],[2,3,4,5,8,9,10,11,12,13,14,15],(fun e v _=>v=(.agg #[(vi a.Win.Top),(e 22)])))]:GV) (fun _ A=>Keep p A) [] oM rfl (by kernel_rfl) (by kernel_rfl) ?_ (fun _ _ h=>h) (fun _ _ _ _ h _ k=>h.trans k) trivial ?_ ?_ ?_
 ·exact ⟨hV,hE,⟨hV,hE,⟨(fun e v w B h hk=>by obtain ⟨l,he,m⟩:=h;exact ⟨l,he,mz m hk⟩),hE,⟨hV,hE,⟨hV,hE,⟨(fun e v w B h hk=>by obtain ⟨l,O,he,m,P,hap⟩:=h;exact ⟨l,O,he,mz m hk,P,hap⟩),hE,⟨hV,hE,⟨hV,hE,⟨hV,hE,⟨hV,hE,⟨hV,hE,⟨(fun e v w B h hk=>by obtain ⟨l,he,m⟩:=h;exact ⟨l,he,mz m hk⟩),hE,⟨hV,hE,⟨hV,hE,⟨hV,hE,⟨(fun e v w B h hk=>by obtain ⟨l,O,he,m,P,hap,hx⟩:=h;exact ⟨l,O,he,mz m hk,P,hap,hx⟩),(fun ay az v w hx h=>by have a1:=hx 12 (by simp);simp only [a1] at h;exact h),⟨hV,(fun ay az v w hx h=>by have a2:=hx 22 (by simp);simp only [a2] at h;exact h),trivial⟩⟩⟩⟩⟩⟩⟩⟩⟩⟩⟩⟩⟩⟩⟩⟩⟩
 ·exact trivial
 ·refine ⟨?_,⟨?_,⟨?_,⟨?_,⟨?_,⟨?_,⟨?_,⟨?_,⟨?_,⟨?_,⟨?_,⟨?_,⟨?_,⟨?_,⟨?_,⟨?_,⟨?_,trivial⟩⟩⟩⟩⟩⟩⟩⟩⟩⟩⟩⟩⟩⟩⟩⟩⟩
  ·intro _ b bj _
   iterate 17 intro _
   refine sw<|pu (vp f 0) wN ?_
   exact f1
  ·intro _ b a3 _
   rintro _ rfl;iterate 16 intro _
   refine sw ?_
   have a4:=((o.kp g).kp a3)
   refine ld (vi a.N) wN mT a4 ?_
   exact f1
  ·intro _ b a5 _
   iterate 17 intro _
   refine sw<|nF wN rfl rfl mR (fun w=>by kernel_rfl) ?_
   intro bk y a6 a7
   exact nK a6 ⟨_,rfl,mO a7 a5.size⟩
  ·intro _ b bl _
   iterate 17 intro _
   refine sw<|pu (vp f 1) wN ?_
   exact f1
  ·intro _ b a8 _
   rintro _ _ _ _ rfl;iterate 13 intro _
   refine sw ?_
   have a9:=((o.kp g).kp a8)
   refine ld (vs d a.Key.length t) wN nd a9 ?_
   exact f1
  ·intro _ b ac _
   have aA:=q.extk ac
   rintro _ _ _ ⟨bm,rfl,aB⟩ _ rfl _ rfl _ _ _ _ _ _ _ _ _ _ _ _
   refine sw<|ap0 a.Key wN mR aB (S.from0 aA) ac.size ?_
   intro bn bo y aC aD bp
   exact nK aC ⟨_,_,rfl,aD,T,⟨trivial,trivial⟩⟩
  ·intro _ b bq _
   iterate 17 intro _
   refine sw<|pu (vp f 2) wN ?_
   exact f1
  ·intro _ b aE _
   rintro _ _ _ _ _ _ _ rfl _ _ _ _ _ _ _ _ _ _
   refine sw ?_
   have aF:=((o.kp g).kp aE)
   refine ld (vi a.Seq) wN mT aF ?_
   exact f1
  ·intro _ b br _
   iterate 17 intro _
   refine sw<|pu (vp f 3) wN ?_
   exact f1
  ·intro _ b bu _
   rintro _ _ _ _ _ _ _ _ _ rfl _ _ _ _ _ _ _ _
   refine sw<|pu (vp f 3) wN ?_
   exact f1
  ·intro _ b aG _
   rintro _ _ _ _ _ _ _ _ _ rfl _ rfl _ _ _ _ _ _ _
   refine sw ?_
   have aH:=((o.kp g).kp aG)
   refine ld (vi a.Win.Top) wN mT aH ?_
   exact f1
  ·intro _ b aI _
   iterate 17 intro _
   refine sw<|nF wN rfl rfl nf (fun w=>by kernel_rfl) ?_
   intro bv y aJ aK
   exact nK aJ ⟨_,rfl,mO aK aI.size⟩
  ·intro _ b bw _
   iterate 17 intro _
   refine sw<|pu (vp f 3) wN ?_
   exact f1
  ·intro _ b bz _
   (iterate 13 intro _);rintro rfl _ _ _ _
   refine sw<|pu (vp f 4) wN ?_
   exact f1
  ·intro _ b aL _
   (iterate 13 intro _);rintro rfl _ rfl _ _ _
   refine sw ?_
   have aM:=((o.kp g).kp aL)
   refine ld (vs u a.Win.Bits.length x) wN oA aM ?_
   exact f1
  ·intro _ b ad _
   have aN:=q.extk ad
   rintro _ _ _ ⟨b0,rfl,b1⟩ _ rfl _ rfl _ ⟨b2,b3,rfl,aO,b4,-⟩ _ _ _ _ _ _ ⟨b5,rfl,aP⟩ _ rfl _ rfl _ rfl _ _
   refine sw<|Bz a.Win.Bits wN nf aP (V.from0 aN) ad.size ?_
   intro b6 b7 y aQ aR aS
   exact nK aQ ⟨_,_,rfl,aR,W,⟨trivial,trivial⟩,(Ap.new aO aS (Nat.le_refl _))⟩
  ·intro _ b b8 _
   rintro _ _ _ ⟨b9,rfl,bA⟩ _ rfl _ rfl _ ⟨bB,bC,rfl,bD,bE,-⟩ _ _ _ rfl _ rfl _ rfl _ ⟨bF,rfl,bG⟩ _ rfl _ rfl _ rfl _ ⟨aT,aU,rfl,bH,bI,-,bJ⟩ _
   refine sw<|pu (va (pn a.Win aT aU)) wN ?_
   exact f1
 ·intro _ b ae
  rintro _ rfl _ rfl _ ⟨bK,rfl,bL⟩ _ rfl _ rfl _ ⟨D,E,rfl,af,aV,-⟩ _ rfl _ rfl _ rfl _ rfl _ rfl _ ⟨bM,rfl,bN⟩ _ rfl _ rfl _ rfl _ ⟨F,G,rfl,ah,aW,-,aX⟩ _ rfl
  refine sw<|pu (va (oi a D E F G)) wN ?_
  have aY:=(Y.kp ae)
  refine sv (oi a D E F G) wN mY aY ?_
  intro y Q aZ bO
  have ba:=(q.extk ae).ext Q (fun k hk=>by subst hk;exact nT j.size X)
  refine n1 ?_
  have bb:=(gc af Q (ne1 af (C)))
  have bc:=(gc ah Q (ne1 ah (C)))
  refine rc (oi a D E F G) aZ nv mY ?_
  refine ⟨ba.keep0,?_⟩
  have bd:a=a:=by rfl
  rw [bd]
  exact ⟨_,_,_,_,rfl,(mO bb (z2 j g)),aV,(mO bc (z2 j g)),aW,⟨⟨aX,trivial⟩,⟨trivial,trivial⟩⟩⟩
end Go.Proofs.YtacoceibbheccaaGreat.K
