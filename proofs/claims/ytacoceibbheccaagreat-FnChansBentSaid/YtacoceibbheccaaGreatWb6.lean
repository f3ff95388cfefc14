import Derived.Test.YtacoceibbheccaaGreatWb5
namespace Go.Proofs.YtacoceibbheccaaGreat.K
open Go.RowKit
set_option linter.unusedVariables false
set_option linter.unusedSimpArgs false
set_option maxRecDepth 100000
set_option maxHeartbeats 4000000
theorem tF {w:World} {x:List (List UInt8)} {a:Option Addr} {b:Nat} (d:RLv vh w 1073741824 a x.length b x) (e:x.length≤1073741824):CB w (vs a x.length b) x:=⟨_,_,rfl,d,e⟩
theorem xd (i:World) (d:Int) (y:Value) (e:List UInt8) (T:pI i y e) (a:Int) (b:Int) :Fn Tryz.prog 118 #[(vi d),y,(vi a),(vi b)] i (fun v A=>Keep i A∧rr A i.heap.size v (nI d e a b)):=by
 obtain ⟨j,k,rfl,B,C⟩:=T
 refine nu (n:=37) [(vi d),(vs j e.length k),(vi a),(vi b)] Tryz.func118 rfl rfl ?_
 refine sr<|aw (vs none 0 0) ?_
 refine n4<|jT1 [(0,(vi d)),(1,(vs j e.length k)),(2,(vi a)),(3,(vi b)),(8,(vs none 0 0))] (nI d e a b=[]) ?_ fun r=>?_
 ·intro V D W a0
  have X:=(Ch.base i).extk W
  refine sr<|aw (vs none 0 0) ?_
  refine n1<|rt (vs none 0 0) ?_
  refine ⟨X.keep0,?_⟩
  rw [V]
  exact ⟨_,_,rfl,(nM _ _ _ _),(by simp),⟨trivial,trivial⟩⟩
 refine mw (vi d) ?_
 refine cl wN (uU i d) ?_
 rintro _ D ⟨l,rfl⟩
 have E:=(Ch.base i).extk l
 refine pu (vb (!(oV d))) wN ?_
 refine mw (vb (!(oV d))) ?_
 rcases bf (oV d) with f|f
 ·have a1:=uG f
  iterate 3 refine sk (cA not f) ?_
  refine pk vT wN (cA not f) ?_
  refine mw vT ?_
  iterate 3 refine sk T1 ?_
  refine pk vT wN T1 ?_
  refine mw vT ?_
  iterate 3 refine sk T1 ?_
  refine pk vT wN T1 ?_
  refine n2<|ct T1 ?_
  have Y:nI d e a b=[]:=by first|exact qn (by omega)|exact qm (by omega) (by omega) (by omega) (by omega) (by simp [ns,sM,tY])
  exact wj (r Y _ l)
 have a2:=tp f
 refine mv (vs j e.length k) (wS (cA not f)) ?_
 refine cl (wS (cA not f)) (qy D _ e (nH (B.from0 E) C)) ?_
 rintro _ Z ⟨o,rfl⟩
 refine pu (vb (!(nZ e))) (wS (cA not f)) ?_
 refine pf (vb (!(nZ e))) wN (cA not f) ?_
 refine mw (vb (!(nZ e))) ?_
 rcases bf (nZ e) with g|g
 ·have a3:=qv g
  iterate 3 refine sk (cA not g) ?_
  refine pk vT wN (cA not g) ?_
  refine mw vT ?_
  iterate 3 refine sk T1 ?_
  refine pk vT wN T1 ?_
  refine n2<|ct T1 ?_
  have aa:nI d e a b=[]:=by first|exact qn (by omega)|exact qm (by omega) (by omega) (by omega) (by omega) (by simp [ns,sM,tY])
  exact wj (r aa _ (l.trans o))
 have a4:=qu g
 refine mv (vi a) (wS (cA not g)) ?_
 refine cl (wS (cA not g)) (oW Z a 0 4294967295) ?_
 rintro _ ab ⟨s,rfl⟩
 have ac:=(E.extk o).extk s
 refine pu (vb (!(i_within a 0 4294967295))) (wS (cA not g)) ?_
 refine pf (vb (!(i_within a 0 4294967295))) wN (cA not g) ?_
 refine mw (vb (!(i_within a 0 4294967295))) ?_
 rcases bf (i_within a 0 4294967295) with h|h
 ·have a5:=oe h
  iterate 3 refine sk (cA not h) ?_
  refine pk vT wN (cA not h) ?_
  refine n2<|ct T1 ?_
  have ad:nI d e a b=[]:=by first|exact qn (by omega)|exact qm (by omega) (by omega) (by omega) (by omega) (by simp [ns,sM,tY])
  exact wj (r ad _ ((l.trans o).trans s))
 have a6:=nD h
 refine mv (vi b) (wS (cA not h)) ?_
 refine cl (wS (cA not h)) (oW ab b 0 281474976710655) ?_
 rintro _ a7 ⟨u,rfl⟩
 refine pu (vb (!(i_within b 0 281474976710655))) (wS (cA not h)) ?_
 refine pf (vb (!(i_within b 0 281474976710655))) wN (cA not h) ?_
 refine n2 ?_
 rcases bf (i_within b 0 281474976710655) with p|p
 ·have a8:=oe p
  refine ct (cA not p) ?_
  have ae:nI d e a b=[]:=by first|exact qn (by omega)|exact qm (by omega) (by omega) (by omega) (by omega) (by simp [ns,sM,tY])
  exact wj (r ae _ (((l.trans o).trans s).trans u))
 have a9:=nD p
 refine cf (cA not p)<|y1<|mw (vi d) ?_
 refine qj d wN rfl rfl (by kernel_rfl) ?_
 refine ltB ([(by8 d)]:List UInt8) wN mR ?_
 intro F G H I af
 have ah:=(ac.extk u).extk I
 refine mw (vs j e.length k) ?_
 refine mw (vi a) ?_
 refine cl wN (vU H _ _ (show pI H (vs none 0 0) [] from ⟨_,_,rfl,(Rd.nil _ _),(by simp)⟩) a 4 (by first|omega|(simp;done)|(simp;omega)|(simp only [List.length_append,List.length_cons,List.length_nil] at *;omega))) ?_
 rintro _ J ⟨x,⟨K,M,rfl,ai,aj,aA⟩⟩
 have aB:=vx a 4
 refine mw (vi b) ?_
 refine cl wN (vU J _ _ (show pI J (vs none 0 0) [] from ⟨_,_,rfl,(Rd.nil _ _),(by simp)⟩) b 6 (by first|omega|(simp;done)|(simp;omega)|(simp only [List.length_append,List.length_cons,List.length_nil] at *;omega))) ?_
 rintro _ aC ⟨t,⟨N,O,rfl,ak,am,aD⟩⟩
 have aE:=vx b 6
 refine sh [(vs F ([(by8 d)]:List UInt8).length G),(vs j e.length k),(vs K (pB [] a 4).length M),(vs N (pB [] b 6).length O)] wN rfl rfl qG (m:=4) rfl (by simp only [maxLen];omega) (fun w=>by kernel_rfl) ?_
 intro aF an q P
 obtain ⟨aG,aH,rfl⟩:=pe P
 have Q:=((ah.extk x).extk t).extk q
 have ao:=(mz ak q)
 have ap:=(mz (mz ai t) q)
 have aq:=(mz (mz (mz af x) t) q)
 refine cl wN (rz an _ [([(by8 d)]:List UInt8),e,(pB [] a 4),(pB [] b 6)] (tF (RLv.mk (L:=vh) [(([(by8 d)]:List UInt8),[(F,G)]),(e,[(j,k)]),((pB [] a 4),[(K,M)]),((pB [] b 6),[(N,O)])] (Rd.of_own P) rfl ⟨⟨⟨(Rd.of_own aq),(by simp)⟩,trivial⟩,⟨⟨⟨(B.from0 Q),C⟩,trivial⟩,⟨⟨⟨(Rd.of_own ap),aj⟩,trivial⟩,⟨⟨⟨(Rd.of_own ao),am⟩,trivial⟩,trivial⟩⟩⟩⟩ (by first|decide|exact Nat.le_of_ble_eq_true rfl)) (by first|decide|exact Nat.le_of_ble_eq_true rfl)) (by first|omega|(rw [pG];omega)|(rw [pG];simp only [List.length_cons,List.length_nil,ou];omega)|(rw [rv];simp only [List.length_cons,List.length_nil,ou];omega)|(simp only [ns,List.flatten_cons,List.flatten_nil,List.length_append,List.length_cons,List.length_nil,ou];omega))) ?_
 rintro _ aI ⟨au,⟨R,S,rfl,av,ax,aJ⟩⟩
 have ay:=Q.extk au
 have aK:=(show (ns [([(by8 d)]:List UInt8),e,(pB [] a 4),(pB [] b 6)]).length=1+e.length+(pB [] a 4).length+(pB [] b 6).length by simp only [ns,List.flatten_cons,List.flatten_nil,List.length_append,List.length_cons,List.length_nil];omega)
 refine aw (vs R (ns [([(by8 d)]:List UInt8),e,(pB [] a 4),(pB [] b 6)]).length S) ?_
 refine n3<|rt (vs R (ns [([(by8 d)]:List UInt8),e,(pB [] a 4),(pB [] b 6)]).length S) ?_
 refine ⟨ay.keep0,?_⟩
 have az:nI d e a b=(ns [([(by8 d)]:List UInt8),e,(pB [] a 4),(pB [] b 6)]):=by first|exact qn (by omega)|exact qm (by omega) (by omega) (by omega) (by omega) (by simp [ns,sM,tY])
 rw [az]
 exact ⟨_,_,rfl,(mO av (z8 l o s u I x t q)),ax,⟨trivial,trivial⟩⟩

def nA (b:Int) (a:PFrame):(List UInt8):=bif (oV b) then (bif (oZ a.Kind) then (bif (nW a) then ((ns [([116]:List UInt8),(nI b a.Sn a.Epoch a.Seq),([(by8 a.Kind)]:List UInt8),a.Body])) else ([])) else ([])) else ([])
theorem uv (x:World) (b:Int) (V:Value) (a:PFrame) (ax:vg x V a) :Fn Tryz.prog 83 #[(vi b),V] x (fun v H=>Keep x H∧rr H x.heap.size v (nA b a)):=by
 obtain ⟨i,M,y,A,N,O,P,Q,o,p,R,S,rfl,ay,az,W,X,a0,a1,a2,a3,Y,Z,a4,a5⟩:=ax
 refine nu (n:=36) [(vi b),(va (oD a i M y A N O P Q o p R S))] Tryz.func83 rfl rfl ?_
 refine sr<|bx (oD a i M y A N O P Q o p R S) wN ?_
 intro g I bn bo aa a6
 have ab:=(Ch.base x).extk aa
 refine aw (vs none 0 0) ?_
 refine n4<|jT1 [(0,(vi b)),(3,(vp g 0)),(4,(vs none 0 0))] (nA b a=[]) ?_ fun T=>?_
 ·intro a7 ac a8 bp
  have a9:=ab.extk a8
  refine sr<|aw (vs none 0 0) ?_
  refine n1<|rt (vs none 0 0) ?_
  refine ⟨a9.keep0,?_⟩
  rw [a7]
  exact ⟨_,_,rfl,(nM _ _ _ _),(by simp),⟨trivial,trivial⟩⟩
 refine mw (vi b) ?_
 refine cl wN (uU I b) ?_
 rintro _ ac ⟨s,rfl⟩
 refine pu (vb (!(oV b))) wN ?_
 refine mw (vb (!(oV b))) ?_
 rcases bf (oV b) with f|f
 ·have bq:=uG f
  iterate 4 refine sk (cA not f) ?_
  refine pk vT wN (cA not f) ?_
  refine mw vT ?_
  iterate 3 refine sk T1 ?_
  refine pk vT wN T1 ?_
  refine n2<|ct T1 ?_
  have aA:nA b a=[]:=by simp only [nA,f,cond_true,cond_false]
  exact wj (T aA _ s)
 have br:=tp f
 refine pu (vp g 0) (wS (cA not f)) ?_
 have ad:=(a6.kp s)
 refine ld (vi a.Kind) (wS (cA not f)) mT ad ?_
 refine cl (wS (cA not f)) (uX ac a.Kind) ?_
 rintro _ aB ⟨B,rfl⟩
 have q:=(ab.extk s).extk B
 refine pu (vb (!(oZ a.Kind))) (wS (cA not f)) ?_
 refine pf (vb (!(oZ a.Kind))) wN (cA not f) ?_
 refine mw (vb (!(oZ a.Kind))) ?_
 rcases bf (oZ a.Kind) with j|j
 ·iterate 3 refine sk (cA not j) ?_
  refine pk vT wN (cA not j) ?_
  refine n2<|ct T1 ?_
  have aC:nA b a=[]:=by simp only [nA,f,j,cond_true,cond_false]
  exact wj (T aC _ (s.trans B))
 have t:=(ad.kp B)
 refine lN (oD a i M y A N O P Q o p R S) (wS (cA not j)) nk mZ t ?_
 refine cl (wS (cA not j)) (vV aB _ a (qI (ay.from0 q) az (W.from0 q) X (a0.from0 q) a1 (a2.from0 q) a3 (Y.from0 q) Z (a4.from0 q) a5)) ?_
 rintro _ J ⟨l,rfl⟩
 have ae:=q.extk l
 refine pu (vb (!(nW a))) (wS (cA not j)) ?_
 refine pf (vb (!(nW a))) wN (cA not j) ?_
 refine n2 ?_
 rcases bf (nW a) with u|u
 ·refine ct (cA not u) ?_
  have aD:nA b a=[]:=by simp only [nA,f,j,u,cond_true,cond_false]
  exact wj (T aD _ ((s.trans B).trans l))
 have bu:=vJ u
 refine cf (cA not u)<|nm<|mP<|nh<|ob ([(19,[],[],(fun _ v w=>∃ (i:Option Addr) (r:Nat),v=.slice i ([116]:List UInt8).length r∧w.ownsRow J.heap.size 5 1 (.slice i ([116]:List UInt8).length r) ([116]:List UInt8).length (([116]:List UInt8).map bV)∧([116]:List UInt8).length≤1073741824∧Aps [(i,r)])),(20,[],[],(fun _ v _=>v=(vi b))),(21,[],[],(fun _ v _=>v=(vp g 3))),(22,[],[2],(fun _ v _=>v=(vs y a.Sn.length A))),(23,[],[],(fun _ v _=>v=(vp g 7))),(24,[],[4],(fun _ v _=>v=(vi a.Epoch))),(25,[],[],(fun _ v _=>v=(vp g 8))),(26,[],[6],(fun _ v _=>v=(vi a.Seq))),(27,[],[1,2,3,4,5,6,7],(fun _ v w=>rr w J.heap.size v (nI b a.Sn a.Epoch a.Seq))),(28,[],[],(fun _ v _=>v=(vp g 0))),(29,[],[9],(fun _ v _=>v=(vi a.Kind))),(30,[],[9,10],(fun _ v _=>v=(v8 ((by8 a.Kind).toNat:Int)))),(31,[],[9,10,11],(fun _ v w=>∃ (i:Option Addr) (r:Nat),v=.slice i ([(by8 a.Kind)]:List UInt8).length r∧w.ownsRow J.heap.size 5 1 (.slice i ([(by8 a.Kind)]:List UInt8).length r) ([(by8 a.Kind)]:List UInt8).length (([(by8 a.Kind)]:List UInt8).map bV)∧([(by8 a.Kind)]:List UInt8).length≤1073741824∧Aps [(i,r)])),(32,[],[],(fun _ v _=>v=(vp g 9))),(33,[],[13],(fun _ v _=>v=(vs o a.Body.length p)))]:GV) (fun _ H=>Keep J H) [] oM rfl (by kernel_rfl) (by kernel_rfl) ?_ (fun _ _ h=>h) (fun _ _ _ _ h _ k=>h.trans k) trivial ?_ ?_ ?_
 ·exact ⟨(fun e v w I h hk=>by obtain ⟨C,D,he,E,F,hap⟩:=h;exact ⟨C,D,he,mz E hk,F,hap⟩),hE,⟨hV,hE,⟨hV,hE,⟨hV,hE,⟨hV,hE,⟨hV,hE,⟨hV,hE,⟨hV,hE,⟨(fun e v w I h hk=>by obtain ⟨C,D,he,E,F,hap⟩:=h;exact ⟨C,D,he,mz E hk,F,hap⟩),hE,⟨hV,hE,⟨hV,hE,⟨hV,hE,⟨(fun e v w I h hk=>by obtain ⟨C,D,he,E,F,hap⟩:=h;exact ⟨C,D,he,mz E hk,F,hap⟩),hE,⟨hV,hE,⟨hV,hE,trivial⟩⟩⟩⟩⟩⟩⟩⟩⟩⟩⟩⟩⟩⟩⟩
 ·exact trivial
 ·refine ⟨?_,⟨?_,⟨?_,⟨?_,⟨?_,⟨?_,⟨?_,⟨?_,⟨?_,⟨?_,⟨?_,⟨?_,⟨?_,⟨?_,⟨?_,trivial⟩⟩⟩⟩⟩⟩⟩⟩⟩⟩⟩⟩⟩⟩⟩
  ·intro _ d aE _
   iterate 15 intro _
   refine sw<|ltB ([116]:List UInt8) wN mR ?_
   intro bv bw K aF aG
   exact nK aF ⟨_,_,rfl,(mO aG aE.size),(by simp),⟨trivial,trivial⟩⟩
  ·intro _ d bz _
   iterate 15 intro _
   refine sw<|mw (vi b) ?_
   exact f1
  ·intro _ d b0 _
   iterate 15 intro _
   refine sw<|pu (vp g 3) wN ?_
   exact f1
  ·intro _ d aH _
   rintro _ _ _ rfl _ _ _ _ _ _ _ _ _ _ _ _
   refine sw ?_
   have aI:=((t.kp l).kp aH)
   refine ld (vs y a.Sn.length A) wN nd aI ?_
   exact f1
  ·intro _ d b1 _
   iterate 15 intro _
   refine sw<|pu (vp g 7) wN ?_
   exact f1
  ·intro _ d aJ _
   rintro _ _ _ _ _ rfl _ _ _ _ _ _ _ _ _ _
   refine sw ?_
   have aK:=((t.kp l).kp aJ)
   refine ld (vi a.Epoch) wN mT aK ?_
   exact f1
  ·intro _ d b2 _
   iterate 15 intro _
   refine sw<|pu (vp g 8) wN ?_
   exact f1
  ·intro _ d aL _
   rintro _ _ _ _ _ _ _ rfl _ _ _ _ _ _ _ _
   refine sw ?_
   have aM:=((t.kp l).kp aL)
   refine ld (vi a.Seq) wN mT aM ?_
   exact f1
  ·intro _ d af _
   have aN:=ae.extk af
   rintro _
   iterate 7 rintro _ rfl
   intro _ _ _ _ _ _ _
   refine sw<|cl wN (xd d b _ a.Sn (nH (W.from0 aN) X) a.Epoch a.Seq) ?_
   rintro _ K ⟨aO,⟨b3,b4,rfl,aP,aQ,aR⟩⟩
   have b5:=qb b a.Sn a.Epoch a.Seq
   exact nK aO ⟨_,_,rfl,(mO aP af.size),aQ,aR⟩
  ·intro _ d b6 _
   iterate 15 intro _
   refine sw<|pu (vp g 0) wN ?_
   exact f1
  ·intro _ d aS _
   rintro _ _ _ _ _ _ _ _ _ _ rfl _ _ _ _ _
   refine sw ?_
   have aT:=((t.kp l).kp aS)
   refine ld (vi a.Kind) wN mT aT ?_
   exact f1
  ·intro _ d b7 _
   rintro _ _ _ _ _ _ _ _ _ _ rfl _ rfl _ _ _ _
   refine sw<|qj a.Kind wN rfl rfl (by kernel_rfl) ?_
   exact f1
  ·intro _ d aU _
   rintro _ _ _ _ _ _ _ _ _ _ rfl _ rfl _ rfl _ _ _
   refine sw<|ltB ([(by8 a.Kind)]:List UInt8) wN mR ?_
   intro b8 b9 K aV aW
   exact nK aV ⟨_,_,rfl,(mO aW aU.size),(by simp),⟨trivial,trivial⟩⟩
  ·intro _ d bA _
   iterate 15 intro _
   refine sw<|pu (vp g 9) wN ?_
   exact f1
  ·intro _ d aX _
   (iterate 14 intro _);rintro rfl _
   refine sw ?_
   have aY:=((t.kp l).kp aX)
   refine ld (vs o a.Body.length p) wN nd aY ?_
   exact f1
 ·intro _ d ah
  rintro _ ⟨ai,aj,rfl,aZ,ba,-⟩
  iterate 7 rintro _ rfl
  rintro _ ⟨ak,am,rfl,bb,bc,bB⟩
  have bC:=qb b a.Sn a.Epoch a.Seq
  rintro _ rfl _ rfl _ rfl _ ⟨an,ao,rfl,bd,be,-⟩ _ rfl _ rfl
  refine sw<|sh [(vs ai ([116]:List UInt8).length aj),(vs ak (nI b a.Sn a.Epoch a.Seq).length am),(vs an ([(by8 a.Kind)]:List UInt8).length ao),(vs o a.Body.length p)] wN rfl rfl qG (m:=4) rfl (by simp only [maxLen];omega) (fun w=>by kernel_rfl) ?_
  intro bD K G ap
  obtain ⟨bE,bF,rfl⟩:=pe ap
  have aq:=(ae.extk ah).extk G
  have bg:=(mz bd G)
  have bh:=(mz bb G)
  have bi:=(mz aZ G)
  refine cl wN (rz K _ [([116]:List UInt8),(nI b a.Sn a.Epoch a.Seq),([(by8 a.Kind)]:List UInt8),a.Body] (tF (RLv.mk (L:=vh) [(([116]:List UInt8),[(ai,aj)]),((nI b a.Sn a.Epoch a.Seq),[(ak,am)]),(([(by8 a.Kind)]:List UInt8),[(an,ao)]),(a.Body,[(o,p)])] (Rd.of_own ap) rfl ⟨⟨⟨(Rd.of_own bi),ba⟩,trivial⟩,⟨⟨⟨(Rd.of_own bh),bc⟩,trivial⟩,⟨⟨⟨(Rd.of_own bg),be⟩,trivial⟩,⟨⟨⟨(Y.from0 aq),Z⟩,trivial⟩,trivial⟩⟩⟩⟩ (by first|decide|exact Nat.le_of_ble_eq_true rfl)) (by first|decide|exact Nat.le_of_ble_eq_true rfl)) (by first|omega|(rw [pG];omega)|(rw [pG];simp only [List.length_cons,List.length_nil,ou];omega)|(rw [rv];simp only [List.length_cons,List.length_nil,ou];omega)|(simp only [ns,List.flatten_cons,List.flatten_nil,List.length_append,List.length_cons,List.length_nil,ou];omega))) ?_
  rintro _ bG ⟨bj,⟨au,av,rfl,bk,bl,bH⟩⟩
  have bm:=aq.extk bj
  have bI:=(show (ns [([116]:List UInt8),(nI b a.Sn a.Epoch a.Seq),([(by8 a.Kind)]:List UInt8),a.Body]).length=1+(nI b a.Sn a.Epoch a.Seq).length+1+a.Body.length by simp only [ns,List.flatten_cons,List.flatten_nil,List.length_append,List.length_cons,List.length_nil];omega)
  refine aw (vs au (ns [([116]:List UInt8),(nI b a.Sn a.Epoch a.Seq),([(by8 a.Kind)]:List UInt8),a.Body]).length av) ?_
  refine n3<|rt (vs au (ns [([116]:List UInt8),(nI b a.Sn a.Epoch a.Seq),([(by8 a.Kind)]:List UInt8),a.Body]).length av) ?_
  refine ⟨bm.keep0,?_⟩
  simp only [nA,f,j,u,cond_true,cond_false]
  exact ⟨_,_,rfl,(mO bk (z6 aa s B l ah G)),bl,⟨trivial,trivial⟩⟩

def oG (a:PWin) (b:Int):(Bool):=bif (rg a) then (bif (i_within b 0 281474976710655) then (bif (decide (a.Top < b)) then (true) else (bif (decide (((a.Top - 1024)+1)≤b)) then (!(oo a b)) else (false))) else (false)) else (false)
theorem Ag (h:World) (r:Value) (a:PWin) (A:xP h r a) (b:Int) :Fn Tryz.prog 119 #[r,(vi b)] h (fun v s=>Keep h s∧O_4 s h.heap.size v (oG a b)):=by
 obtain ⟨i,j,rfl,t,u⟩:=A
 refine nu (n:=31) [(va (pn a i j)),(vi b)] Tryz.func119 rfl rfl ?_
 refine sr<|bx (pn a i j) wN ?_
 intro m B L M C w
 have o:=(Ch.base h).extk C
 refine aw vF ?_
 refine n4<|jT1 [(1,(vi b)),(2,(vp m 0)),(4,vF)] (oG a b=false) ?_ fun x=>?_
 ·intro D y E N
  have F:=o.extk E
  refine sr<|aw vF ?_
  refine n1<|rt vF ?_
  refine ⟨F.keep0,?_⟩
  rw [D]
  exact rfl
 refine lN (pn a i j) wN nJ ni w ?_
 refine cl wN (yU B _ a (qX (t.from0 o) u)) ?_
 rintro _ y ⟨k,rfl⟩
 refine pu (vb (!(rg a))) wN ?_
 refine mw (vb (!(rg a))) ?_
 rcases bf (rg a) with e|e
 ·iterate 3 refine sk (cA not e) ?_
  refine pk vT wN (cA not e) ?_
  refine n2<|ct T1 ?_
  have G:oG a b=false:=by simp only [oG,e,cond_true,cond_false]
  exact wj (x G _ k)
 have O:=yx e
 refine mv (vi b) (wS (cA not e)) ?_
 refine cl (wS (cA not e)) (oW y b 0 281474976710655) ?_
 rintro _ H ⟨p,rfl⟩
 have l:=(o.extk k).extk p
 refine pu (vb (!(i_within b 0 281474976710655))) (wS (cA not e)) ?_
 refine pf (vb (!(i_within b 0 281474976710655))) wN (cA not e) ?_
 refine n2 ?_
 rcases bf (i_within b 0 281474976710655) with g|g
 ·have P:=oe g
  refine ct (cA not g) ?_
  have I:oG a b=false:=by simp only [oG,e,g,cond_true,cond_false]
  exact wj (x I _ (k.trans p))
 have Q:=nD g
 refine cf (cA not g)<|y1<|mw (vi b) ?_
 refine pu (vp m 0) wN ?_
 have q:=((w.kp k).kp p)
 refine ld (vi a.Top) wN mT q ?_
 refine pu (vb (decide (a.Top < b))) wN ?_
 refine mw (vb (decide (a.Top < b))) ?_
 rcases bt (decide (a.Top < b)) with d|d
 ·have R:=dT d
  iterate 7 refine sk d ?_
  refine su ?_
  refine su ?_
  refine su ?_
  refine su ?_
  refine sk d ?_
  refine pk vT wN d ?_
  refine aw vT ?_
  refine n3<|rt vT ?_
  refine ⟨l.keep0,?_⟩
  simp only [oG,e,g,d,cond_true,cond_false]
  exact rfl
 have S:=dF d
 refine mv (vi b) (wS d) ?_
 refine pu (vp m 0) (wS d) ?_
 refine ld (vi a.Top) (wS d) mT q ?_
 refine ar (a.Top - 1024) (wS d) ?_
 refine ar ((a.Top - 1024)+1) (wS d) ?_
 refine pu (vb (decide (((a.Top - 1024)+1)≤b))) (wS d) ?_
 refine mv (vb (decide (((a.Top - 1024)+1)≤b))) (wS d) ?_
 rcases bf (decide (((a.Top - 1024)+1)≤b)) with f|f
 ·have T:=dF f
  iterate 4 refine sk f ?_
  refine pf vF (wS d) f ?_
  refine pf vF wN d ?_
  refine aw vF ?_
  refine n3<|rt vF ?_
  refine ⟨l.keep0,?_⟩
  simp only [oG,e,g,d,f,cond_true,cond_false]
  exact rfl
 have V:=dT f
 refine lN (pn a i j) (wS f) nJ ni q ?_
 refine mv (vi b) (wS f) ?_
 refine cl (wS f) (uV H _ a (qX (t.from0 l) u) b (by first|assumption|omega) (by first|assumption|omega)) ?_
 rintro _ W ⟨J,rfl⟩
 have K:=l.extk J
 refine pu (vb (!(oo a b))) (wS f) ?_
 refine pk (vb (!(oo a b))) (wS d) f ?_
 refine pf (vb (!(oo a b))) wN d ?_
 refine aw (vb (!(oo a b))) ?_
 refine n3<|rt (vb (!(oo a b))) ?_
 refine ⟨K.keep0,?_⟩
 simp only [oG,e,g,d,f,cond_true,cond_false]
 exact rfl
theorem vD {w:PWin} {n:Int} (h:oG w n=true):qf w.Bits=true∧w.Bits.length=32 ∧ -1≤w.Top∧w.Top≤281474976710655∧0≤n∧n≤281474976710655:=by
  unfold oG at h
  cases h1:rg w with
  | false=>simp only [h1,cond_false] at h;cases h
  | true =>
    cases h2:i_within n 0 281474976710655 with
    | false=>simp only [h1,h2,cond_true,cond_false] at h;cases h
    | true =>
      have a:=yx h1
      have b:=nD h2
      exact ⟨a.1,a.2.1,a.2.2.1,a.2.2.2,b.1,b.2⟩

def rp (w:PWin) (n:Int):PWin×Bool:=bif oG w n then ({Top:=if w.Top < n then n else w.Top,Bits:=wd w.Bits w.Top n:PWin},true) else (w,false)
theorem Ah (y:World) (X:Value) (d:PWin) (az:xP y X d) (e:Int) :Fn Tryz.prog 84 #[X,(vi e)] y (fun v o=>Keep y o∧zn o y.heap.size v (rp d e)):=by
 obtain ⟨K,L,rfl,Y,Z⟩:=az
 refine nu (n:=57) [(va (pn d K L)),(vi e)] Tryz.func84 rfl rfl ?_
 refine sr<|bx (pn d K L) wN ?_
 intro I bd be Q s a0
 refine al [(vi 0),(vs none 0 0)] wN pX ?_
 intro R B aa C p ab
 have ac:=((Ch.base y).extk s).extk p
 refine aw vF ?_
 refine nx ?_
 have ad:=(a0.kp p)
 refine lN (pn d K L) wN nJ ni ad ?_
 refine cl wN (vS B _ d (qX (Y.from0 ac) Z)) ?_
 rintro _ ae ⟨r,⟨g,i,rfl,m,af,bg⟩⟩
 refine al [(vi 0),(vs none 0 0)] wN pX ?_
 intro t bh q bi D a1
 refine sv (pn (d) g i) wN ni a1 ?_
 intro a2 E ah bj
 have ai:=((ac.extk r).extk D).ext E (fun k hk=>by subst hk;exact nT (z3 s p r) q)
 refine n4 ?_
 have aj:=(((ad.kp r).kp D).ch E (nN (nL Q (nT (z2 p r) q))))
 refine lN (pn d K L) wN nJ ni aj ?_
 refine mw (vi e) ?_
 refine cl wN (Ag a2 _ d (qX (Y.from0 ai) Z) e) ?_
 rintro _ S ⟨A,rfl⟩
 have ak:=ai.extk A
 refine pu (vb (!(oG d e))) wN ?_
 refine n2 ?_
 rcases bf (oG d e) with F|F
 ·refine ct (cA not F)<|sr ?_
  have a3:=(ah.kp A)
  refine lN (pn (d) g i) wN nJ ni a3 ?_
  have a4:=((((ab.kp r).kp D).ch E (nN (nL C (nT r.size q)))).kp A)
  refine sv (pn (d) g i) wN ni a4 ?_
  intro M am a5 bk
  have a6:=ak.ext am (fun k hk=>by subst hk;exact nT s.size aa)
  refine aw vF ?_
  refine n1 ?_
  have a7:=(gc (mz (gc (mz m D) E (ne2 m (q))) A) am (ne1 m (C)))
  refine rc2 (pn (d) g i) (vb false) a5 nJ ni ?_
  refine ⟨a6.keep0,?_⟩
  have a8:rp d e=((d),false):=by simp only [rp,F,cond_true,cond_false]
  rw [a8]
  exact ⟨_,_,rfl,(mO a7 (z2 s p)),af,⟨trivial,trivial⟩⟩
 have bl:=vD F
 refine cf (cA not F)<|y2<|pu (vp I 0) wN ?_
 have an:=(aj.kp A)
 refine ld (vi d.Top) wN mT an ?_
 refine ar (d.Top+1) wN ?_
 refine mw (vi e) ?_
 refine ar (e - 1024) wN ?_
 refine ar ((e - 1024)+1) wN ?_
 refine pu (vi (if (d.Top+1) < ((e - 1024)+1) then ((e - 1024)+1) else (d.Top+1))) wN ?_
 refine aw (vi (if (d.Top+1) < ((e - 1024)+1) then ((e - 1024)+1) else (d.Top+1))) ?_
 refine mW<|mP<|ng ?_
 have a9:=(mz (gc (mz m D) E (ne2 m (q))) A)
 have aA:((d).Bits:List Int)=pC d.Bits (if (d.Top+1) < ((e - 1024)+1) then ((e - 1024)+1) else (d.Top+1)) 0:=by rfl
 have aB:=(ah.kp A)
 refine oa [(1,(vi e)),(2,(vp I 0)),(4,(vp R 0)),(5,vF),(6,(vp t 0)),(7,(vi ((if (d.Top+1) < ((e - 1024)+1) then ((e - 1024)+1) else (d.Top+1))+((0:Nat):Int))))] ⟨rfl,rfl,rfl,rfl,rfl,(cA (Value.int .i64) (show ((if (d.Top+1) < ((e - 1024)+1) then ((e - 1024)+1) else (d.Top+1)):Int)=((if (d.Top+1) < ((e - 1024)+1) then ((e - 1024)+1) else (d.Top+1))+((0:Nat):Int)) by omega)),trivial⟩ (fun e' o=>∃ (j:Nat) (ao:Env),e'=pt ao [(1,(vi e)),(2,(vp I 0)),(4,(vp R 0)),(5,vF),(6,(vp t 0)),(7,(vi ((if (d.Top+1) < ((e - 1024)+1) then ((e - 1024)+1) else (d.Top+1))+((j:Nat):Int))))]∧Ch (fun k=>y.heap.size≤k) y o∧Ch (fun k=>B.heap.size≤k) S o∧((if (d.Top+1) < ((e - 1024)+1) then ((e - 1024)+1) else (d.Top+1))+((j:Nat):Int)≤e∨j=0)∧j≤1024∧World.ownsRow o B.heap.size 3 1 (.slice g ((d).Bits).length i) ((d).Bits).length ((pC d.Bits (if (d.Top+1) < ((e - 1024)+1) then ((e - 1024)+1) else (d.Top+1)) j).map iV)∧Blk o t 34 [(vi ((d).Top)),(vs g ((d).Bits).length i)]) (fun e' _=>(e - (intOf (e' 7))).toNat) ?_ ?_
 ·exact fun u=>⟨0,u,rfl,ak,(Ch.refl (fun k=>B.heap.size≤k) S),(by omega),(by omega),(by rw [← aA];exact a9),aB⟩
 ·rintro _ M ⟨j,ao,rfl,ap,T,bm,bn,G,N⟩
  have hwl:=qo d.Bits (if (d.Top+1) < ((e - 1024)+1) then ((e - 1024)+1) else (d.Top+1)) j
  have hwi:=rV (rK (l:=d.Bits) (vD (w:=d) (n:=e) (by assumption)).1 (if (d.Top+1) < ((e - 1024)+1) then ((e - 1024)+1) else (d.Top+1)) j) ((((if (d.Top+1) < ((e - 1024)+1) then ((e - 1024)+1) else (d.Top+1))+((j:Nat):Int)) % 1024) / 32).toNat
  have hwn:=rV (rK (l:=d.Bits) (vD (w:=d) (n:=e) (by assumption)).1 (if (d.Top+1) < ((e - 1024)+1) then ((e - 1024)+1) else (d.Top+1)) j) ((e % 1024) / 32).toNat
  refine nh<|sr<|mw (vi ((if (d.Top+1) < ((e - 1024)+1) then ((e - 1024)+1) else (d.Top+1))+((j:Nat):Int))) ?_
  refine mw (vi e) ?_
  refine pu (vb (decide (((if (d.Top+1) < ((e - 1024)+1) then ((e - 1024)+1) else (d.Top+1))+((j:Nat):Int)) < e))) wN ?_
  refine n2 ?_
  rcases bf (decide (((if (d.Top+1) < ((e - 1024)+1) then ((e - 1024)+1) else (d.Top+1))+((j:Nat):Int)) < e)) with H|H
  ·have bo:=dF H
   refine cf H<|oh<|mU<|mU<|nq<|mP<|nh<|ob ([(39,[],[],(fun _ v _=>v=(vp t 1))),(40,[],[0],(fun _ v _=>v=(vs g ((d).Bits).length i))),(41,[],[],(fun _ v _=>v=(vi e))),(42,[],[2],(fun _ v _=>v=(vi (e % 1024)))),(43,[],[2,3],(fun _ v _=>v=(vi ((e % 1024) / 32)))),(44,[],[0,1,2,3,4],(fun _ v _=>v=(ve (vs g ((d).Bits).length i) ((((e % 1024) / 32)).toNat*1)))),(45,[],[0,1,2,3,4,5],(fun _ v _=>v=(vi ((pC d.Bits (if (d.Top+1) < ((e - 1024)+1) then ((e - 1024)+1) else (d.Top+1)) j).getD (((e % 1024) / 32)).toNat 0)))),(46,[],[],(fun _ v _=>v=(vi e))),(47,[],[7],(fun _ v _=>v=(vi (e % 32)))),(48,[],[7,8],(fun _ v _=>v=(vi (1*(2:Int) ^ ((e % 32)).toNat))))]:GV) (fun _ o=>Keep M o) [] oM rfl (by kernel_rfl) (by kernel_rfl) ?_ (fun _ _ h=>h) (fun _ _ _ _ h _ k=>h.trans k) trivial ?_ ?_ ?_
   ·exact ⟨hV,hE,⟨hV,hE,⟨hV,hE,⟨hV,hE,⟨hV,hE,⟨hV,hE,⟨hV,hE,⟨hV,hE,⟨hV,hE,⟨hV,hE,trivial⟩⟩⟩⟩⟩⟩⟩⟩⟩⟩
   ·exact trivial
   ·refine ⟨?_,⟨?_,⟨?_,⟨?_,⟨?_,⟨?_,⟨?_,⟨?_,⟨?_,⟨?_,trivial⟩⟩⟩⟩⟩⟩⟩⟩⟩⟩
    ·intro _ f bp _
     rintro _ _ _ _ _ _ _ _ _ _
     refine sw<|pu (vp t 1) wN ?_
     exact f1
    ·intro _ f aC _
     rintro _ rfl _ _ _ _ _ _ _ _ _
     refine sw ?_
     have aD:=(N.kp aC)
     refine ld (vs g ((d).Bits).length i) wN oA aD ?_
     exact f1
    ·intro _ f bq _
     rintro _ _ _ _ _ _ _ _ _ _
     refine sw<|mw (vi e) ?_
     exact f1
    ·intro _ f br _
     rintro _ _ _ rfl _ _ _ _ _ _ _
     refine sw<|qp e 1024 wN rfl rfl (by kernel_rfl) (by first|omega|assumption) ?_
     exact f1
    ·intro _ f bu _
     rintro _ _ _ rfl _ rfl _ _ _ _ _ _
     refine sw<|rU (e % 1024) 32 wN rfl rfl (by kernel_rfl) (by omega) (by omega) (by omega) ?_
     exact f1
    ·intro _ f aE _
     rintro _ rfl _ rfl _ rfl _ rfl _ rfl _ _ _ _ _
     refine sw ?_
     have aF:=(mz G aE)
     refine ix wN ((e % 1024) / 32) nf (Rd.of_own aF) ?_
     exact f1
    ·intro _ f aG _
     rintro _ rfl _ rfl _ rfl _ rfl _ rfl _ rfl _ _ _ _
     refine sw ?_
     have aH:=(mz G aG)
     refine ei (x:=(pC d.Bits (if (d.Top+1) < ((e - 1024)+1) then ((e - 1024)+1) else (d.Top+1)) j)) ((((e % 1024) / 32)).toNat) wN mT (Rd.of_own aH) ?_
     exact f1
    ·intro _ f bv _
     rintro _ _ _ _ _ _ _ _ _ _
     refine sw<|mw (vi e) ?_
     exact f1
    ·intro _ f bw _
     rintro _ _ _ _ _ _ _ _ rfl _ _
     refine sw<|qp e 32 wN rfl rfl (by kernel_rfl) (by first|omega|assumption) ?_
     exact f1
    ·intro _ f bz _
     rintro _ _ _ _ _ _ _ _ rfl _ rfl _
     refine sw<|tz 1 (e % 32) wN rfl rfl rfl rfl rfl (by omega) (by omega) (by omega) (by omega) ?_
     have b0:=rm ((e % 32)).toNat (by omega)
     exact f1
   ·intro _ f J
    iterate 10 rintro _ rfl
    have b1:=rm ((e % 32)).toNat (by omega)
    refine sw<|we ((pC d.Bits (if (d.Top+1) < ((e - 1024)+1) then ((e - 1024)+1) else (d.Top+1)) j).getD (((e % 1024) / 32)).toNat 0) (1*(2:Int) ^ ((e % 32)).toNat) wN rfl rfl (by kernel_rfl) (by omega) (by omega) (by omega) (by omega) ?_
    have b2:=uD (a:=((pC d.Bits (if (d.Top+1) < ((e - 1024)+1) then ((e - 1024)+1) else (d.Top+1)) j).getD (((e % 1024) / 32)).toNat 0)) (b:=(1*(2:Int) ^ ((e % 32)).toNat)) (by omega) (by omega)
    have aq:=(mz G J)
    refine ix wN ((e % 1024) / 32) nf (Rd.of_own aq) ?_
    refine pR (pC d.Bits (if (d.Top+1) < ((e - 1024)+1) then ((e - 1024)+1) else (d.Top+1)) j) ((((e % 1024) / 32)).toNat) ((orI ((pC d.Bits (if (d.Top+1) < ((e - 1024)+1) then ((e - 1024)+1) else (d.Top+1)) j).getD (((e % 1024) / 32)).toNat 0) (1*(2:Int) ^ ((e % 32)).toNat))) wN rfl rfl rfl (by simp) rfl nV aq (by first|omega|(simp only [List.length_append,List.length_replicate,List.length_take,List.length_set,List.length_map];omega)) ?_
    intro aI O aJ
    have aK:=(ap.extk J).ext O (fun k hk=>nT (z2 s p) (nb m k hk).1)
    refine nx<|pu (vp I 0) wN ?_
    have aL:=(((an.ch T (Nat.not_le.2 (nL Q p.size))).kp J).ch O (fun h=>by have:=(nb m _ h).1;have:=nL Q p.size;omega))
    refine ld (vi d.Top) wN mT aL ?_
    refine mw (vi e) ?_
    refine pu (vi (if d.Top < e then e else d.Top)) wN ?_
    refine pu (vp t 0) wN ?_
    have aM:=((N.kp J).ch O (fun h=>by have:=(nb m _ h).2;have:=nT (Nat.le_refl ae.heap.size) q;omega))
    refine sf (vi (if d.Top < e then e else d.Top)) wN nV aM ?_
    intro b3 V aN b4
    have aO:=aK.ext V (fun k hk=>by subst hk;exact nT (z3 s p r) q)
    refine nx<|lN [(vi (if d.Top < e then e else d.Top)),(vs g ((d).Bits).length i)] wN nJ ni aN ?_
    have aP:=((((((((ab.kp r).kp D).ch E (nN (nL C (nT r.size q)))).kp A).ch T (Nat.not_le.2 (C))).kp J).ch O (fun h=>by have:=(nb m _ h).1;have:=nL C (Nat.le_refl B.heap.size);omega)).ch V (nN (nL C (nT r.size q))))
    refine sv [(vi (if d.Top < e then e else d.Top)),(vs g ((d).Bits).length i)] wN ni aP ?_
    intro b5 au aQ b6
    have aR:=aO.ext au (fun k hk=>by subst hk;exact nT s.size aa)
    refine aw vT ?_
    refine n3 ?_
    have av:=(gc (gc aJ V (ne2 m (q))) au (ne1 m (C)))
    refine rc2 [(vi (if d.Top < e then e else d.Top)),(vs g ((d).Bits).length i)] (vb true) aQ nJ ni ?_
    refine ⟨aR.keep0,?_⟩
    have aS:rp d e=({Top:=(if d.Top < e then e else d.Top),Bits:=((pC d.Bits (if (d.Top+1) < ((e - 1024)+1) then ((e - 1024)+1) else (d.Top+1)) j).set ((((e % 1024) / 32)).toNat) (orI ((pC d.Bits (if (d.Top+1) < ((e - 1024)+1) then ((e - 1024)+1) else (d.Top+1)) j).getD (((e % 1024) / 32)).toNat 0) (1*(2:Int) ^ ((e % 32)).toNat))):PWin},true):=by have hz:=zh (l:=d.Bits) (top:=d.Top) (n:=e) (a:=(if (d.Top+1) < ((e - 1024)+1) then ((e - 1024)+1) else (d.Top+1))) (j:=j) (by omega) (by omega) (by omega);simp only [rp,F,H,cond_true];rw [← hz];rfl
    rw [aS]
    have ax:((d).Bits).length=(((pC d.Bits (if (d.Top+1) < ((e - 1024)+1) then ((e - 1024)+1) else (d.Top+1)) j).set ((((e % 1024) / 32)).toNat) (orI ((pC d.Bits (if (d.Top+1) < ((e - 1024)+1) then ((e - 1024)+1) else (d.Top+1)) j).getD (((e % 1024) / 32)).toNat 0) (1*(2:Int) ^ ((e % 32)).toNat)))).length:=by first|(simp only [List.length_append,List.length_take,List.length_replicate,List.length_set,List.length_map];done)|(simp only [List.length_append,List.length_take,List.length_replicate,List.length_set,List.length_map];omega)
    rw [ax] at av ⊢
    exact ⟨_,_,rfl,(mO av (z2 s p)),(by rw [← ax];exact af),⟨trivial,trivial⟩⟩
  have b7:=dT H
  refine ct H<|nm<|mP<|nh<|ng<|ob ([(27,[],[],(fun _ v _=>v=(vp t 1))),(28,[],[0],(fun _ v _=>v=(vs g ((d).Bits).length i))),(29,[],[],(fun _ v _=>v=(vi ((if (d.Top+1) < ((e - 1024)+1) then ((e - 1024)+1) else (d.Top+1))+((j:Nat):Int))))),(30,[],[2],(fun _ v _=>v=(vi (((if (d.Top+1) < ((e - 1024)+1) then ((e - 1024)+1) else (d.Top+1))+((j:Nat):Int)) % 1024)))),(31,[],[2,3],(fun _ v _=>v=(vi ((((if (d.Top+1) < ((e - 1024)+1) then ((e - 1024)+1) else (d.Top+1))+((j:Nat):Int)) % 1024) / 32)))),(32,[],[0,1,2,3,4],(fun _ v _=>v=(ve (vs g ((d).Bits).length i) ((((((if (d.Top+1) < ((e - 1024)+1) then ((e - 1024)+1) else (d.Top+1))+((j:Nat):Int)) % 1024) / 32)).toNat*1)))),(33,[],[0,1,2,3,4,5],(fun _ v _=>v=(vi ((pC d.Bits (if (d.Top+1) < ((e - 1024)+1) then ((e - 1024)+1) else (d.Top+1)) j).getD (((((if (d.Top+1) < ((e - 1024)+1) then ((e - 1024)+1) else (d.Top+1))+((j:Nat):Int)) % 1024) / 32)).toNat 0)))),(34,[],[],(fun _ v _=>v=(vi ((if (d.Top+1) < ((e - 1024)+1) then ((e - 1024)+1) else (d.Top+1))+((j:Nat):Int))))),(35,[],[7],(fun _ v _=>v=(vi (((if (d.Top+1) < ((e - 1024)+1) then ((e - 1024)+1) else (d.Top+1))+((j:Nat):Int)) % 32)))),(36,[],[7,8],(fun _ v _=>v=(vi (1*(2:Int) ^ ((((if (d.Top+1) < ((e - 1024)+1) then ((e - 1024)+1) else (d.Top+1))+((j:Nat):Int)) % 32)).toNat))))]:GV) (fun _ o=>Keep M o) [] oM rfl (by kernel_rfl) (by kernel_rfl) ?_ (fun _ _ h=>h) (fun _ _ _ _ h _ k=>h.trans k) trivial ?_ ?_ ?_
  ·exact ⟨hV,hE,⟨hV,hE,⟨hV,hE,⟨hV,hE,⟨hV,hE,⟨hV,hE,⟨hV,hE,⟨hV,hE,⟨hV,hE,⟨hV,hE,trivial⟩⟩⟩⟩⟩⟩⟩⟩⟩⟩
  ·exact trivial
  ·refine ⟨?_,⟨?_,⟨?_,⟨?_,⟨?_,⟨?_,⟨?_,⟨?_,⟨?_,⟨?_,trivial⟩⟩⟩⟩⟩⟩⟩⟩⟩⟩
   ·intro _ f b8 _
    rintro _ _ _ _ _ _ _ _ _ _
    refine sw<|pu (vp t 1) wN ?_
    exact f1
   ·intro _ f aT _
    rintro _ rfl _ _ _ _ _ _ _ _ _
    refine sw ?_
    have aU:=(N.kp aT)
    refine ld (vs g ((d).Bits).length i) wN oA aU ?_
    exact f1
   ·intro _ f b9 _
    rintro _ _ _ _ _ _ _ _ _ _
    refine sw<|mw (vi ((if (d.Top+1) < ((e - 1024)+1) then ((e - 1024)+1) else (d.Top+1))+((j:Nat):Int))) ?_
    exact f1
   ·intro _ f bA _
    rintro _ _ _ rfl _ _ _ _ _ _ _
    refine sw<|qp ((if (d.Top+1) < ((e - 1024)+1) then ((e - 1024)+1) else (d.Top+1))+((j:Nat):Int)) 1024 wN rfl rfl (by kernel_rfl) (by first|omega|assumption) ?_
    exact f1
   ·intro _ f bB _
    rintro _ _ _ rfl _ rfl _ _ _ _ _ _
    refine sw<|rU (((if (d.Top+1) < ((e - 1024)+1) then ((e - 1024)+1) else (d.Top+1))+((j:Nat):Int)) % 1024) 32 wN rfl rfl (by kernel_rfl) (by omega) (by omega) (by omega) ?_
    exact f1
   ·intro _ f aV _
    rintro _ rfl _ rfl _ rfl _ rfl _ rfl _ _ _ _ _
    refine sw ?_
    have aW:=(mz G aV)
    refine ix wN ((((if (d.Top+1) < ((e - 1024)+1) then ((e - 1024)+1) else (d.Top+1))+((j:Nat):Int)) % 1024) / 32) nf (Rd.of_own aW) ?_
    exact f1
   ·intro _ f aX _
    rintro _ rfl _ rfl _ rfl _ rfl _ rfl _ rfl _ _ _ _
    refine sw ?_
    have aY:=(mz G aX)
    refine ei (x:=(pC d.Bits (if (d.Top+1) < ((e - 1024)+1) then ((e - 1024)+1) else (d.Top+1)) j)) ((((((if (d.Top+1) < ((e - 1024)+1) then ((e - 1024)+1) else (d.Top+1))+((j:Nat):Int)) % 1024) / 32)).toNat) wN mT (Rd.of_own aY) ?_
    exact f1
   ·intro _ f bC _
    rintro _ _ _ _ _ _ _ _ _ _
    refine sw<|mw (vi ((if (d.Top+1) < ((e - 1024)+1) then ((e - 1024)+1) else (d.Top+1))+((j:Nat):Int))) ?_
    exact f1
   ·intro _ f bD _
    rintro _ _ _ _ _ _ _ _ rfl _ _
    refine sw<|qp ((if (d.Top+1) < ((e - 1024)+1) then ((e - 1024)+1) else (d.Top+1))+((j:Nat):Int)) 32 wN rfl rfl (by kernel_rfl) (by first|omega|assumption) ?_
    exact f1
   ·intro _ f bE _
    rintro _ _ _ _ _ _ _ _ rfl _ rfl _
    refine sw<|tz 1 (((if (d.Top+1) < ((e - 1024)+1) then ((e - 1024)+1) else (d.Top+1))+((j:Nat):Int)) % 32) wN rfl rfl rfl rfl rfl (by omega) (by omega) (by omega) (by omega) ?_
    have bF:=rm ((((if (d.Top+1) < ((e - 1024)+1) then ((e - 1024)+1) else (d.Top+1))+((j:Nat):Int)) % 32)).toNat (by omega)
    exact f1
  ·intro _ f P
   iterate 10 rintro _ rfl
   have bG:=rm ((((if (d.Top+1) < ((e - 1024)+1) then ((e - 1024)+1) else (d.Top+1))+((j:Nat):Int)) % 32)).toNat (by omega)
   refine sw<|yb ((pC d.Bits (if (d.Top+1) < ((e - 1024)+1) then ((e - 1024)+1) else (d.Top+1)) j).getD (((((if (d.Top+1) < ((e - 1024)+1) then ((e - 1024)+1) else (d.Top+1))+((j:Nat):Int)) % 1024) / 32)).toNat 0) (1*(2:Int) ^ ((((if (d.Top+1) < ((e - 1024)+1) then ((e - 1024)+1) else (d.Top+1))+((j:Nat):Int)) % 32)).toNat) wN rfl rfl (by kernel_rfl) (by omega) (by omega) (by omega) (by omega) ?_
   have bH:=tR (a:=((pC d.Bits (if (d.Top+1) < ((e - 1024)+1) then ((e - 1024)+1) else (d.Top+1)) j).getD (((((if (d.Top+1) < ((e - 1024)+1) then ((e - 1024)+1) else (d.Top+1))+((j:Nat):Int)) % 1024) / 32)).toNat 0)) (b:=(1*(2:Int) ^ ((((if (d.Top+1) < ((e - 1024)+1) then ((e - 1024)+1) else (d.Top+1))+((j:Nat):Int)) % 32)).toNat)) (by omega)
   have ay:=(mz G P)
   refine ix wN ((((if (d.Top+1) < ((e - 1024)+1) then ((e - 1024)+1) else (d.Top+1))+((j:Nat):Int)) % 1024) / 32) nf (Rd.of_own ay) ?_
   refine pR (pC d.Bits (if (d.Top+1) < ((e - 1024)+1) then ((e - 1024)+1) else (d.Top+1)) j) ((((((if (d.Top+1) < ((e - 1024)+1) then ((e - 1024)+1) else (d.Top+1))+((j:Nat):Int)) % 1024) / 32)).toNat) ((sZ ((pC d.Bits (if (d.Top+1) < ((e - 1024)+1) then ((e - 1024)+1) else (d.Top+1)) j).getD (((((if (d.Top+1) < ((e - 1024)+1) then ((e - 1024)+1) else (d.Top+1))+((j:Nat):Int)) % 1024) / 32)).toNat 0) (1*(2:Int) ^ ((((if (d.Top+1) < ((e - 1024)+1) then ((e - 1024)+1) else (d.Top+1))+((j:Nat):Int)) % 32)).toNat))) wN rfl rfl rfl (by simp) rfl nV ay (by first|omega|(simp only [List.length_append,List.length_replicate,List.length_take,List.length_set,List.length_map];omega)) ?_
   intro aI W aZ
   have ba:=(ap.extk P).ext W (fun k hk=>nT (z2 s p) (nb m k hk).1)
   refine mW<|mQ<|mP<|mV ?_
   refine mw (vi ((if (d.Top+1) < ((e - 1024)+1) then ((e - 1024)+1) else (d.Top+1))+((j:Nat):Int))) ?_
   refine ar (((if (d.Top+1) < ((e - 1024)+1) then ((e - 1024)+1) else (d.Top+1))+((j:Nat):Int))+1) wN ?_
   refine aw (vi (((if (d.Top+1) < ((e - 1024)+1) then ((e - 1024)+1) else (d.Top+1))+((j:Nat):Int))+1)) ?_
   refine mW ?_
   have bb:(((pC d.Bits (if (d.Top+1) < ((e - 1024)+1) then ((e - 1024)+1) else (d.Top+1)) j).set ((((((if (d.Top+1) < ((e - 1024)+1) then ((e - 1024)+1) else (d.Top+1))+((j:Nat):Int)) % 1024) / 32)).toNat) (sZ ((pC d.Bits (if (d.Top+1) < ((e - 1024)+1) then ((e - 1024)+1) else (d.Top+1)) j).getD (((((if (d.Top+1) < ((e - 1024)+1) then ((e - 1024)+1) else (d.Top+1))+((j:Nat):Int)) % 1024) / 32)).toNat 0) (1*(2:Int) ^ ((((if (d.Top+1) < ((e - 1024)+1) then ((e - 1024)+1) else (d.Top+1))+((j:Nat):Int)) % 32)).toNat))):List Int)=pC d.Bits (if (d.Top+1) < ((e - 1024)+1) then ((e - 1024)+1) else (d.Top+1)) (j+1):=by first|rfl|exact Dj _ _
   have bc:=((N.kp P).ch W (fun h=>by have:=(nb m _ h).2;have:=nT (Nat.le_refl ae.heap.size) q;omega))
   refine nX (w0:=M) [(1,(vi e)),(2,(vp I 0)),(4,(vp R 0)),(5,vF),(6,(vp t 0)),(7,(vi ((if (d.Top+1) < ((e - 1024)+1) then ((e - 1024)+1) else (d.Top+1))+(((j+1):Nat):Int))))] ?_ ?_ ?_
   · exact ⟨rfl,rfl,rfl,rfl,rfl,(cA (Value.int .i64) (show ((((if (d.Top+1) < ((e - 1024)+1) then ((e - 1024)+1) else (d.Top+1))+((j:Nat):Int))+1):Int)=((if (d.Top+1) < ((e - 1024)+1) then ((e - 1024)+1) else (d.Top+1))+(((j+1):Nat):Int)) by omega)),trivial⟩
   · exact fun u=>⟨(j+1),u,rfl,ba,((((Ch.refl (fun k=>B.heap.size≤k) S).ext T (fun k hk=>hk)).extk P).ext W (fun k hk=>nT (Nat.le_refl B.heap.size) (nb m k hk).1)),(by omega),(by omega),(by rw [← bb];exact aZ),bc⟩
   · show (e - ((if (d.Top+1) < ((e - 1024)+1) then ((e - 1024)+1) else (d.Top+1))+(((j+1):Nat):Int))).toNat < (e - ((if (d.Top+1) < ((e - 1024)+1) then ((e - 1024)+1) else (d.Top+1))+((j:Nat):Int))).toNat;omega

theorem Bv (a:World)  :Fn Tryz.prog 130 #[] a (fun v b=>Keep a b∧AP b a.heap.size v (k0)):=by
 refine nu (n:=2) [] Tryz.func130 rfl rfl ?_
 refine sr<|aw (vs none 0 0) ?_
 refine nx<|ltI ([1779033703,3144134277,1013904242,2773480762,1359893119,2600822924,528734635,1541459225]:List Int) wN nf ?_
 intro d e j f g
 have h:=(Ch.base a).extk f
 refine aw (vs d ([1779033703,3144134277,1013904242,2773480762,1359893119,2600822924,528734635,1541459225]:List Int).length e) ?_
 refine n3<|rt (vs d ([1779033703,3144134277,1013904242,2773480762,1359893119,2600822924,528734635,1541459225]:List Int).length e) ?_
 refine ⟨h.keep0,?_⟩
 have i:k0=([1779033703,3144134277,1013904242,2773480762,1359893119,2600822924,528734635,1541459225]:List Int):=by rfl
 rw [i]
 exact ⟨_,_,rfl,g,(by simp),⟨trivial,trivial⟩⟩

theorem wA:∀ w,(zeroValue 103).run Tryz.prog w=.ok (va [(vs none 0 0),(vs none 0 0),(vi 0)]) w:=fun w=>by kernel_rfl
theorem qa:∀ w,(sizeOf 103).run Tryz.prog w=.ok 3 w:=fun w=>by kernel_rfl
theorem rH:∀ w,(isAgg 103).run Tryz.prog w=.ok true w:=fun w=>by kernel_rfl
def CG (w:World) (lo:Nat) (v:Value) (x:(PHash)):Prop:=∃ (a:Option Addr) (b:Nat) (d:Option Addr) (e:Nat),v=.agg #[.slice a x.H.length b,.slice d x.Held.length e,.int .i64 x.N]∧w.ownsRow lo 3 1 (.slice a x.H.length b) x.H.length (x.H.map iV)∧x.H.length≤1073741824∧w.ownsRow lo 5 1 (.slice d x.Held.length e) x.Held.length (x.Held.map bV)∧x.Held.length≤1073741824∧Aps [(a,b),(d,e)]
def pA :(PHash):={H:=(k0),Held:=[],N:=0:PHash}
theorem yW (a:World)  :Fn Tryz.prog 92 #[] a (fun v e=>Keep a e∧CG e a.heap.size v (pA)):=by
 refine nu (n:=3) [] Tryz.func92 rfl rfl ?_
 refine sr<|al [(vs none 0 0),(vs none 0 0),(vi 0)] wN wA ?_
 intro w j l m f o
 refine nx<|cl wN (Bv j ) ?_
 rintro _ x ⟨g,⟨b,d,rfl,h,p,y⟩⟩
 refine pu (va [(vs b (k0).length d),(vs none 0 0),(vi 0)]) wN ?_
 have q:=(o.kp g)
 refine sv [(vs b (k0).length d),(vs none 0 0),(vi 0)] wN qa q ?_
 intro A i r B
 have s:=(((Ch.base a).extk f).extk g).ext i (fun k hk=>by subst hk;exact l)
 refine n3 ?_
 have t:=(gc h i (ne1 h (m)))
 refine rc [(vs b (k0).length d),(vs none 0 0),(vi 0)] r rH qa ?_
 refine ⟨s.keep0,?_⟩
 have u:pA={H:=(k0),Held:=[],N:=0:PHash}:=by rfl
 rw [u]
 exact ⟨_,_,_,_,rfl,(mO t f.size),p,(nM _ _ _ _),(by simp),⟨⟨(Ap.nr _),trivial⟩,⟨trivial,trivial⟩⟩⟩

abbrev tg (x:PHash) (a:Option Addr) (b:Nat) (d:Option Addr) (e:Nat):List Value:=[vs a x.H.length b,vs d x.Held.length e,vi x.N]
def Ao (w:World) (v:Value) (x:(PHash)):Prop:=∃ (a:Option Addr) (b:Nat) (d:Option Addr) (e:Nat),v=.agg #[.slice a x.H.length b,.slice d x.Held.length e,.int .i64 x.N]∧Rd w 1 (.slice a x.H.length b) x.H.length (x.H.map iV)∧x.H.length≤1073741824∧Rd w 1 (.slice d x.Held.length e) x.Held.length (x.Held.map bV)∧x.Held.length≤1073741824
def pg (a:PHash):(Bool):=bif (rk a.H 8) then (bif (i_within a.N 0 1048576) then (decide ((a.N % 64)=(a.Held.length:Int))) else (false)) else (false)
theorem xe (e:World) (l:Value) (a:PHash) (w:Ao e l a) :Fn Tryz.prog 126 #[l] e (fun v m=>Keep e m∧O_4 m e.heap.size v (pg a)):=by
 obtain ⟨g,h,i,j,rfl,x,y,A,E⟩:=w
 refine nu (n:=20) [(va (tg a g h i j))] Tryz.func126 rfl rfl ?_
 refine sr<|bx (tg a g h i j) wN ?_
 intro f B F G C o
 have p:=(Ch.base e).extk C
 refine aw vF ?_
 refine nx<|pu (vp f 0) wN ?_
 refine ld (vs g a.H.length h) wN oA o ?_
 refine cl wN (sY B _ a.H (rX (x.from0 p) y) 8) ?_
 rintro _ D ⟨q,rfl⟩
 have r:=p.extk q
 refine mw (vb (rk a.H 8)) ?_
 rcases bf (rk a.H 8) with d|d
 ·iterate 3 refine sk d ?_
  refine pf vF wN d ?_
  refine mw vF ?_
  iterate 7 refine sk F1 ?_
  refine pf vF wN F1 ?_
  refine aw vF ?_
  refine n3<|rt vF ?_
  refine ⟨r.keep0,?_⟩
  simp only [pg,d,cond_true,cond_false]
  exact rfl
 have I:=qE d
 refine pu (vp f 2) (wS d) ?_
 have s:=(o.kp q)
 refine ld (vi a.N) (wS d) mT s ?_
 refine cl (wS d) (oW D a.N 0 1048576) ?_
 rintro _ J ⟨t,rfl⟩
 have k:=r.extk t
 refine pk (vb (i_within a.N 0 1048576)) wN d ?_
 refine mw (vb (i_within a.N 0 1048576)) ?_
 rcases bf (i_within a.N 0 1048576) with b|b
 ·have K:=oe b
  iterate 7 refine sk b ?_
  refine pf vF wN b ?_
  refine aw vF ?_
  refine n3<|rt vF ?_
  refine ⟨k.keep0,?_⟩
  simp only [pg,d,b,cond_true,cond_false]
  exact rfl
 have L:=nD b
 refine pu (vp f 2) (wS b) ?_
 have u:=(s.kp t)
 refine ld (vi a.N) (wS b) mT u ?_
 refine qp a.N 64 (wS b) rfl rfl (by kernel_rfl) (by first|omega|assumption) ?_
 refine pu (vp f 1) (wS b) ?_
 refine ld (vs i a.Held.length j) (wS b) nd u ?_
 refine ln (wS b) mR (A.from0 k) ?_
 refine pu (vb (decide ((a.N % 64)=(a.Held.length:Int)))) (wS b) ?_
 refine pk (vb (decide ((a.N % 64)=(a.Held.length:Int)))) wN b ?_
 refine aw (vb (decide ((a.N % 64)=(a.Held.length:Int)))) ?_
 refine n3<|rt (vb (decide ((a.N % 64)=(a.Held.length:Int)))) ?_
 refine ⟨k.keep0,?_⟩
 simp only [pg,d,b,cond_true,cond_false]
 exact rfl
theorem tq {h:PHash} (hh:pg h=true):rk h.H 8=true∧0≤h.N∧h.N≤1048576∧h.N % 64=(h.Held.length:Int):=by
  cases h1:rk h.H 8 with
  | false=>simp [pg,h1] at hh
  | true =>
    cases h2:i_within h.N 0 1048576 with
    | false=>simp [pg,h1,h2] at hh
    | true =>
      have a:=nD h2
      simp [pg,h1,h2] at hh
      exact ⟨rfl,a.1,a.2,by omega⟩

theorem Da (h:World) (p:Value) (d:List UInt8) (u:pI h p d) (a:Int) (b:Int) :Fn Tryz.prog 173 #[p,(vi a),(vi b)] h (fun v q=>Keep h q∧xp q h.heap.size v (pU d a b)):=by
 obtain ⟨i,j,rfl,l,x⟩:=u
 refine nu (n:=36) [(vs i d.length j),(vi a),(vi b)] Tryz.func173 rfl rfl ?_
 refine sr<|aw (vs none 0 0) ?_
 refine aw vF ?_
 refine n4<|jT1 [(0,(vs i d.length j)),(1,(vi a)),(2,(vi b)),(6,(vs none 0 0)),(7,vF)] (pU d a b=([],false)) ?_ fun m=>?_
 ·intro y A B O
  have C:=(Ch.base h).extk B
  refine sr<|aw (vs none 0 0) ?_
  refine aw vF ?_
  refine n1<|rE (.inl rfl) (vs none 0 0) vF rfl rfl rfl ?_
  refine ⟨C.keep0,?_⟩
  rw [y]
  exact ⟨_,_,rfl,(nM _ _ _ _),(by simp),⟨trivial,trivial⟩⟩
 refine mw (vi a) ?_
 refine pu (vb (decide (a < 0))) wN ?_
 refine mw (vb (decide (a < 0))) ?_
 rcases bt (decide (a < 0)) with g|g
 ·have P:=dT g
  iterate 2 refine sk g ?_
  refine pk vT wN g ?_
  refine mw vT ?_
  iterate 4 refine sk T1 ?_
  refine pk vT wN T1 ?_
  refine mw vT ?_
  iterate 6 refine sk T1 ?_
  refine pk vT wN T1 ?_
  refine n2<|ct T1 ?_
  have D:pU d a b=([],false):=by first|exact ur (by omega)|exact tL (by omega) (by omega) (by omega) (by first|rfl|(congr 2;omega)|(congr 1;omega))
  exact wj (m D _ (Ch.refl _ _))
 have Q:=dF g
 refine mv (vi b) (wS g) ?_
 refine pu (vb (decide (b < 0))) (wS g) ?_
 refine pf (vb (decide (b < 0))) wN g ?_
 refine mw (vb (decide (b < 0))) ?_
 rcases bt (decide (b < 0)) with f|f
 ·have R:=dT f
  iterate 4 refine sk f ?_
  refine pk vT wN f ?_
  refine mw vT ?_
  iterate 6 refine sk T1 ?_
  refine pk vT wN T1 ?_
  refine n2<|ct T1 ?_
  have E:pU d a b=([],false):=by first|exact ur (by omega)|exact tL (by omega) (by omega) (by omega) (by first|rfl|(congr 2;omega)|(congr 1;omega))
  exact wj (m E _ (Ch.refl _ _))
 have S:=dF f
 refine mv (vi a) (wS f) ?_
 refine mv (vs i d.length j) (wS f) ?_
 refine ln (wS f) mR l ?_
 refine pu (vb (decide ((d.length:Int) < a))) (wS f) ?_
 refine pf (vb (decide ((d.length:Int) < a))) wN f ?_
 refine mw (vb (decide ((d.length:Int) < a))) ?_
 rcases bt (decide ((d.length:Int) < a)) with e|e
 ·have T:=dT e
  iterate 6 refine sk e ?_
  refine pk vT wN e ?_
  refine n2<|ct T1 ?_
  have F:pU d a b=([],false):=by first|exact ur (by omega)|exact tL (by omega) (by omega) (by omega) (by first|rfl|(congr 2;omega)|(congr 1;omega))
  exact wj (m F _ (Ch.refl _ _))
 have V:=dF e
 refine mv (vi b) (wS e) ?_
 refine mv (vs i d.length j) (wS e) ?_
 refine ln (wS e) mR l ?_
 refine mv (vi a) (wS e) ?_
 refine ar ((d.length:Int) - a) (wS e) ?_
 refine pu (vb (decide (((d.length:Int) - a) < b))) (wS e) ?_
 refine pf (vb (decide (((d.length:Int) - a) < b))) wN e ?_
 refine n2 ?_
 rcases bt (decide (((d.length:Int) - a) < b)) with k|k
 ·have W:=dT k
  refine ct k ?_
  have G:pU d a b=([],false):=by first|exact ur (by omega)|exact tL (by omega) (by omega) (by omega) (by first|rfl|(congr 2;omega)|(congr 1;omega))
  exact wj (m G _ (Ch.refl _ _))
 have X:=dF k
 refine cf k<|y1<|nF wN rfl rfl mR (fun w=>by kernel_rfl) ?_
 intro Y A r H
 have o:=(Ch.base h).extk r
 refine mw (vs i d.length j) ?_
 refine mw (vi a) ?_
 refine mw (vi a) ?_
 refine mw (vi b) ?_
 refine ar (a+b) wN ?_
 refine slv ((d.drop ((a).toNat)).take ((((a+b)).toNat) - ((a).toNat))) ((a).toNat) (((a+b)).toNat) wN mR (l.from0 o) (by first|omega|(simp <;> omega)) (by first|omega|(simp <;> omega)) (by first|rfl|(simp;done)|(rw [List.take_of_length_le (by first|(simp;done)|(simp;omega))])) rfl rfl rfl rfl (.inr ⟨_,_,_,rfl,rfl,by omega⟩) (.inr ⟨_,_,_,rfl,rfl,by omega⟩) ?_
 have I:((a).toNat)≤(((a+b)).toNat):=(by first|omega|(simp <;> omega))
 have J:(((a+b)).toNat)≤d.length:=(by first|omega|(simp <;> omega))
 refine ap0 ((d.drop ((a).toNat)).take ((((a+b)).toNat) - ((a).toNat))) wN mR H (Rd.subV (x':=((d.drop ((a).toNat)).take ((((a+b)).toNat) - ((a).toNat)))) (l.from0 o) I J (by first|rfl|(simp;done)|(rw [List.take_of_length_le (by first|(simp;done)|(simp;omega))]))) r.size ?_
 intro s t Z K L aa
 have M:=o.extk K
 refine aw (vs s ((d.drop ((a).toNat)).take ((((a+b)).toNat) - ((a).toNat))).length t) ?_
 refine aw vT ?_
 refine n3<|rE (.inl rfl) (vs s ((d.drop ((a).toNat)).take ((((a+b)).toNat) - ((a).toNat))).length t) vT rfl rfl rfl ?_
 refine ⟨M.keep0,?_⟩
 have N:pU d a b=(((d.drop ((a).toNat)).take ((((a+b)).toNat) - ((a).toNat))),true):=by first|exact ur (by omega)|exact tL (by omega) (by omega) (by omega) (by first|rfl|(congr 2;omega)|(congr 1;omega))
 rw [N]
 exact ⟨_,_,rfl,L,(nT (by simp only [List.length_take,List.length_drop];omega) x),⟨trivial,trivial⟩⟩

theorem Cv (f:World) (w:Value) (d:List UInt8) (F:pI f w d) (b:Int) (a:Int) :Fn Tryz.prog 168 #[w,(vi b),(vi a)] f (fun v m=>Keep f m∧zl m f.heap.size v (pi d b a)):=by
 obtain ⟨r,s,rfl,G,H⟩:=F
 refine nu (n:=45) [(vs r d.length s),(vi b),(vi a)] Tryz.func168 rfl rfl ?_
 refine sr<|aw (vi 0) ?_
 refine aw (vi 0) ?_
 refine aw vF ?_
 refine n4<|jT1 [(0,(vs r d.length s)),(1,(vi b)),(2,(vi a)),(6,(vi 0)),(7,(vi 0)),(8,vF)] (pi d b a=(0,0,false)) ?_ fun y=>?_
 ·intro I e J R
  have K:=(Ch.base f).extk J
  refine sr<|aw (vi 0) ?_
  refine aw (vi 0) ?_
  refine aw vF ?_
  refine n1<|vw (.inl rfl) (vi 0) (vi 0) vF rfl rfl rfl rfl ?_
  refine ⟨K.keep0,?_⟩
  rw [I]
  exact rfl
 refine mw (vi a) ?_
 refine pu (vb (decide (a < 1))) wN ?_
 refine mw (vb (decide (a < 1))) ?_
 rcases bt (decide (a < 1)) with h|h
 ·have S:=dT h
  iterate 2 refine sk h ?_
  refine pk vT wN h ?_
  refine n2<|ct T1 ?_
  have L:pi d b a=(0,0,false):=by first|exact rj (by omega)|exact uJ (by assumption)|exact uI (by omega) (by omega) (by assumption) (by omega)
  exact wj (y L _ (Ch.refl _ _))
 have T:=dF h
 refine mv (vi a) (wS h) ?_
 refine pu (vb (decide (6 < a))) (wS h) ?_
 refine pf (vb (decide (6 < a))) wN h ?_
 refine n2 ?_
 rcases bt (decide (6 < a)) with o|o
 ·have V:=dT o
  refine ct o ?_
  have M:pi d b a=(0,0,false):=by first|exact rj (by omega)|exact uJ (by assumption)|exact uI (by omega) (by omega) (by assumption) (by omega)
  exact wj (y M _ (Ch.refl _ _))
 have W:=dF o
 refine cf o<|y1<|mw (vs r d.length s) ?_
 refine mw (vi b) ?_
 refine mw (vi a) ?_
 refine cl wN (Da f _ d (nH G H) b a) ?_
 rintro _ e ⟨N,⟨j,l,rfl,t,_⟩⟩
 have A:=(Ch.base f).extk N
 have X:=zS d b a
 refine mw (.tuple #[(vs j ((pU d b a).1).length l),(vb ((pU d b a).2))]) ?_
 refine pu (vs j ((pU d b a).1).length l) wN ?_
 refine pu (vb ((pU d b a).2)) wN ?_
 refine aw (vs j ((pU d b a).1).length l) ?_
 refine aw (vb ((pU d b a).2)) ?_
 refine n4<|mw (vb ((pU d b a).2)) ?_
 refine pu (vb (!((pU d b a).2))) wN ?_
 refine n2 ?_
 rcases bf ((pU d b a).2) with q|q
 ·refine ct (cA not q)<|sr<|aw (vi 0) ?_
  refine aw (vi 0) ?_
  refine aw vF ?_
  refine n1<|vw (.inl rfl) (vi 0) (vi 0) vF rfl rfl rfl rfl ?_
  refine ⟨A.keep0,?_⟩
  have O:pi d b a=(0,0,false):=by first|exact rj (by omega)|exact uJ (by assumption)|exact uI (by omega) (by omega) (by assumption) (by omega)
  rw [O]
  exact rfl
 have Y:=AI q
 refine cf (cA not q)<|y1<|aw (vi 0) ?_
 refine n4<|mw (vs j ((pU d b a).1).length l) ?_
 refine ln wN mR (Rd.of_own t) ?_
 refine mw (vi 0) ?_
 refine mW<|mP<|ng<|oa [(1,(vi b)),(2,(vi a)),(6,(vi 0)),(7,(vi 0)),(8,vF),(11,(vi (ra ((pU d b a).1.take 0) 0))),(29,(vs j ((pU d b a).1).length l)),(30,(vi (((pU d b a).1).length:Int))),(31,(vi ((0:Nat):Int)))] ⟨rfl,rfl,rfl,rfl,rfl,(cA (Value.int .i64) (show (0:Int)=(ra ((pU d b a).1.take 0) 0) by rfl)),rfl,rfl,(cA (Value.int .i64) (show (0:Int)=((0:Nat):Int) by omega)),trivial⟩ (fun e' m=>∃ (i:Nat) (B:Env),e'=pt B [(1,(vi b)),(2,(vi a)),(6,(vi 0)),(7,(vi 0)),(8,vF),(11,(vi (ra ((pU d b a).1.take i) 0))),(29,(vs j ((pU d b a).1).length l)),(30,(vi (((pU d b a).1).length:Int))),(31,(vi ((i:Nat):Int)))]∧Ch (fun k=>f.heap.size≤k) f m∧Ch (fun k=>e.heap.size≤k) e m∧i≤(pU d b a).1.length) (fun e' _=>(pU d b a).1.length - ((intOf (e' 31))).toNat) ?_ ?_
 ·exact fun u=>⟨0,u,rfl,A,(Ch.refl (fun k=>e.heap.size≤k) e),(by omega)⟩
 ·rintro _ P ⟨i,B,rfl,C,D,Z⟩
  have hgb:=yA ((pU d b a).1) i (by omega)
  have aa:((pU d b a).1.getD i 0).toNat < 256:=UInt8.toNat_lt _
  refine sr<|pu (vb (decide (((i:Nat):Int) < (((pU d b a).1).length:Int)))) wN ?_
  refine mW<|mP<|nh ?_
  rcases bf (decide (((i:Nat):Int) < (((pU d b a).1).length:Int))) with p|p
  ·have ab:=dF p
   refine cf p<|oh<|mU<|mU<|nq<|mP<|sr<|mw (vi (ra ((pU d b a).1.take i) 0)) ?_
   refine mw (vi b) ?_
   refine mw (vi a) ?_
   refine ar (b+a) wN ?_
   refine aw (vi (ra ((pU d b a).1.take i) 0)) ?_
   refine aw (vi (b+a)) ?_
   refine aw vT ?_
   refine n3<|vw (.inl rfl) (vi (ra ((pU d b a).1.take i) 0)) (vi (b+a)) vT rfl rfl rfl rfl ?_
   refine ⟨C.keep0,?_⟩
   have Q:pi d b a=((ra ((pU d b a).1.take i) 0),(b+a),true):=by first|exact rj (by omega)|exact uJ (by assumption)|exact uI (by omega) (by omega) (by assumption) (by omega)
   rw [Q]
   exact rfl
  have ac:=dT p
  refine ct p<|nm<|mP<|nh<|ng<|sr ?_
  have E:=(gc t D (fun g hg hlt hk=>by have ad:=(nb t g hg).2;have ae:e.heap.size≤e.heap.size:=(Nat.le_refl e.heap.size);have af:e.heap.size≤g:=hk;omega))
  refine ix wN ((i:Nat):Int) mR (Rd.of_own E) ?_
  refine eb (x:=(pU d b a).1) i wN pP (Rd.of_own E) ?_
  refine aw (v8 ((((pU d b a).1).getD i 0).toNat:Int)) ?_
  refine mW<|mP<|mV ?_
  refine mw (vi (ra ((pU d b a).1.take i) 0)) ?_
  refine ar (256*(ra ((pU d b a).1.take i) 0)) wN ?_
  refine mw (v8 ((((pU d b a).1).getD i 0).toNat:Int)) ?_
  refine ar ((((pU d b a).1).getD i 0).toNat:Int) wN ?_
  refine ar ((256*(ra ((pU d b a).1.take i) 0))+((((pU d b a).1).getD i 0).toNat:Int)) wN ?_
  refine aw (vi ((256*(ra ((pU d b a).1.take i) 0))+((((pU d b a).1).getD i 0).toNat:Int))) ?_
  refine mW<|mQ<|mP<|mV ?_
  refine ar (((i:Nat):Int)+1) wN ?_
  refine mw (vi (((i:Nat):Int)+1)) ?_
  refine mW<|nX (w0:=P) [(1,(vi b)),(2,(vi a)),(6,(vi 0)),(7,(vi 0)),(8,vF),(11,(vi (ra ((pU d b a).1.take (i+1)) 0))),(29,(vs j ((pU d b a).1).length l)),(30,(vi (((pU d b a).1).length:Int))),(31,(vi (((i+1):Nat):Int)))] ?_ ?_ ?_
  · exact ⟨rfl,rfl,rfl,rfl,rfl,(cA (Value.int .i64) (show (((256*(ra ((pU d b a).1.take i) 0))+((((pU d b a).1).getD i 0).toNat:Int)):Int)=(ra ((pU d b a).1.take (i+1)) 0) by exact vH (by omega))),rfl,rfl,(cA (Value.int .i64) (show ((((i:Nat):Int)+1):Int)=(((i+1):Nat):Int) by omega)),trivial⟩
  · exact fun u=>⟨(i+1),u,rfl,C,((Ch.refl (fun k=>e.heap.size≤k) e).ext D (fun k hk=>hk)),(by omega)⟩
  · show (pU d b a).1.length - ((((i+1):Nat):Int)).toNat < (pU d b a).1.length - (((i:Nat):Int)).toNat;omega

theorem ub (i:World) (e:Int) (d:Int) (x:1≤d) (y:d≤31):Fn Tryz.prog 161 #[(vi e),(vi d)] i (fun v l=>Keep i l∧O_3 l i.heap.size v (rot e d)):=by
 refine nu (n:=23) [(vi e),(vi d)] Tryz.func161 rfl rfl ?_
 refine sr<|aw (vi 0) ?_
 refine nx<|mw (vi e) ?_
 refine qc e 4294967295 4294967296 32 wN rfl rfl (by decide) (by decide) (by decide) (by kernel_rfl) ?_
 refine aw (vi (e % 4294967296)) ?_
 refine n4<|jT1 [(0,(vi (e % 4294967296))),(1,(vi d)),(4,(vi 0))] (rot e d=(e % 4294967296)) ?_ fun m=>?_
 ·intro o f p A
  have q:=(Ch.base i).extk p
  refine sr<|mw (vi (e % 4294967296)) ?_
  refine aw (vi (e % 4294967296)) ?_
  refine n1<|rt (vi (e % 4294967296)) ?_
  refine ⟨q.keep0,?_⟩
  rw [o]
  exact rfl
 refine mw (vi d) ?_
 refine pu (vb (decide (d < 0))) wN ?_
 refine mw (vb (decide (d < 0))) ?_
 rcases bt (decide (d < 0)) with g|g
 ·have B:=dT g
  iterate 2 refine sk g ?_
  refine pk vT wN g ?_
  refine n2<|ct T1 ?_
  have r:rot e d=(e % 4294967296):=by first|rfl|(exfalso;omega)
  exact wj (m r _ (Ch.refl _ _))
 have C:=dF g
 refine mv (vi d) (wS g) ?_
 refine pu (vb (decide (31 < d))) (wS g) ?_
 refine pf (vb (decide (31 < d))) wN g ?_
 refine n2 ?_
 rcases bt (decide (31 < d)) with j|j
 ·have D:=dT j
  refine ct j ?_
  have s:rot e d=(e % 4294967296):=by first|rfl|(exfalso;omega)
  exact wj (m s _ (Ch.refl _ _))
 have E:=dF j
 refine cf j<|nm<|mP<|nh<|ob ([(14,[],[],(fun _ v _=>v=(vi (e % 4294967296)))),(15,[],[],(fun _ v _=>v=(vi d))),(16,[],[0,1],(fun _ v _=>v=(vi ((e % 4294967296) / (2:Int) ^ (d).toNat)))),(17,[],[],(fun _ v _=>v=(vi (e % 4294967296)))),(18,[],[],(fun _ v _=>v=(vi d))),(19,[],[4],(fun _ v _=>v=(vi (32 - d)))),(20,[],[3,4,5],(fun _ v _=>v=(vi ((e % 4294967296)*(2:Int) ^ ((32 - d)).toNat))))]:GV) (fun _ l=>Keep i l) [] oM rfl (by kernel_rfl) (by kernel_rfl) ?_ (fun _ _ h=>h) (fun _ _ _ _ h _ k=>h.trans k) trivial ?_ ?_ ?_
 ·exact ⟨hV,hE,⟨hV,hE,⟨hV,hE,⟨hV,hE,⟨hV,hE,⟨hV,hE,⟨hV,hE,trivial⟩⟩⟩⟩⟩⟩⟩
 ·exact trivial
 ·refine ⟨?_,⟨?_,⟨?_,⟨?_,⟨?_,⟨?_,⟨?_,trivial⟩⟩⟩⟩⟩⟩⟩
  ·intro _ f F _
   rintro _ _ _ _ _ _ _
   refine sw<|mw (vi (e % 4294967296)) ?_
   exact f1
  ·intro _ f G _
   rintro _ _ _ _ _ _ _
   refine sw<|mw (vi d) ?_
   exact f1
  ·intro _ f H _
   rintro _ rfl _ rfl _ _ _ _ _
   refine sw<|uf (e % 4294967296) d wN rfl rfl rfl rfl rfl (by omega) (by omega) ?_
   have I:=vq (a:=(e % 4294967296)) (by omega) (d).toNat
   exact f1
  ·intro _ f J _
   rintro _ _ _ _ _ _ _
   refine sw<|mw (vi (e % 4294967296)) ?_
   exact f1
  ·intro _ f K _
   rintro _ _ _ _ _ _ _
   refine sw<|mw (vi d) ?_
   exact f1
  ·intro _ f L _
   rintro _ _ _ _ _ rfl _ _
   refine sw<|ar (32 - d) wN ?_
   exact f1
  ·intro _ f M _
   rintro _ _ _ _ rfl _ rfl _ rfl _
   refine sw<|tz (e % 4294967296) (32 - d) wN rfl rfl rfl rfl rfl (by omega) (by omega) (by omega) (by omega) ?_
   have N:=yh (a:=(e % 4294967296)) (n:=((32 - d)).toNat) (by omega) (by omega) (by omega)
   exact f1
 ·intro _ f t
  have u:=(Ch.base i).extk t
  rintro _ rfl _ rfl _ rfl
  have O:=vq (a:=(e % 4294967296)) (by omega) (d).toNat
  rintro _ rfl _ rfl _ rfl _ rfl
  have P:=yh (a:=(e % 4294967296)) (n:=((32 - d)).toNat) (by omega) (by omega) (by omega)
  refine sw<|we ((e % 4294967296) / (2:Int) ^ (d).toNat) ((e % 4294967296)*(2:Int) ^ ((32 - d)).toNat) wN rfl rfl (by kernel_rfl) (by omega) (by omega) (by omega) (by omega) ?_
  have Q:=BX (a:=((e % 4294967296) / (2:Int) ^ (d).toNat)) (b:=((e % 4294967296)*(2:Int) ^ ((32 - d)).toNat)) (by omega) (by omega)
  refine qc (orI ((e % 4294967296) / (2:Int) ^ (d).toNat) ((e % 4294967296)*(2:Int) ^ ((32 - d)).toNat)) 4294967295 4294967296 32 wN rfl rfl (by decide) (by decide) (by decide) (by kernel_rfl) ?_
  refine aw (vi ((orI ((e % 4294967296) / (2:Int) ^ (d).toNat) ((e % 4294967296)*(2:Int) ^ ((32 - d)).toNat)) % 4294967296)) ?_
  refine n3<|rt (vi ((orI ((e % 4294967296) / (2:Int) ^ (d).toNat) ((e % 4294967296)*(2:Int) ^ ((32 - d)).toNat)) % 4294967296)) ?_
  refine ⟨u.keep0,?_⟩
  have w:rot e d=((orI ((e % 4294967296) / (2:Int) ^ (d).toNat) ((e % 4294967296)*(2:Int) ^ ((32 - d)).toNat)) % 4294967296):=by first|rfl|(exfalso;omega)
  rw [w]
  exact rfl

theorem xL (i:World) (P:Value) (f:List UInt8) (ac:pI i P f) :Fn Tryz.prog 160 #[P] i (fun v r=>Keep i r∧AP r i.heap.size v (schedP f)):=by
 obtain ⟨A,B,rfl,Q,ad⟩:=ac
 refine nu (n:=79) [(vs A f.length B)] Tryz.func160 rfl rfl ?_
 refine sr<|aw (vs none 0 0) ?_
 refine n4<|mw (vs A f.length B) ?_
 refine ln wN mR Q ?_
 refine pu (vb (!(decide ((f.length:Int)=64)))) wN ?_
 refine n2 ?_
 rcases bf (decide ((f.length:Int)=64)) with C|C
 ·have aJ:=dF C
  refine ct (cA not C)<|sr<|aw (vs none 0 0) ?_
  refine n1<|rt (vs none 0 0) ?_
  refine ⟨Ch.refl _ _,?_⟩
  have ae:schedP f=[]:=by first|exact tk (by omega)|exact wH (by omega) (by omega) (by omega)
  rw [ae]
  exact ⟨_,_,rfl,(nM _ _ _ _),(by simp),⟨trivial,trivial⟩⟩
 have aK:=dT C
 refine cf (cA not C)<|y1<|wC (64) wN rfl rfl rfl nf 64 rfl (by omega) (by first|(simp only [List.length_append,List.length_cons,List.length_nil,List.length_replicate,List.length_take,List.length_drop];omega)|omega) (by first|(simp only [List.length_append,List.length_cons,List.length_nil,List.length_replicate,List.length_take,List.length_drop];omega)|omega) ?_
 intro g h H af D
 have ah:=(Ch.base i).extk af
 refine aw (vs g (List.replicate 64 (0:Int)).length h) ?_
 refine n4<|aw (vi 0) ?_
 refine mW<|mP<|ng ?_
 have ai:((List.replicate 64 (0:Int)):List Int)=oL f 0++List.replicate (64 - 0) (0:Int):=by rfl
 refine oa [(0,(vs A f.length B)),(2,(vs none 0 0)),(3,(vs g (List.replicate 64 (0:Int)).length h)),(4,(vi ((0:Nat):Int)))] ⟨rfl,rfl,rfl,(cA (Value.int .i64) (show (0:Int)=((0:Nat):Int) by omega)),trivial⟩ (fun e' r=>∃ (k:Nat) (R:Env),e'=pt R [(0,(vs A f.length B)),(2,(vs none 0 0)),(3,(vs g (List.replicate 64 (0:Int)).length h)),(4,(vi ((k:Nat):Int)))]∧Ch (fun k=>i.heap.size≤k) i r∧Ch (fun k=>i.heap.size≤k) H r∧k≤16∧World.ownsRow r i.heap.size 3 1 (.slice g (List.replicate 64 (0:Int)).length h) (List.replicate 64 (0:Int)).length ((oL f k++List.replicate (64 - k) (0:Int)).map iV)) (fun e' _=>(16 - (intOf (e' 4))).toNat) ?_ ?_
 ·exact fun u=>⟨0,u,rfl,ah,(Ch.refl (fun k=>i.heap.size≤k) H),(by omega),(by rw [← ai];exact D)⟩
 ·rintro _ E ⟨k,R,rfl,I,aj,aL,S⟩
  have hsl:=qW f k
  refine nh<|sr<|mw (vi ((k:Nat):Int)) ?_
  refine pu (vb (decide (((k:Nat):Int) < 16))) wN ?_
  refine n2 ?_
  rcases bt (decide (((k:Nat):Int) < 16)) with F|F
  ·have aM:=dT F
   refine ct F<|nm<|mP<|nh<|ng<|mV ?_
   refine mw (vs g (List.replicate 64 (0:Int)).length h) ?_
   refine mw (vi ((k:Nat):Int)) ?_
   refine mw (vs A f.length B) ?_
   refine mw (vi ((k:Nat):Int)) ?_
   refine ar (4*((k:Nat):Int)) wN ?_
   refine cl wN (Cv E _ f (nH (Q.from0 I) ad) (4*((k:Nat):Int)) 4) ?_
   rintro _ T ⟨J,rfl⟩
   refine mw (.tuple #[(vi ((pi f (4*((k:Nat):Int)) 4).1)),(vi ((pi f (4*((k:Nat):Int)) 4).2.1)),(vb ((pi f (4*((k:Nat):Int)) 4).2.2))]) ?_
   refine pu (vi ((pi f (4*((k:Nat):Int)) 4).1)) wN ?_
   refine pu (vi ((pi f (4*((k:Nat):Int)) 4).2.1)) wN ?_
   refine pu (vb ((pi f (4*((k:Nat):Int)) 4).2.2)) wN ?_
   have V:=(mz S J)
   refine ix wN ((k:Nat):Int) nf (Rd.of_own V) ?_
   refine pR (oL f k++List.replicate (64 - k) (0:Int)) (k) ((pi f (4*((k:Nat):Int)) 4).1) wN rfl rfl rfl (by simp) rfl nV V (by first|omega|(simp only [List.length_append,List.length_replicate,List.length_take,List.length_set,List.length_map];omega)) ?_
   intro p W ak
   have am:=(I.extk J).ext W (fun k hk=>nT (Nat.le_refl i.heap.size) (nb D k hk).1)
   refine mW<|mQ<|mP<|mV ?_
   refine mw (vi ((k:Nat):Int)) ?_
   refine ar (((k:Nat):Int)+1) wN ?_
   refine aw (vi (((k:Nat):Int)+1)) ?_
   refine mW ?_
   have an:(((oL f k++List.replicate (64 - k) (0:Int)).set k ((pi f (4*((k:Nat):Int)) 4).1)):List Int)=oL f (k+1)++List.replicate (64 - (k+1)) (0:Int):=by exact vu (by omega) (by omega)
   refine nX (w0:=E) [(0,(vs A f.length B)),(2,(vs none 0 0)),(3,(vs g (List.replicate 64 (0:Int)).length h)),(4,(vi (((k+1):Nat):Int)))] ?_ ?_ ?_
   · exact ⟨rfl,rfl,rfl,(cA (Value.int .i64) (show ((((k:Nat):Int)+1):Int)=(((k+1):Nat):Int) by omega)),trivial⟩
   · exact fun u=>⟨(k+1),u,rfl,am,((((Ch.refl (fun k=>i.heap.size≤k) H).ext aj (fun k hk=>hk)).extk J).ext W (fun k hk=>nT (Nat.le_refl i.heap.size) (nb D k hk).1)),(by omega),(by rw [← an];exact ak)⟩
   · show (16 - (((k+1):Nat):Int)).toNat < (16 - ((k:Nat):Int)).toNat;omega
  have aN:=dF F
  refine cf F<|oh<|mU ?_
  obtain rfl:k=16:=by omega
  refine mU<|nq<|mP<|nh<|sr<|aw (vi 16) ?_
  refine mW<|mP<|ng ?_
  have ao:((oL f 16++List.replicate (64 - 16) (0:Int)):List Int)=schedN f 0++List.replicate (48 - 0) (0:Int):=by rfl
  refine oa [(2,(vs none 0 0)),(3,(vs g (List.replicate 64 (0:Int)).length h)),(5,(vi (16+((0:Nat):Int))))] ⟨rfl,rfl,(cA (Value.int .i64) (show (16:Int)=(16+((0:Nat):Int)) by omega)),trivial⟩ (fun e' r=>∃ (m:Nat) (X:Env),e'=pt X [(2,(vs none 0 0)),(3,(vs g (List.replicate 64 (0:Int)).length h)),(5,(vi (16+((m:Nat):Int))))]∧Ch (fun k=>i.heap.size≤k) i r∧Ch (fun k=>i.heap.size≤k) E r∧m≤48∧World.ownsRow r i.heap.size 3 1 (.slice g (List.replicate 64 (0:Int)).length h) (List.replicate 64 (0:Int)).length ((schedN f m++List.replicate (48 - m) (0:Int)).map iV)) (fun e' _=>(64 - (intOf (e' 5))).toNat) ?_ ?_
  ·exact fun u=>⟨0,u,rfl,I,(Ch.refl (fun k=>i.heap.size≤k) E),(by omega),(by rw [← ao];exact S)⟩
  ·rintro _ T ⟨m,X,rfl,Y,ap,aO,q⟩
   have hsl:=qL f m
   obtain ⟨l,K⟩:∃ z,(schedN f m++List.replicate (48 - m) (0:Int)).getD (((16+((m:Nat):Int)) - 7)).toNat 0=z:=⟨_,rfl⟩
   have aP:0≤l∧l < 4294967296:=K ▸ rV (tl f m) (((16+((m:Nat):Int)) - 7)).toNat
   obtain ⟨o,L⟩:∃ z,(schedN f m++List.replicate (48 - m) (0:Int)).getD (((16+((m:Nat):Int)) - 16)).toNat 0=z:=⟨_,rfl⟩
   have aQ:0≤o∧o < 4294967296:=L ▸ rV (tl f m) (((16+((m:Nat):Int)) - 16)).toNat
   obtain ⟨d,M⟩:∃ z,(schedN f m++List.replicate (48 - m) (0:Int)).getD (((16+((m:Nat):Int)) - 15)).toNat 0=z:=⟨_,rfl⟩
   have aR:0≤d∧d < 4294967296:=M ▸ rV (tl f m) (((16+((m:Nat):Int)) - 15)).toNat
   obtain ⟨e,N⟩:∃ z,(schedN f m++List.replicate (48 - m) (0:Int)).getD (((16+((m:Nat):Int)) - 2)).toNat 0=z:=⟨_,rfl⟩
   have aS:0≤e∧e < 4294967296:=N ▸ rV (tl f m) (((16+((m:Nat):Int)) - 2)).toNat
   refine nh<|sr<|mw (vi (16+((m:Nat):Int))) ?_
   refine pu (vb (decide ((16+((m:Nat):Int)) < 64))) wN ?_
   refine n2 ?_
   rcases bf (decide ((16+((m:Nat):Int)) < 64)) with G|G
   ·have aT:=dF G
    refine cf G<|oh<|mU<|mU<|nq<|mP<|sr<|mw (vs g (List.replicate 64 (0:Int)).length h) ?_
    refine aw (vs g (List.replicate 64 (0:Int)).length h) ?_
    refine n3<|rt (vs g (List.replicate 64 (0:Int)).length h) ?_
    refine ⟨Y.keep0,?_⟩
    have aq:schedP f=(schedN f m++List.replicate (48 - m) (0:Int)):=by first|exact tk (by omega)|exact wH (by omega) (by omega) (by omega)
    rw [aq]
    have Z:(List.replicate 64 (0:Int)).length=((schedN f m++List.replicate (48 - m) (0:Int))).length:=by first|(simp only [List.length_append,List.length_take,List.length_replicate,List.length_set,List.length_map];done)|(simp only [List.length_append,List.length_take,List.length_replicate,List.length_set,List.length_map];omega)
    rw [Z] at q ⊢
    exact ⟨_,_,rfl,q,(by rw [← Z];rw [List.length_replicate];first|assumption|omega),⟨trivial,trivial⟩⟩
   have aU:=dT G
   refine ct G<|nm<|mP<|nh<|ng<|nh<|qB ([(33,[],[],(fun _ v _=>v=(vs g (List.replicate 64 (0:Int)).length h))),(34,[],[],(fun _ v _=>v=(vi (16+((m:Nat):Int))))),(35,[],[1],(fun _ v _=>v=(vi ((16+((m:Nat):Int)) - 15)))),(36,[],[0,1,2],(fun _ v _=>v=(ve (vs g (List.replicate 64 (0:Int)).length h) ((((16+((m:Nat):Int)) - 15)).toNat*1)))),(37,[],[0,1,2,3],(fun _ v _=>v=(vi d))),(38,[],[],(fun _ v _=>v=(vs g (List.replicate 64 (0:Int)).length h))),(39,[],[],(fun _ v _=>v=(vi (16+((m:Nat):Int))))),(40,[],[6],(fun _ v _=>v=(vi ((16+((m:Nat):Int)) - 2)))),(41,[],[5,6,7],(fun _ v _=>v=(ve (vs g (List.replicate 64 (0:Int)).length h) ((((16+((m:Nat):Int)) - 2)).toNat*1)))),(42,[],[5,6,7,8],(fun _ v _=>v=(vi e))),(6,[],[0,1,2,3,4],(fun _ v _=>v=(vi d)))]:GV) oM rfl (by kernel_rfl) (by kernel_rfl) ?_ ?_ ?_
   ·exact ⟨hV,hE,⟨hV,hE,⟨hV,hE,⟨hV,hE,⟨hV,hE,⟨hV,hE,⟨hV,hE,⟨hV,hE,⟨hV,hE,⟨hV,hE,⟨hV,hE,trivial⟩⟩⟩⟩⟩⟩⟩⟩⟩⟩⟩
   ·refine ⟨?_,⟨?_,⟨?_,⟨?_,⟨?_,⟨?_,⟨?_,⟨?_,⟨?_,⟨?_,⟨?_,trivial⟩⟩⟩⟩⟩⟩⟩⟩⟩⟩⟩
    ·intro p aV
     rintro _ _ _ _ _ _ _ _ _ _ _
     refine sw<|mw (vs g (List.replicate 64 (0:Int)).length h) ?_
     exact f2
    ·intro p aW
     rintro _ _ _ _ _ _ _ _ _ _ _
     refine sw<|mw (vi (16+((m:Nat):Int))) ?_
     exact f2
    ·intro p aX
     rintro _ _ rfl _ _ _ _ _ _ _ _ _
     refine sw<|ar ((16+((m:Nat):Int)) - 15) wN ?_
     exact f2
    ·intro p au
     rintro _ rfl _ rfl _ rfl _ _ _ _ _ _ _ _
     refine sw ?_
     have av:=(mz q au)
     refine ix wN ((16+((m:Nat):Int)) - 15) nf (Rd.of_own av) ?_
     exact f2
    ·intro p ax
     rintro _ rfl _ rfl _ rfl _ rfl _ _ _ _ _ _ _
     refine sw ?_
     have ay:=(mz q ax)
     refine pE (iV d) wN rfl rfl rfl rfl mT (Rd.of_own ay) (by rw [← M];exact xx (by simp) (by first|omega|(simp <;> omega))) ?_
     exact f2
    ·intro p aY
     rintro _ _ _ _ _ _ _ _ _ _ _
     refine sw<|mw (vs g (List.replicate 64 (0:Int)).length h) ?_
     exact f2
    ·intro p aZ
     rintro _ _ _ _ _ _ _ _ _ _ _
     refine sw<|mw (vi (16+((m:Nat):Int))) ?_
     exact f2
    ·intro p ba
     rintro _ _ _ _ _ _ _ rfl _ _ _ _
     refine sw<|ar ((16+((m:Nat):Int)) - 2) wN ?_
     exact f2
    ·intro p az
     rintro _ _ _ _ _ _ rfl _ rfl _ rfl _ _ _
     refine sw ?_
     have a0:=(mz q az)
     refine ix wN ((16+((m:Nat):Int)) - 2) nf (Rd.of_own a0) ?_
     exact f2
    ·intro p a1
     rintro _ _ _ _ _ _ rfl _ rfl _ rfl _ rfl _ _
     refine sw ?_
     have a2:=(mz q a1)
     refine pE (iV e) wN rfl rfl rfl rfl mT (Rd.of_own a2) (by rw [← N];exact xx (by simp) (by first|omega|(simp <;> omega))) ?_
     exact f2
    ·intro p bb
     rintro _ rfl _ rfl _ rfl _ rfl _ rfl _ _ _ _ _ _
     refine sw<|aw (vi d) ?_
     exact f2
   ·intro p s
    iterate 11 rintro _ rfl
    refine sw<|aw (vi e) ?_
    refine nx<|mw (vi d) ?_
    refine cl wN (ub p d 7 (by omega) (by omega)) ?_
    rintro _ a3 ⟨t,rfl⟩
    have a4:=(Y.extk s).extk t
    have bc:=oH d 7
    refine mw (vi d) ?_
    refine cl wN (ub a3 d 18 (by omega) (by omega)) ?_
    rintro _ a5 ⟨w,rfl⟩
    have bd:=oH d 18
    refine pD (rot d 7) (rot d 18) wN rfl rfl (by kernel_rfl) (by omega) (by omega) (by omega) (by omega) ?_
    have be:=ox (a:=(rot d 7)) (b:=(rot d 18)) (by omega) (by omega)
    refine mw (vi d) ?_
    refine sJ d (3:Int) wN rfl rfl rfl rfl rfl (by omega) (by omega) ?_
    have bg:=vq (a:=d) (by omega) ((3:Int)).toNat
    refine pD (nw (rot d 7) (rot d 18)) (d / (2:Int) ^ ((3:Int)).toNat) wN rfl rfl (by kernel_rfl) (by omega) (by omega) (by omega) (by omega) ?_
    have bh:=ox (a:=(nw (rot d 7) (rot d 18))) (b:=(d / (2:Int) ^ ((3:Int)).toNat)) (by omega) (by omega)
    refine aw (vi (nw (nw (rot d 7) (rot d 18)) (d / (2:Int) ^ ((3:Int)).toNat))) ?_
    refine nx<|mw (vi e) ?_
    refine cl wN (ub a5 e 17 (by omega) (by omega)) ?_
    rintro _ a6 ⟨x,rfl⟩
    have bi:=oH e 17
    refine mw (vi e) ?_
    refine cl wN (ub a6 e 19 (by omega) (by omega)) ?_
    rintro _ bj ⟨y,rfl⟩
    have a7:=((a4.extk w).extk x).extk y
    have bk:=oH e 19
    refine pD (rot e 17) (rot e 19) wN rfl rfl (by kernel_rfl) (by omega) (by omega) (by omega) (by omega) ?_
    have bl:=ox (a:=(rot e 17)) (b:=(rot e 19)) (by omega) (by omega)
    refine mw (vi e) ?_
    refine sJ e (10:Int) wN rfl rfl rfl rfl rfl (by omega) (by omega) ?_
    have bm:=vq (a:=e) (by omega) ((10:Int)).toNat
    refine pD (nw (rot e 17) (rot e 19)) (e / (2:Int) ^ ((10:Int)).toNat) wN rfl rfl (by kernel_rfl) (by omega) (by omega) (by omega) (by omega) ?_
    have bn:=ox (a:=(nw (rot e 17) (rot e 19))) (b:=(e / (2:Int) ^ ((10:Int)).toNat)) (by omega) (by omega)
    refine aw (vi (nw (nw (rot e 17) (rot e 19)) (e / (2:Int) ^ ((10:Int)).toNat))) ?_
    refine n2<|qB ([(59,[],[],(fun _ v _=>v=(vs g (List.replicate 64 (0:Int)).length h))),(60,[],[],(fun _ v _=>v=(vi (16+((m:Nat):Int))))),(61,[],[],(fun _ v _=>v=(vs g (List.replicate 64 (0:Int)).length h))),(62,[],[],(fun _ v _=>v=(vi (16+((m:Nat):Int))))),(63,[],[3],(fun _ v _=>v=(vi ((16+((m:Nat):Int)) - 7)))),(64,[],[2,3,4],(fun _ v _=>v=(ve (vs g (List.replicate 64 (0:Int)).length h) ((((16+((m:Nat):Int)) - 7)).toNat*1)))),(65,[],[2,3,4,5],(fun _ v _=>v=(vi l))),(66,[],[],(fun _ v _=>v=(vs g (List.replicate 64 (0:Int)).length h))),(67,[],[],(fun _ v _=>v=(vi (16+((m:Nat):Int))))),(68,[],[8],(fun _ v _=>v=(vi ((16+((m:Nat):Int)) - 16)))),(69,[],[7,8,9],(fun _ v _=>v=(ve (vs g (List.replicate 64 (0:Int)).length h) ((((16+((m:Nat):Int)) - 16)).toNat*1)))),(70,[],[7,8,9,10],(fun _ v _=>v=(vi o))),(71,[],[2,3,4,5,6,7,8,9,10,11],(fun _ v _=>v=(vi (l+o)))),(72,[],[],(fun _ v _=>v=(vi (nw (nw (rot d 7) (rot d 18)) (d / (2:Int) ^ ((3:Int)).toNat))))),(73,[],[2,3,4,5,6,7,8,9,10,11,12,13],(fun _ v _=>v=(vi ((l+o)+(nw (nw (rot d 7) (rot d 18)) (d / (2:Int) ^ ((3:Int)).toNat)))))),(74,[],[],(fun _ v _=>v=(vi (nw (nw (rot e 17) (rot e 19)) (e / (2:Int) ^ ((10:Int)).toNat))))),(75,[],[2,3,4,5,6,7,8,9,10,11,12,13,14,15],(fun _ v _=>v=(vi (((l+o)+(nw (nw (rot d 7) (rot d 18)) (d / (2:Int) ^ ((3:Int)).toNat)))+(nw (nw (rot e 17) (rot e 19)) (e / (2:Int) ^ ((10:Int)).toNat)))))),(76,[],[2,3,4,5,6,7,8,9,10,11,12,13,14,15,16],(fun _ v _=>v=(vi ((((l+o)+(nw (nw (rot d 7) (rot d 18)) (d / (2:Int) ^ ((3:Int)).toNat)))+(nw (nw (rot e 17) (rot e 19)) (e / (2:Int) ^ ((10:Int)).toNat))) % 4294967296))))]:GV) oM rfl (by kernel_rfl) (by kernel_rfl) ?_ ?_ ?_
    ·exact ⟨hV,hE,⟨hV,hE,⟨hV,hE,⟨hV,hE,⟨hV,hE,⟨hV,hE,⟨hV,hE,⟨hV,hE,⟨hV,hE,⟨hV,hE,⟨hV,hE,⟨hV,hE,⟨hV,hE,⟨hV,hE,⟨hV,hE,⟨hV,hE,⟨hV,hE,⟨hV,hE,trivial⟩⟩⟩⟩⟩⟩⟩⟩⟩⟩⟩⟩⟩⟩⟩⟩⟩⟩
    ·refine ⟨?_,⟨?_,⟨?_,⟨?_,⟨?_,⟨?_,⟨?_,⟨?_,⟨?_,⟨?_,⟨?_,⟨?_,⟨?_,⟨?_,⟨?_,⟨?_,⟨?_,⟨?_,trivial⟩⟩⟩⟩⟩⟩⟩⟩⟩⟩⟩⟩⟩⟩⟩⟩⟩⟩
     ·intro j bo
      iterate 18 intro _
      refine sw<|mw (vs g (List.replicate 64 (0:Int)).length h) ?_
      exact f2
     ·intro j bp
      iterate 18 intro _
      refine sw<|mw (vi (16+((m:Nat):Int))) ?_
      exact f2
     ·intro j bq
      iterate 18 intro _
      refine sw<|mw (vs g (List.replicate 64 (0:Int)).length h) ?_
      exact f2
     ·intro j br
      iterate 18 intro _
      refine sw<|mw (vi (16+((m:Nat):Int))) ?_
      exact f2
     ·intro j bu
      rintro _ _ _ _ rfl;iterate 14 intro _
      refine sw<|ar ((16+((m:Nat):Int)) - 7) wN ?_
      exact f2
     ·intro j a8
      rintro _ _ _ rfl _ rfl _ rfl;iterate 13 intro _
      refine sw ?_
      have a9:=(mz (mz (mz (mz (mz (mz q s) t) w) x) y) a8)
      refine ix wN ((16+((m:Nat):Int)) - 7) nf (Rd.of_own a9) ?_
      exact f2
     ·intro j aA
      rintro _ _ _ rfl _ rfl _ rfl _ rfl _ _ _ _ _ _ _ _ _ _ _ _
      refine sw ?_
      have aB:=(mz (mz (mz (mz (mz (mz q s) t) w) x) y) aA)
      refine pE (iV l) wN rfl rfl rfl rfl mT (Rd.of_own aB) (by rw [← K];exact xx (by simp) (by first|omega|(simp <;> omega))) ?_
      exact f2
     ·intro j bv
      iterate 18 intro _
      refine sw<|mw (vs g (List.replicate 64 (0:Int)).length h) ?_
      exact f2
     ·intro j bw
      iterate 18 intro _
      refine sw<|mw (vi (16+((m:Nat):Int))) ?_
      exact f2
     ·intro j bz
      rintro _ _ _ _ _ _ _ _ _ rfl _ _ _ _ _ _ _ _ _
      refine sw<|ar ((16+((m:Nat):Int)) - 16) wN ?_
      exact f2
     ·intro j aC
      rintro _ _ _ _ _ _ _ _ rfl _ rfl _ rfl _ _ _ _ _ _ _ _
      refine sw ?_
      have aD:=(mz (mz (mz (mz (mz (mz q s) t) w) x) y) aC)
      refine ix wN ((16+((m:Nat):Int)) - 16) nf (Rd.of_own aD) ?_
      exact f2
     ·intro j aE
      rintro _ _ _ _ _ _ _ _ rfl _ rfl _ rfl _ rfl _ _ _ _ _ _ _
      refine sw ?_
      have aF:=(mz (mz (mz (mz (mz (mz q s) t) w) x) y) aE)
      refine pE (iV o) wN rfl rfl rfl rfl mT (Rd.of_own aF) (by rw [← L];exact xx (by simp) (by first|omega|(simp <;> omega))) ?_
      exact f2
     ·intro j b0
      rintro _ _
      iterate 10 rintro _ rfl
      intro _ _ _ _ _ _
      refine sw<|ar (l+o) wN ?_
      exact f2
     ·intro j b1
      iterate 18 intro _
      refine sw<|mw (vi (nw (nw (rot d 7) (rot d 18)) (d / (2:Int) ^ ((3:Int)).toNat))) ?_
      exact f2
     ·intro j b2
      rintro _ _
      iterate 12 rintro _ rfl
      intro _ _ _ _
      refine sw<|ar ((l+o)+(nw (nw (rot d 7) (rot d 18)) (d / (2:Int) ^ ((3:Int)).toNat))) wN ?_
      exact f2
     ·intro j b3
      iterate 18 intro _
      refine sw<|mw (vi (nw (nw (rot e 17) (rot e 19)) (e / (2:Int) ^ ((10:Int)).toNat))) ?_
      exact f2
     ·intro j b4
      rintro _ _
      iterate 14 rintro _ rfl
      intro _ _
      refine sw<|ar (((l+o)+(nw (nw (rot d 7) (rot d 18)) (d / (2:Int) ^ ((3:Int)).toNat)))+(nw (nw (rot e 17) (rot e 19)) (e / (2:Int) ^ ((10:Int)).toNat))) wN ?_
      exact f2
     ·intro j b5
      rintro _ _
      iterate 15 rintro _ rfl
      intro _
      refine sw<|qc (((l+o)+(nw (nw (rot d 7) (rot d 18)) (d / (2:Int) ^ ((3:Int)).toNat)))+(nw (nw (rot e 17) (rot e 19)) (e / (2:Int) ^ ((10:Int)).toNat))) 4294967295 4294967296 32 wN rfl rfl (by decide) (by decide) (by decide) (by kernel_rfl) ?_
      exact f2
    ·intro j O
     iterate 18 rintro _ rfl
     refine sw ?_
     have aa:=(mz (mz (mz (mz (mz (mz q s) t) w) x) y) O)
     refine ix wN (16+((m:Nat):Int)) nf (Rd.of_own aa) ?_
     refine pR (schedN f m++List.replicate (48 - m) (0:Int)) (((16+((m:Nat):Int))).toNat) (((((l+o)+(nw (nw (rot d 7) (rot d 18)) (d / (2:Int) ^ ((3:Int)).toNat)))+(nw (nw (rot e 17) (rot e 19)) (e / (2:Int) ^ ((10:Int)).toNat))) % 4294967296)) wN rfl rfl rfl (by simp) rfl nV aa (by first|omega|(simp only [List.length_append,List.length_replicate,List.length_take,List.length_set,List.length_map];omega)) ?_
     intro b6 ab aG
     have aH:=(a7.extk O).ext ab (fun k hk=>nT (Nat.le_refl i.heap.size) (nb D k hk).1)
     refine mW<|mQ<|mP<|mV ?_
     refine mw (vi (16+((m:Nat):Int))) ?_
     refine ar ((16+((m:Nat):Int))+1) wN ?_
     refine aw (vi ((16+((m:Nat):Int))+1)) ?_
     refine mW ?_
     have aI:(((schedN f m++List.replicate (48 - m) (0:Int)).set (((16+((m:Nat):Int))).toNat) ((((l+o)+(nw (nw (rot d 7) (rot d 18)) (d / (2:Int) ^ ((3:Int)).toNat)))+(nw (nw (rot e 17) (rot e 19)) (e / (2:Int) ^ ((10:Int)).toNat))) % 4294967296)):List Int)=schedN f (m+1)++List.replicate (48 - (m+1)) (0:Int):=by subst K L M N;exact wg (by omega)
     refine nX (w0:=T) [(2,(vs none 0 0)),(3,(vs g (List.replicate 64 (0:Int)).length h)),(5,(vi (16+(((m+1):Nat):Int))))] ?_ ?_ ?_
     · exact ⟨rfl,rfl,(cA (Value.int .i64) (show (((16+((m:Nat):Int))+1):Int)=(16+(((m+1):Nat):Int)) by omega)),trivial⟩
     · exact fun u=>⟨(m+1),u,rfl,aH,(((((((((Ch.refl (fun k=>i.heap.size≤k) E).ext ap (fun k hk=>hk)).extk s).extk t).extk w).extk x).extk y).extk O).ext ab (fun k hk=>nT (Nat.le_refl i.heap.size) (nb D k hk).1)),(by omega),(by rw [← aI];exact aG)⟩
     · show (64 - (16+(((m+1):Nat):Int))).toNat < (64 - (16+((m:Nat):Int))).toNat;omega

theorem zy:∀ w,(zeroValue 152).run Tryz.prog w=.ok (va [(vi 0),(vi 0),(vi 0),(vi 0),(vi 0),(vi 0),(vi 0),(vi 0),(vi 0),(vi 0),(vi 0),(vi 0),(vi 0),(vi 0),(vi 0),(vi 0),(vi 0),(vi 0),(vi 0),(vi 0),(vi 0),(vi 0),(vi 0),(vi 0),(vi 0),(vi 0),(vi 0),(vi 0),(vi 0),(vi 0),(vi 0),(vi 0),(vi 0),(vi 0),(vi 0),(vi 0),(vi 0),(vi 0),(vi 0),(vi 0),(vi 0),(vi 0),(vi 0),(vi 0),(vi 0),(vi 0),(vi 0),(vi 0),(vi 0),(vi 0),(vi 0),(vi 0),(vi 0),(vi 0),(vi 0),(vi 0),(vi 0),(vi 0),(vi 0),(vi 0),(vi 0),(vi 0),(vi 0),(vi 0)]) w:=fun w=>by kernel_rfl
theorem xu:∀ w,(sizeOf 152).run Tryz.prog w=.ok 64 w:=fun w=>by kernel_rfl
theorem wx (e:World) (a:Int) :Fn Tryz.prog 162 #[(vi a)] e (fun v f=>Keep e f∧O_3 f e.heap.size v (sI a)):=by
 refine nu (n:=14) [(vi a)] Tryz.func162 rfl rfl ?_
 refine sr<|aw (vi 0) ?_
 refine n4<|jT1 [(0,(vi a)),(2,(vi 0))] (sI a=0) ?_ fun g=>?_
 ·intro h i j A
  have l:=(Ch.base e).extk j
  refine sr<|aw (vi 0) ?_
  refine n1<|rt (vi 0) ?_
  refine ⟨l.keep0,?_⟩
  rw [h]
  exact rfl
 refine mw (vi a) ?_
 refine pu (vb (decide (a < 0))) wN ?_
 refine mw (vb (decide (a < 0))) ?_
 rcases bt (decide (a < 0)) with b|b
 ·have B:=dT b
  iterate 2 refine sk b ?_
  refine pk vT wN b ?_
  refine n2<|ct T1 ?_
  have m:sI a=0:=by simp only [sI,b,cond_true,cond_false];try rfl
  exact wj (g m _ (Ch.refl _ _))
 have C:=dF b
 refine mv (vi a) (wS b) ?_
 refine pu (vb (decide (63 < a))) (wS b) ?_
 refine pf (vb (decide (63 < a))) wN b ?_
 refine n2 ?_
 rcases bt (decide (63 < a)) with d|d
 ·have D:=dT d
  refine ct d ?_
  have o:sI a=0:=by simp only [sI,b,d,cond_true,cond_false];try rfl
  exact wj (g o _ (Ch.refl _ _))
 have E:=dF d
 refine cf d<|y1<|pu (va [(vi 1116352408),(vi 1899447441),(vi 3049323471),(vi 3921009573),(vi 961987163),(vi 1508970993),(vi 2453635748),(vi 2870763221),(vi 3624381080),(vi 310598401),(vi 607225278),(vi 1426881987),(vi 1925078388),(vi 2162078206),(vi 2614888103),(vi 3248222580),(vi 3835390401),(vi 4022224774),(vi 264347078),(vi 604807628),(vi 770255983),(vi 1249150122),(vi 1555081692),(vi 1996064986),(vi 2554220882),(vi 2821834349),(vi 2952996808),(vi 3210313671),(vi 3336571891),(vi 3584528711),(vi 113926993),(vi 338241895),(vi 666307205),(vi 773529912),(vi 1294757372),(vi 1396182291),(vi 1695183700),(vi 1986661051),(vi 2177026350),(vi 2456956037),(vi 2730485921),(vi 2820302411),(vi 3259730800),(vi 3345764771),(vi 3516065817),(vi 3600352804),(vi 4094571909),(vi 275423344),(vi 430227734),(vi 506948616),(vi 659060556),(vi 883997877),(vi 958139571),(vi 1322822218),(vi 1537002063),(vi 1747873779),(vi 1955562222),(vi 2024104815),(vi 2227730452),(vi 2361852424),(vi 2428436474),(vi 2756734187),(vi 3204031479),(vi 3329325298)]) wN ?_
 refine al [(vi 0),(vi 0),(vi 0),(vi 0),(vi 0),(vi 0),(vi 0),(vi 0),(vi 0),(vi 0),(vi 0),(vi 0),(vi 0),(vi 0),(vi 0),(vi 0),(vi 0),(vi 0),(vi 0),(vi 0),(vi 0),(vi 0),(vi 0),(vi 0),(vi 0),(vi 0),(vi 0),(vi 0),(vi 0),(vi 0),(vi 0),(vi 0),(vi 0),(vi 0),(vi 0),(vi 0),(vi 0),(vi 0),(vi 0),(vi 0),(vi 0),(vi 0),(vi 0),(vi 0),(vi 0),(vi 0),(vi 0),(vi 0),(vi 0),(vi 0),(vi 0),(vi 0),(vi 0),(vi 0),(vi 0),(vi 0),(vi 0),(vi 0),(vi 0),(vi 0),(vi 0),(vi 0),(vi 0),(vi 0)] wN zy ?_
 intro p i q F r s
 refine sv [(vi 1116352408),(vi 1899447441),(vi 3049323471),(vi 3921009573),(vi 961987163),(vi 1508970993),(vi 2453635748),(vi 2870763221),(vi 3624381080),(vi 310598401),(vi 607225278),(vi 1426881987),(vi 1925078388),(vi 2162078206),(vi 2614888103),(vi 3248222580),(vi 3835390401),(vi 4022224774),(vi 264347078),(vi 604807628),(vi 770255983),(vi 1249150122),(vi 1555081692),(vi 1996064986),(vi 2554220882),(vi 2821834349),(vi 2952996808),(vi 3210313671),(vi 3336571891),(vi 3584528711),(vi 113926993),(vi 338241895),(vi 666307205),(vi 773529912),(vi 1294757372),(vi 1396182291),(vi 1695183700),(vi 1986661051),(vi 2177026350),(vi 2456956037),(vi 2730485921),(vi 2820302411),(vi 3259730800),(vi 3345764771),(vi 3516065817),(vi 3600352804),(vi 4094571909),(vi 275423344),(vi 430227734),(vi 506948616),(vi 659060556),(vi 883997877),(vi 958139571),(vi 1322822218),(vi 1537002063),(vi 1747873779),(vi 1955562222),(vi 2024104815),(vi 2227730452),(vi 2361852424),(vi 2428436474),(vi 2756734187),(vi 3204031479),(vi 3329325298)] wN xu s ?_
 intro t u w G
 have x:=((Ch.base e).extk r).ext u (fun k hk=>by subst hk;exact q)
 refine nx<|mw (vi a) ?_
 refine xZ a wN rfl rfl rfl Tryz.underlying152 nV rfl rfl (by omega) (by omega) ?_
 refine ld (iV (([1116352408,1899447441,3049323471,3921009573,961987163,1508970993,2453635748,2870763221,3624381080,310598401,607225278,1426881987,1925078388,2162078206,2614888103,3248222580,3835390401,4022224774,264347078,604807628,770255983,1249150122,1555081692,1996064986,2554220882,2821834349,2952996808,3210313671,3336571891,3584528711,113926993,338241895,666307205,773529912,1294757372,1396182291,1695183700,1986661051,2177026350,2456956037,2730485921,2820302411,3259730800,3345764771,3516065817,3600352804,4094571909,275423344,430227734,506948616,659060556,883997877,958139571,1322822218,1537002063,1747873779,1955562222,2024104815,2227730452,2361852424,2428436474,2756734187,3204031479,3329325298]:List Int).getD (a).toNat 0)) wN mT (show Blk t p 152 (([1116352408,1899447441,3049323471,3921009573,961987163,1508970993,2453635748,2870763221,3624381080,310598401,607225278,1426881987,1925078388,2162078206,2614888103,3248222580,3835390401,4022224774,264347078,604807628,770255983,1249150122,1555081692,1996064986,2554220882,2821834349,2952996808,3210313671,3336571891,3584528711,113926993,338241895,666307205,773529912,1294757372,1396182291,1695183700,1986661051,2177026350,2456956037,2730485921,2820302411,3259730800,3345764771,3516065817,3600352804,4094571909,275423344,430227734,506948616,659060556,883997877,958139571,1322822218,1537002063,1747873779,1955562222,2024104815,2227730452,2361852424,2428436474,2756734187,3204031479,3329325298]:List Int).map iV) from w) ?_ rfl rfl rfl rfl (xx rfl (by show (a).toNat < 64;omega))
 refine aw (vi (([1116352408,1899447441,3049323471,3921009573,961987163,1508970993,2453635748,2870763221,3624381080,310598401,607225278,1426881987,1925078388,2162078206,2614888103,3248222580,3835390401,4022224774,264347078,604807628,770255983,1249150122,1555081692,1996064986,2554220882,2821834349,2952996808,3210313671,3336571891,3584528711,113926993,338241895,666307205,773529912,1294757372,1396182291,1695183700,1986661051,2177026350,2456956037,2730485921,2820302411,3259730800,3345764771,3516065817,3600352804,4094571909,275423344,430227734,506948616,659060556,883997877,958139571,1322822218,1537002063,1747873779,1955562222,2024104815,2227730452,2361852424,2428436474,2756734187,3204031479,3329325298]:List Int).getD (a).toNat 0)) ?_
 refine n3<|rt (vi (([1116352408,1899447441,3049323471,3921009573,961987163,1508970993,2453635748,2870763221,3624381080,310598401,607225278,1426881987,1925078388,2162078206,2614888103,3248222580,3835390401,4022224774,264347078,604807628,770255983,1249150122,1555081692,1996064986,2554220882,2821834349,2952996808,3210313671,3336571891,3584528711,113926993,338241895,666307205,773529912,1294757372,1396182291,1695183700,1986661051,2177026350,2456956037,2730485921,2820302411,3259730800,3345764771,3516065817,3600352804,4094571909,275423344,430227734,506948616,659060556,883997877,958139571,1322822218,1537002063,1747873779,1955562222,2024104815,2227730452,2361852424,2428436474,2756734187,3204031479,3329325298]:List Int).getD (a).toNat 0)) ?_
 refine ⟨x.keep0,?_⟩
 have y:sI a=(([1116352408,1899447441,3049323471,3921009573,961987163,1508970993,2453635748,2870763221,3624381080,310598401,607225278,1426881987,1925078388,2162078206,2614888103,3248222580,3835390401,4022224774,264347078,604807628,770255983,1249150122,1555081692,1996064986,2554220882,2821834349,2952996808,3210313671,3336571891,3584528711,113926993,338241895,666307205,773529912,1294757372,1396182291,1695183700,1986661051,2177026350,2456956037,2730485921,2820302411,3259730800,3345764771,3516065817,3600352804,4094571909,275423344,430227734,506948616,659060556,883997877,958139571,1322822218,1537002063,1747873779,1955562222,2024104815,2227730452,2361852424,2428436474,2756734187,3204031479,3329325298]:List Int).getD (a).toNat 0):=by simp only [sI,b,d,cond_true,cond_false];try rfl
 rw [y]
 exact rfl

def rI (a:Int) (b:Int):(Int):=((a+b) % 4294967296)
theorem wy (d:World) (a:Int) (b:Int) (g:0≤a) (h:a≤1099511627776) (i:0≤b) (j:b≤1099511627776):Fn Tryz.prog 163 #[(vi a),(vi b)] d (fun v e=>Keep d e∧O_3 e d.heap.size v (rI a b)):=by
 refine nu (n:=9) [(vi a),(vi b)] Tryz.func163 rfl rfl ?_
 refine sr<|aw (vi 0) ?_
 refine nx<|mw (vi a) ?_
 refine mw (vi b) ?_
 refine ar (a+b) wN ?_
 refine qc (a+b) 4294967295 4294967296 32 wN rfl rfl (by decide) (by decide) (by decide) (by kernel_rfl) ?_
 refine aw (vi ((a+b) % 4294967296)) ?_
 refine n3<|rt (vi ((a+b) % 4294967296)) ?_
 refine ⟨Ch.refl _ _,?_⟩
 have f:rI a b=((a+b) % 4294967296):=by rfl
 rw [f]
 exact rfl

theorem xM (G:World) (av:Value) (i:List Int) (aK:xQ G av i) (ax:Value) (p:List UInt8) (aL:pI G ax p) :Fn Tryz.prog 150 #[av,ax] G (fun v K=>Keep G K∧AP K G.heap.size v (oK i p)):=by
 obtain ⟨B,C,rfl,F,af⟩:=aK
 obtain ⟨X,Y,rfl,ay,aM⟩:=aL
 refine nu (n:=151) [(vs B i.length C),(vs X p.length Y)] Tryz.func150 rfl rfl ?_
 refine sr<|aw (vs none 0 0) ?_
 refine nx<|nF wN rfl rfl nf (fun w=>by kernel_rfl) ?_
 intro bT bU az aN
 have a0:=(Ch.base G).extk az
 refine mw (vs B i.length C) ?_
 refine Bz i wN nf aN (F.from0 a0) az.size ?_
 intro I J a1 aO Q bW
 have ah:=a0.extk aO
 refine aw (vs I i.length J) ?_
 refine n4<|jT1 [(0,(vs B i.length C)),(1,(vs X p.length Y)),(4,(vs none 0 0)),(5,(vs I i.length J))] (oK i p=i) ?_ fun a2=>?_
 ·intro aP a3 a4 bX
  have aQ:=ah.extk a4
  refine sr<|mw (vs I i.length J) ?_
  refine aw (vs I i.length J) ?_
  refine n1 ?_
  have aR:=(mz Q a4)
  refine rt (vs I i.length J) ?_
  refine ⟨aQ.keep0,?_⟩
  rw [aP]
  exact ⟨_,_,rfl,aR,af,⟨trivial,trivial⟩⟩
 refine mw (vs B i.length C) ?_
 refine cl wN (sY a1 _ i (rX (F.from0 ah) af) 8) ?_
 rintro _ a3 ⟨R,rfl⟩
 have ai:=ah.extk R
 refine pu (vb (!(rk i 8))) wN ?_
 refine mw (vb (!(rk i 8))) ?_
 rcases bf (rk i 8) with L|L
 ·iterate 3 refine sk (cA not L) ?_
  refine pk vT wN (cA not L) ?_
  refine n2<|ct T1 ?_
  have aS:oK i p=i:=by first|exact qO (by first|assumption|exact ‹ws8 i=false›)|exact qN (by omega)|exact qM (by first|assumption|exact ‹ws8 i=true›) (by omega) (by omega)
  exact wj (a2 aS _ R)
 have bY:=qE L
 refine mv (vs X p.length Y) (wS (cA not L)) ?_
 refine ln (wS (cA not L)) mR (ay.from0 ai) ?_
 refine pu (vb (!(decide ((p.length:Int)=64)))) (wS (cA not L)) ?_
 refine pf (vb (!(decide ((p.length:Int)=64)))) wN (cA not L) ?_
 refine n2 ?_
 rcases bf (decide ((p.length:Int)=64)) with S|S
 ·have bZ:=dF S
  refine ct (cA not S) ?_
  have aT:oK i p=i:=by first|exact qO (by first|assumption|exact ‹ws8 i=false›)|exact qN (by omega)|exact qM (by first|assumption|exact ‹ws8 i=true›) (by omega) (by omega)
  exact wj (a2 aT _ R)
 have ca:=dT S
 refine cf (cA not S)<|y1<|mw (vs X p.length Y) ?_
 refine cl wN (xL a3 _ p (nH (ay.from0 ai) aM)) ?_
 rintro _ a5 ⟨Z,⟨O,P,rfl,aa,_⟩⟩
 have H:=ai.extk Z
 have cb:=uj p
 refine aw (vs O (schedP p).length P) ?_
 refine mW<|mP<|nh<|qB ([(36,[],[],(fun _ v _=>v=(vs B i.length C))),(37,[],[0],(fun _ v _=>v=(ve (vs B i.length C) ((0:Int).toNat*1)))),(38,[],[0,1],(fun _ v _=>v=(vi (i.getD 0 0)))),(39,[],[],(fun _ v _=>v=(vs B i.length C))),(40,[],[3],(fun _ v _=>v=(ve (vs B i.length C) ((1:Int).toNat*1)))),(41,[],[3,4],(fun _ v _=>v=(vi (i.getD 1 0)))),(42,[],[],(fun _ v _=>v=(vs B i.length C))),(43,[],[6],(fun _ v _=>v=(ve (vs B i.length C) ((2:Int).toNat*1)))),(44,[],[6,7],(fun _ v _=>v=(vi (i.getD 2 0)))),(45,[],[],(fun _ v _=>v=(vs B i.length C))),(46,[],[9],(fun _ v _=>v=(ve (vs B i.length C) ((3:Int).toNat*1)))),(47,[],[9,10],(fun _ v _=>v=(vi (i.getD 3 0)))),(48,[],[],(fun _ v _=>v=(vs B i.length C))),(49,[],[12],(fun _ v _=>v=(ve (vs B i.length C) ((4:Int).toNat*1)))),(50,[],[12,13],(fun _ v _=>v=(vi (i.getD 4 0)))),(51,[],[],(fun _ v _=>v=(vs B i.length C))),(52,[],[15],(fun _ v _=>v=(ve (vs B i.length C) ((5:Int).toNat*1)))),(53,[],[15,16],(fun _ v _=>v=(vi (i.getD 5 0)))),(54,[],[],(fun _ v _=>v=(vs B i.length C))),(55,[],[18],(fun _ v _=>v=(ve (vs B i.length C) ((6:Int).toNat*1)))),(56,[],[18,19],(fun _ v _=>v=(vi (i.getD 6 0)))),(57,[],[],(fun _ v _=>v=(vs B i.length C))),(58,[],[21],(fun _ v _=>v=(ve (vs B i.length C) ((7:Int).toNat*1)))),(59,[],[21,22],(fun _ v _=>v=(vi (i.getD 7 0)))),(7,[],[0,1,2],(fun _ v _=>v=(vi (i.getD 0 0)))),(8,[],[0,1,2,3,4,5,24],(fun _ v _=>v=(vi (i.getD 1 0)))),(9,[],[0,1,2,3,4,5,6,7,8,24,25],(fun _ v _=>v=(vi (i.getD 2 0)))),(10,[],[0,1,2,3,4,5,6,7,8,9,10,11,24,25,26],(fun _ v _=>v=(vi (i.getD 3 0)))),(11,[],[0,1,2,3,4,5,6,7,8,9,10,11,12,13,14,24,25,26,27],(fun _ v _=>v=(vi (i.getD 4 0)))),(12,[],[0,1,2,3,4,5,6,7,8,9,10,11,12,13,14,15,16,17,24,25,26,27,28],(fun _ v _=>v=(vi (i.getD 5 0)))),(13,[],[0,1,2,3,4,5,6,7,8,9,10,11,12,13,14,15,16,17,18,19,20,24,25,26,27,28,29],(fun _ v _=>v=(vi (i.getD 6 0))))]:GV) oM rfl (by kernel_rfl) (by kernel_rfl) ?_ ?_ ?_
 ·exact ⟨hV,hE,⟨hV,hE,⟨hV,hE,⟨hV,hE,⟨hV,hE,⟨hV,hE,⟨hV,hE,⟨hV,hE,⟨hV,hE,⟨hV,hE,⟨hV,hE,⟨hV,hE,⟨hV,hE,⟨hV,hE,⟨hV,hE,⟨hV,hE,⟨hV,hE,⟨hV,hE,⟨hV,hE,⟨hV,hE,⟨hV,hE,⟨hV,hE,⟨hV,hE,⟨hV,hE,⟨hV,hE,⟨hV,hE,⟨hV,hE,⟨hV,hE,⟨hV,hE,⟨hV,hE,⟨hV,hE,trivial⟩⟩⟩⟩⟩⟩⟩⟩⟩⟩⟩⟩⟩⟩⟩⟩⟩⟩⟩⟩⟩⟩⟩⟩⟩⟩⟩⟩⟩⟩⟩
 ·refine ⟨?_,⟨?_,⟨?_,⟨?_,⟨?_,⟨?_,⟨?_,⟨?_,⟨?_,⟨?_,⟨?_,⟨?_,⟨?_,⟨?_,⟨?_,⟨?_,⟨?_,⟨?_,⟨?_,⟨?_,⟨?_,⟨?_,⟨?_,⟨?_,⟨?_,⟨?_,⟨?_,⟨?_,⟨?_,⟨?_,⟨?_,trivial⟩⟩⟩⟩⟩⟩⟩⟩⟩⟩⟩⟩⟩⟩⟩⟩⟩⟩⟩⟩⟩⟩⟩⟩⟩⟩⟩⟩⟩⟩⟩
  ·intro A cc
   iterate 31 intro _
   refine sw<|mw (vs B i.length C) ?_
   exact f2
  ·intro A aU
   have aV:=H.extk aU
   rintro _ rfl;iterate 30 intro _
   refine sw<|ix wN 0 nf (F.from0 aV) ?_
   exact f2
  ·intro A aW
   have aX:=H.extk aW
   rintro _ rfl _ rfl;iterate 29 intro _
   refine sw<|ei (x:=i) 0 wN mT (F.from0 aX) ?_
   exact f2
  ·intro A cd
   iterate 31 intro _
   refine sw<|mw (vs B i.length C) ?_
   exact f2
  ·intro A aY
   have aZ:=H.extk aY
   rintro _ _ _ _ rfl;iterate 27 intro _
   refine sw<|ix wN 1 nf (F.from0 aZ) ?_
   exact f2
  ·intro A ba
   have bb:=H.extk ba
   rintro _ _ _ _ rfl _ rfl;iterate 26 intro _
   refine sw<|ei (x:=i) 1 wN mT (F.from0 bb) ?_
   exact f2
  ·intro A ce
   iterate 31 intro _
   refine sw<|mw (vs B i.length C) ?_
   exact f2
  ·intro A bc
   have bd:=H.extk bc
   rintro _ _ _ _ _ _ _ rfl;iterate 24 intro _
   refine sw<|ix wN 2 nf (F.from0 bd) ?_
   exact f2
  ·intro A be
   have bg:=H.extk be
   rintro _ _ _ _ _ _ _ rfl _ rfl;iterate 23 intro _
   refine sw<|ei (x:=i) 2 wN mT (F.from0 bg) ?_
   exact f2
  ·intro A cg
   iterate 31 intro _
   refine sw<|mw (vs B i.length C) ?_
   exact f2
  ·intro A bh
   have bi:=H.extk bh
   rintro _ _ _ _ _ _ _ _ _ _ rfl;iterate 21 intro _
   refine sw<|ix wN 3 nf (F.from0 bi) ?_
   exact f2
  ·intro A bj
   have bk:=H.extk bj
   rintro _ _ _ _ _ _ _ _ _ _ rfl _ rfl;iterate 20 intro _
   refine sw<|ei (x:=i) 3 wN mT (F.from0 bk) ?_
   exact f2
  ·intro A ci
   iterate 31 intro _
   refine sw<|mw (vs B i.length C) ?_
   exact f2
  ·intro A bl
   have bm:=H.extk bl
   (iterate 13 intro _);rintro rfl;iterate 18 intro _
   refine sw<|ix wN 4 nf (F.from0 bm) ?_
   exact f2
  ·intro A bn
   have bo:=H.extk bn
   (iterate 13 intro _);rintro rfl _ rfl;iterate 17 intro _
   refine sw<|ei (x:=i) 4 wN mT (F.from0 bo) ?_
   exact f2
  ·intro A cj
   iterate 31 intro _
   refine sw<|mw (vs B i.length C) ?_
   exact f2
  ·intro A bp
   have bq:=H.extk bp
   (iterate 16 intro _);rintro rfl;iterate 15 intro _
   refine sw<|ix wN 5 nf (F.from0 bq) ?_
   exact f2
  ·intro A br
   have bu:=H.extk br
   (iterate 16 intro _);rintro rfl _ rfl;iterate 14 intro _
   refine sw<|ei (x:=i) 5 wN mT (F.from0 bu) ?_
   exact f2
  ·intro A ck
   iterate 31 intro _
   refine sw<|mw (vs B i.length C) ?_
   exact f2
  ·intro A bv
   have bw:=H.extk bv
   (iterate 19 intro _);rintro rfl _ _ _ _ _ _ _ _ _ _ _ _
   refine sw<|ix wN 6 nf (F.from0 bw) ?_
   exact f2
  ·intro A bz
   have b0:=H.extk bz
   (iterate 19 intro _);rintro rfl _ rfl _ _ _ _ _ _ _ _ _ _ _
   refine sw<|ei (x:=i) 6 wN mT (F.from0 b0) ?_
   exact f2
  ·intro A cm
   iterate 31 intro _
   refine sw<|mw (vs B i.length C) ?_
   exact f2
  ·intro A b1
   have b2:=H.extk b1
   (iterate 22 intro _);rintro rfl _ _ _ _ _ _ _ _ _
   refine sw<|ix wN 7 nf (F.from0 b2) ?_
   exact f2
  ·intro A b3
   have b4:=H.extk b3
   (iterate 22 intro _);rintro rfl _ rfl _ _ _ _ _ _ _ _
   refine sw<|ei (x:=i) 7 wN mT (F.from0 b4) ?_
   exact f2
  ·intro A cn
   rintro _ rfl _ rfl _ rfl;iterate 28 intro _
   refine sw<|aw (vi (i.getD 0 0)) ?_
   exact f2
  ·intro A co
   rintro _ rfl _ rfl _ rfl _ rfl _ rfl _ rfl;(iterate 19 intro _);rintro rfl _ _ _ _ _ _
   refine sw<|aw (vi (i.getD 1 0)) ?_
   exact f2
  ·intro A cp
   rintro _ rfl _ rfl _ rfl _ rfl _ rfl _ rfl _ rfl _ rfl _ rfl;(iterate 16 intro _);rintro rfl _ rfl _ _ _ _ _
   refine sw<|aw (vi (i.getD 2 0)) ?_
   exact f2
  ·intro A cq
   iterate 12 rintro _ rfl
   rintro _ _ _ _ _ _ _ _ _ _ _ _ _ rfl _ rfl _ rfl _ _ _ _
   refine sw<|aw (vi (i.getD 3 0)) ?_
   exact f2
  ·intro A cr
   iterate 15 rintro _ rfl
   rintro _ _ _ _ _ _ _ _ _ _ rfl _ rfl _ rfl _ rfl _ _ _
   refine sw<|aw (vi (i.getD 4 0)) ?_
   exact f2
  ·intro A cs
   iterate 18 rintro _ rfl
   rintro _ _ _ _ _ _ _ rfl _ rfl _ rfl _ rfl _ rfl _ _
   refine sw<|aw (vi (i.getD 5 0)) ?_
   exact f2
  ·intro A cu
   iterate 21 rintro _ rfl
   rintro _ _ _ _ rfl _ rfl _ rfl _ rfl _ rfl _ rfl _
   refine sw<|aw (vi (i.getD 6 0)) ?_
   exact f2
 ·intro A M
  have b5:=H.extk M
  iterate 31 rintro _ rfl
  refine sw<|aw (vi (i.getD 7 0)) ?_
  refine n4<|aw (vi 0) ?_
  refine mW<|mP<|ng<|oa [(0,(vs B i.length C)),(4,(vs none 0 0)),(5,(vs I i.length J)),(6,(vs O (schedP p).length P)),(7,(vi ((ol (schedP p) (oE i) 0).a))),(8,(vi ((ol (schedP p) (oE i) 0).b))),(9,(vi ((ol (schedP p) (oE i) 0).c))),(10,(vi ((ol (schedP p) (oE i) 0).d))),(11,(vi ((ol (schedP p) (oE i) 0).e))),(12,(vi ((ol (schedP p) (oE i) 0).f))),(13,(vi ((ol (schedP p) (oE i) 0).g))),(14,(vi ((ol (schedP p) (oE i) 0).z))),(15,(vi ((0:Nat):Int)))] ⟨rfl,rfl,rfl,rfl,(cA (Value.int .i64) (show ((i.getD 0 0):Int)=(ol (schedP p) (oE i) 0).a by rfl)),(cA (Value.int .i64) (show ((i.getD 1 0):Int)=(ol (schedP p) (oE i) 0).b by rfl)),(cA (Value.int .i64) (show ((i.getD 2 0):Int)=(ol (schedP p) (oE i) 0).c by rfl)),(cA (Value.int .i64) (show ((i.getD 3 0):Int)=(ol (schedP p) (oE i) 0).d by rfl)),(cA (Value.int .i64) (show ((i.getD 4 0):Int)=(ol (schedP p) (oE i) 0).e by rfl)),(cA (Value.int .i64) (show ((i.getD 5 0):Int)=(ol (schedP p) (oE i) 0).f by rfl)),(cA (Value.int .i64) (show ((i.getD 6 0):Int)=(ol (schedP p) (oE i) 0).g by rfl)),(cA (Value.int .i64) (show ((i.getD 7 0):Int)=(ol (schedP p) (oE i) 0).z by rfl)),(cA (Value.int .i64) (show (0:Int)=((0:Nat):Int) by omega)),trivial⟩ (fun e' K=>∃ (k:Nat) (o:Int) (q:Int) (r:Int) (D:Int) (j:Int) (s:Int) (t:Int) (y:Int) (a6:Env),e'=pt a6 [(0,(vs B i.length C)),(4,(vs none 0 0)),(5,(vs I i.length J)),(6,(vs O (schedP p).length P)),(7,(vi o)),(8,(vi q)),(9,(vi r)),(10,(vi D)),(11,(vi j)),(12,(vi s)),(13,(vi t)),(14,(vi y)),(15,(vi ((k:Nat):Int)))]∧Ch (fun k=>G.heap.size≤k) G K∧Ch (fun k=>A.heap.size≤k) A K∧k≤64∧o=(ol (schedP p) (oE i) k).a∧q=(ol (schedP p) (oE i) k).b∧r=(ol (schedP p) (oE i) k).c∧D=(ol (schedP p) (oE i) k).d∧j=(ol (schedP p) (oE i) k).e∧s=(ol (schedP p) (oE i) k).f∧t=(ol (schedP p) (oE i) k).g∧y=(ol (schedP p) (oE i) k).z) (fun e' _=>(64 - (intOf (e' 15))).toNat) ?_ ?_
  ·exact fun u=>⟨0,(ol (schedP p) (oE i) 0).a,(ol (schedP p) (oE i) 0).b,(ol (schedP p) (oE i) 0).c,(ol (schedP p) (oE i) 0).d,(ol (schedP p) (oE i) 0).e,(ol (schedP p) (oE i) 0).f,(ol (schedP p) (oE i) 0).g,(ol (schedP p) (oE i) 0).z,u,rfl,b5,(Ch.refl (fun k=>A.heap.size≤k) A),(by omega),(by first|rfl|assumption),(by first|rfl|assumption),(by first|rfl|assumption),(by first|rfl|assumption),(by first|rfl|assumption),(by first|rfl|assumption),(by first|rfl|assumption),(by first|rfl|assumption)⟩
  ·rintro _ aj ⟨k,o,q,r,D,j,s,t,y,a6,rfl,a7,T,cv,hi_a,hi_b,hi_c,hi_d,hi_e,hi_f,hi_g,hi_z⟩
   obtain ⟨zw,hzw⟩:∃ z,(schedP p).getD k 0=z:=⟨_,rfl⟩
   have hwd:0≤zw∧zw < 4294967296:=hzw ▸ rV (wF p) k
   obtain ⟨zk,hzk⟩:∃ z,kw.getD k 0=z:=⟨_,rfl⟩
   have hkw:0≤zk∧zk < 4294967296:=hzk ▸ rV CS k
   have hkl:kw.length=64:=rfl
   have hok:=tO (w:=schedP p) (uB (qE (by first|assumption|exact ‹ws8 i=true›)).1) k
   unfold S8.ok at hok
   rw [← hi_a,← hi_b,← hi_c,← hi_d,← hi_e,← hi_f,← hi_g,← hi_z] at hok
   refine nh<|sr<|mw (vi ((k:Nat):Int)) ?_
   refine pu (vb (decide (((k:Nat):Int) < 64))) wN ?_
   refine n2 ?_
   rcases bf (decide (((k:Nat):Int) < 64)) with V|V
   ·have cw:=dF V
    refine cf V<|oh<|mU ?_
    obtain rfl:k=64:=by omega
    refine mU<|nq<|mP<|nh<|sr<|mw (vi o) ?_
    refine mw (vi q) ?_
    refine mw (vi r) ?_
    refine mw (vi D) ?_
    refine mw (vi j) ?_
    refine mw (vi s) ?_
    refine mw (vi t) ?_
    refine mw (vi y) ?_
    refine ltI ([o,q,r,D,j,s,t,y]:List Int) wN nf ?_
    intro ab ac E a8 ak
    have b6:=a7.extk a8
    refine ln wN nf (Rd.of_own ak) ?_
    refine mw (vi 0) ?_
    refine mW<|mP<|ng ?_
    have b7:=(mz (gc (mz (mz (mz Q R) Z) M) T (fun g hg hlt hk=>by have am:=(nb Q g hg).2;have an:a1.heap.size≤A.heap.size:=(z3 R Z M);have ao:A.heap.size≤g:=hk;omega)) a8)
    have b8:(i:List Int)=(sc i (S8.list (ol (schedP p) (oE i) 64))).take 0++i.drop 0:=by first|rfl|simp
    have b9:(([o,q,r,D,j,s,t,y]:List Int):List Int)=([o,q,r,D,j,s,t,y]:List Int):=by first|rfl|simp
    refine oa [(0,(vs B i.length C)),(4,(vs none 0 0)),(5,(vs I i.length J)),(133,(vs ab ([o,q,r,D,j,s,t,y]:List Int).length ac)),(134,(vi (([o,q,r,D,j,s,t,y]:List Int).length:Int))),(135,(vi ((0:Nat):Int)))] ⟨rfl,rfl,rfl,rfl,rfl,(cA (Value.int .i64) (show (0:Int)=((0:Nat):Int) by omega)),trivial⟩ (fun e' K=>∃ (m:Nat) (a9:Env),e'=pt a9 [(0,(vs B i.length C)),(4,(vs none 0 0)),(5,(vs I i.length J)),(133,(vs ab ([o,q,r,D,j,s,t,y]:List Int).length ac)),(134,(vi (([o,q,r,D,j,s,t,y]:List Int).length:Int))),(135,(vi ((m:Nat):Int)))]∧Ch (fun k=>G.heap.size≤k) G K∧Ch (fun k=>G.heap.size≤k) E K∧m≤8∧World.ownsRow K G.heap.size 3 1 (.slice I i.length J) i.length (((sc i (S8.list (ol (schedP p) (oE i) 64))).take m++i.drop m).map iV)∧World.ownsRow K aj.heap.size 3 1 (.slice ab ([o,q,r,D,j,s,t,y]:List Int).length ac) ([o,q,r,D,j,s,t,y]:List Int).length ((([o,q,r,D,j,s,t,y]:List Int)).map iV)) (fun e' _=>(8 - (intOf (e' 135))).toNat) ?_ ?_
    ·exact fun u=>⟨0,u,rfl,b6,(Ch.refl (fun k=>G.heap.size≤k) E),(by omega),(by rw [← b8];exact b7),(by rw [← b9];exact ak)⟩
    ·rintro _ N ⟨m,a9,rfl,ad,bA,cy,ap,aq⟩
     have hlL:([o,q,r,D,j,s,t,y]:List Int).length=8:=rfl
     have hll:(sc i (S8.list (ol (schedP p) (oE i) 64))).length=8:=vd (by omega) rfl
     have cz:(i.length:Int)=8:=(qE (by first|assumption|exact ‹ws8 i=true›)).2
     have c0:=rV (qE (by first|assumption|exact ‹ws8 i=true›)).1 m
     have hle:([o,q,r,D,j,s,t,y]:List Int)=(S8.list (ol (schedP p) (oE i) 64)):=by rw [hi_a,hi_b,hi_c,hi_d,hi_e,hi_f,hi_g,hi_z];rfl
     have c1:0≤([o,q,r,D,j,s,t,y]:List Int).getD m 0∧([o,q,r,D,j,s,t,y]:List Int).getD m 0 < 4294967296:=hle ▸ rV (BS (tO (w:=schedP p) (uB (qE (by first|assumption|exact ‹ws8 i=true›)).1) 64)) m
     refine sr<|pu (vb (decide (((m:Nat):Int) < (([o,q,r,D,j,s,t,y]:List Int).length:Int)))) wN ?_
     refine mW<|mP<|nh ?_
     rcases bf (decide (((m:Nat):Int) < (([o,q,r,D,j,s,t,y]:List Int).length:Int))) with W|W
     ·have c2:=dF W
      refine cf W<|oh<|mU<|mU<|nq<|mP<|sr<|mw (vs I i.length J) ?_
      refine aw (vs I i.length J) ?_
      refine n3<|rt (vs I i.length J) ?_
      refine ⟨ad.keep0,?_⟩
      have bB:oK i p=((sc i (S8.list (ol (schedP p) (oE i) 64))).take m++i.drop m):=by first|exact qO (by first|assumption|exact ‹ws8 i=false›)|exact qN (by omega)|exact qM (by first|assumption|exact ‹ws8 i=true›) (by omega) (by omega)
      rw [bB]
      have aA:i.length=(((sc i (S8.list (ol (schedP p) (oE i) 64))).take m++i.drop m)).length:=by simp only [List.length_append,List.length_take,List.length_drop];omega
      rw [aA] at ap ⊢
      exact ⟨_,_,rfl,ap,(by rw [← aA];exact af),⟨trivial,trivial⟩⟩
     have c3:=dT W
     refine ct W<|nm<|mP<|nh<|ng<|sr<|mw (vi ((m:Nat):Int)) ?_
     refine ix wN ((m:Nat):Int) nf (Rd.of_own aq) ?_
     refine ei (x:=(([o,q,r,D,j,s,t,y]:List Int))) m wN mT (Rd.of_own aq) ?_
     refine aw (vi ((m:Nat):Int)) ?_
     refine aw (vi ((([o,q,r,D,j,s,t,y]:List Int)).getD m 0)) ?_
     refine mW<|mP<|mV ?_
     refine mw (vs I i.length J) ?_
     refine mw (vi ((m:Nat):Int)) ?_
     refine mw (vs B i.length C) ?_
     refine mw (vi ((m:Nat):Int)) ?_
     refine ix wN ((m:Nat):Int) nf (F.from0 ad) ?_
     refine ei (x:=i) m wN mT (F.from0 ad) ?_
     refine mw (vi ((([o,q,r,D,j,s,t,y]:List Int)).getD m 0)) ?_
     refine cl wN (wy N (i.getD m 0) ((([o,q,r,D,j,s,t,y]:List Int)).getD m 0) (by omega) (by omega) (by omega) (by omega)) ?_
     rintro _ aB ⟨ae,rfl⟩
     have aC:=(mz ap ae)
     refine ix wN ((m:Nat):Int) nf (Rd.of_own aC) ?_
     refine pR ((sc i (S8.list (ol (schedP p) (oE i) 64))).take m++i.drop m) (m) ((rI (i.getD m 0) ((([o,q,r,D,j,s,t,y]:List Int)).getD m 0))) wN rfl rfl rfl (by simp) rfl nV aC (by first|omega|(simp only [List.length_append,List.length_take,List.length_drop];omega)) ?_
     intro aD au bC
     have bD:=(ad.extk ae).ext au (fun k hk=>nT (Nat.le_refl G.heap.size) (nb Q k hk).1)
     refine mW<|mQ<|mP<|mV ?_
     refine ar (((m:Nat):Int)+1) wN ?_
     refine mw (vi (((m:Nat):Int)+1)) ?_
     refine mW ?_
     have bE:((((sc i (S8.list (ol (schedP p) (oE i) 64))).take m++i.drop m).set m (rI (i.getD m 0) ((([o,q,r,D,j,s,t,y]:List Int)).getD m 0))):List Int)=(sc i (S8.list (ol (schedP p) (oE i) 64))).take (m+1)++i.drop (m+1):=by first|rfl|(rw [hle];exact sG (l:=(S8.list (ol (schedP p) (oE i) 64))) (by omega) (by show i.length=8;omega))
     have bF:=(gc (mz aq ae) au (fun g hg hlt hk=>by have am:=(nb ak g hg).1;have an:=(nb Q g hk).2;have ao:=(z4 R Z M T);omega))
     have bG:((([o,q,r,D,j,s,t,y]:List Int)):List Int)=([o,q,r,D,j,s,t,y]:List Int):=by first|rfl|(rw [hle];exact sG (l:=(S8.list (ol (schedP p) (oE i) 64))) (by omega) (by show i.length=8;omega))
     refine nX (w0:=N) [(0,(vs B i.length C)),(4,(vs none 0 0)),(5,(vs I i.length J)),(133,(vs ab ([o,q,r,D,j,s,t,y]:List Int).length ac)),(134,(vi (([o,q,r,D,j,s,t,y]:List Int).length:Int))),(135,(vi (((m+1):Nat):Int)))] ?_ ?_ ?_
     · exact ⟨rfl,rfl,rfl,rfl,rfl,(cA (Value.int .i64) (show ((((m:Nat):Int)+1):Int)=(((m+1):Nat):Int) by omega)),trivial⟩
     · exact fun u=>⟨(m+1),u,rfl,bD,((((Ch.refl (fun k=>G.heap.size≤k) E).ext bA (fun k hk=>hk)).extk ae).ext au (fun k hk=>nT (Nat.le_refl G.heap.size) (nb Q k hk).1)),(by omega),(by rw [← bE];exact bC),(by rw [← bG];exact bF)⟩
     · show (8 - (((m+1):Nat):Int)).toNat < (8 - ((m:Nat):Int)).toNat;omega
   have c4:=dT V
   refine ct V<|nm<|mP<|nh<|ng<|sr<|mw (vi j) ?_
   refine mw (vi s) ?_
   refine rh j s wN rfl rfl (by kernel_rfl) (by omega) (by omega) (by omega) (by omega) ?_
   have c5:=qi (a:=j) (b:=s) (by omega)
   refine mw (vi j) ?_
   refine pD 4294967295 j wN rfl rfl (by kernel_rfl) (by omega) (by omega) (by omega) (by omega) ?_
   have c6:=ox (a:=4294967295) (b:=j) (by omega) (by omega)
   refine mw (vi t) ?_
   refine rh (nw 4294967295 j) t wN rfl rfl (by kernel_rfl) (by omega) (by omega) (by omega) (by omega) ?_
   have c7:=qi (a:=(nw 4294967295 j)) (b:=t) (by omega)
   refine pD (ot j s) (ot (nw 4294967295 j) t) wN rfl rfl (by kernel_rfl) (by omega) (by omega) (by omega) (by omega) ?_
   have c8:=ox (a:=(ot j s)) (b:=(ot (nw 4294967295 j) t)) (by omega) (by omega)
   refine aw (vi (nw (ot j s) (ot (nw 4294967295 j) t))) ?_
   refine nx<|mw (vi o) ?_
   refine mw (vi q) ?_
   refine rh o q wN rfl rfl (by kernel_rfl) (by omega) (by omega) (by omega) (by omega) ?_
   have c9:=qi (a:=o) (b:=q) (by omega)
   refine mw (vi o) ?_
   refine mw (vi r) ?_
   refine rh o r wN rfl rfl (by kernel_rfl) (by omega) (by omega) (by omega) (by omega) ?_
   have cC:=qi (a:=o) (b:=r) (by omega)
   refine pD (ot o q) (ot o r) wN rfl rfl (by kernel_rfl) (by omega) (by omega) (by omega) (by omega) ?_
   have cD:=ox (a:=(ot o q)) (b:=(ot o r)) (by omega) (by omega)
   refine mw (vi q) ?_
   refine mw (vi r) ?_
   refine rh q r wN rfl rfl (by kernel_rfl) (by omega) (by omega) (by omega) (by omega) ?_
   have cE:=qi (a:=q) (b:=r) (by omega)
   refine pD (nw (ot o q) (ot o r)) (ot q r) wN rfl rfl (by kernel_rfl) (by omega) (by omega) (by omega) (by omega) ?_
   have cF:=ox (a:=(nw (ot o q) (ot o r))) (b:=(ot q r)) (by omega) (by omega)
   refine aw (vi (nw (nw (ot o q) (ot o r)) (ot q r))) ?_
   refine mW<|mP<|nh<|ob ([(83,[],[],(fun _ v _=>v=(vi y))),(84,[],[],(fun _ v _=>v=(vi j))),(85,[],[1],(fun _ v w=>v=.int .i64 (rot j 6))),(86,[],[],(fun _ v _=>v=(vi j))),(87,[],[1,2,3],(fun _ v w=>v=.int .i64 (rot j 11))),(88,[],[1,2,3,4],(fun _ v _=>v=(vi (nw (rot j 6) (rot j 11))))),(89,[],[],(fun _ v _=>v=(vi j))),(90,[],[1,2,3,4,6],(fun _ v w=>v=.int .i64 (rot j 25))),(91,[],[1,2,3,4,5,6,7],(fun _ v _=>v=(vi (nw (nw (rot j 6) (rot j 11)) (rot j 25))))),(92,[],[0,1,2,3,4,5,6,7,8],(fun _ v _=>v=(vi (y+(nw (nw (rot j 6) (rot j 11)) (rot j 25)))))),(93,[],[],(fun _ v _=>v=(vi (nw (ot j s) (ot (nw 4294967295 j) t))))),(94,[],[0,1,2,3,4,5,6,7,8,9,10],(fun _ v _=>v=(vi ((y+(nw (nw (rot j 6) (rot j 11)) (rot j 25)))+(nw (ot j s) (ot (nw 4294967295 j) t)))))),(95,[],[],(fun _ v _=>v=(vi ((k:Nat):Int)))),(96,[],[1,2,3,4,6,7,12],(fun _ v w=>v=.int .i64 (sI ((k:Nat):Int)))),(97,[],[0,1,2,3,4,5,6,7,8,9,10,11,12,13],(fun _ v _=>v=(vi (((y+(nw (nw (rot j 6) (rot j 11)) (rot j 25)))+(nw (ot j s) (ot (nw 4294967295 j) t)))+(sI ((k:Nat):Int)))))),(98,[],[],(fun _ v _=>v=(vs O (schedP p).length P))),(99,[],[],(fun _ v _=>v=(vi ((k:Nat):Int)))),(100,[],[15,16],(fun _ v _=>v=(ve (vs O (schedP p).length P) ((((k:Nat):Int)).toNat*1)))),(101,[],[15,16,17],(fun _ v _=>v=(vi zw)))]:GV) (fun _ K=>Keep aj K) [] oM rfl (by kernel_rfl) (by kernel_rfl) ?_ (fun _ _ h=>h) (fun _ _ _ _ h _ k=>h.trans k) trivial ?_ ?_ ?_
   ·exact ⟨hV,hE,⟨hV,hE,⟨hV,hE,⟨hV,hE,⟨hV,hE,⟨hV,hE,⟨hV,hE,⟨hV,hE,⟨hV,hE,⟨hV,hE,⟨hV,hE,⟨hV,hE,⟨hV,hE,⟨hV,hE,⟨hV,hE,⟨hV,hE,⟨hV,hE,⟨hV,hE,⟨hV,hE,trivial⟩⟩⟩⟩⟩⟩⟩⟩⟩⟩⟩⟩⟩⟩⟩⟩⟩⟩⟩
   ·exact trivial
   ·refine ⟨?_,⟨?_,⟨?_,⟨?_,⟨?_,⟨?_,⟨?_,⟨?_,⟨?_,⟨?_,⟨?_,⟨?_,⟨?_,⟨?_,⟨?_,⟨?_,⟨?_,⟨?_,⟨?_,trivial⟩⟩⟩⟩⟩⟩⟩⟩⟩⟩⟩⟩⟩⟩⟩⟩⟩⟩⟩
    ·intro _ E cG _
     iterate 19 intro _
     refine sw<|mw (vi y) ?_
     exact f1
    ·intro _ E cH _
     iterate 19 intro _
     refine sw<|mw (vi j) ?_
     exact f1
    ·intro _ E cI _
     rintro _ _ rfl;iterate 17 intro _
     refine sw<|cl wN (ub E j 6 (by omega) (by omega)) ?_
     rintro _ N ⟨bH,rfl⟩
     have cJ:=oH j 6
     exact nK bH rfl
    ·intro _ E cK _
     iterate 19 intro _
     refine sw<|mw (vi j) ?_
     exact f1
    ·intro _ E cL _
     rintro _ _ rfl _ rfl
     have cM:=oH j 6
     rintro _ rfl;iterate 15 intro _
     refine sw<|cl wN (ub E j 11 (by omega) (by omega)) ?_
     rintro _ N ⟨bI,rfl⟩
     have cN:=oH j 11
     exact nK bI rfl
    ·intro _ E cO _
     rintro _ _ rfl _ rfl
     have cP:=oH j 6
     rintro _ rfl _ rfl
     have cQ:=oH j 11
     iterate 14 intro _
     refine sw<|pD (rot j 6) (rot j 11) wN rfl rfl (by kernel_rfl) (by omega) (by omega) (by omega) (by omega) ?_
     have cR:=ox (a:=(rot j 6)) (b:=(rot j 11)) (by omega) (by omega)
     exact f1
    ·intro _ E cS _
     iterate 19 intro _
     refine sw<|mw (vi j) ?_
     exact f1
    ·intro _ E cT _
     rintro _ _ rfl _ rfl
     have cU:=oH j 6
     rintro _ rfl _ rfl
     have cV:=oH j 11
     rintro _ _ rfl _ _ _ _ _ _ _ _ _ _ _ _
     refine sw<|cl wN (ub E j 25 (by omega) (by omega)) ?_
     rintro _ N ⟨bJ,rfl⟩
     have cW:=oH j 25
     exact nK bJ rfl
    ·intro _ E cX _
     rintro _ _ rfl _ rfl
     have cY:=oH j 6
     rintro _ rfl _ rfl
     have cZ:=oH j 11
     rintro _ rfl
     have da:=ox (a:=(rot j 6)) (b:=(rot j 11)) (by omega) (by omega)
     rintro _ rfl _ rfl
     have db:=oH j 25
     rintro _ _ _ _ _ _ _ _ _ _ _
     refine sw<|pD (nw (rot j 6) (rot j 11)) (rot j 25) wN rfl rfl (by kernel_rfl) (by omega) (by omega) (by omega) (by omega) ?_
     have dc:=ox (a:=(nw (rot j 6) (rot j 11))) (b:=(rot j 25)) (by omega) (by omega)
     exact f1
    ·intro _ E dd _
     rintro _ rfl _ rfl _ rfl
     have de:=oH j 6
     rintro _ rfl _ rfl
     have df:=oH j 11
     rintro _ rfl
     have dg:=ox (a:=(rot j 6)) (b:=(rot j 11)) (by omega) (by omega)
     rintro _ rfl _ rfl
     have dh:=oH j 25
     rintro _ rfl
     have di:=ox (a:=(nw (rot j 6) (rot j 11))) (b:=(rot j 25)) (by omega) (by omega)
     rintro _ _ _ _ _ _ _ _ _ _
     refine sw<|ar (y+(nw (nw (rot j 6) (rot j 11)) (rot j 25))) wN ?_
     exact f1
    ·intro _ E dj _
     iterate 19 intro _
     refine sw<|mw (vi (nw (ot j s) (ot (nw 4294967295 j) t))) ?_
     exact f1
    ·intro _ E dk _
     rintro _ rfl _ rfl _ rfl
     have dl:=oH j 6
     rintro _ rfl _ rfl
     have dm:=oH j 11
     rintro _ rfl
     have dn:=ox (a:=(rot j 6)) (b:=(rot j 11)) (by omega) (by omega)
     rintro _ rfl _ rfl
     have dp:=oH j 25
     rintro _ rfl
     have dq:=ox (a:=(nw (rot j 6) (rot j 11))) (b:=(rot j 25)) (by omega) (by omega)
     rintro _ rfl _ rfl _ _ _ _ _ _ _ _
     refine sw<|ar ((y+(nw (nw (rot j 6) (rot j 11)) (rot j 25)))+(nw (ot j s) (ot (nw 4294967295 j) t))) wN ?_
     exact f1
    ·intro _ E dr _
     iterate 19 intro _
     refine sw<|mw (vi ((k:Nat):Int)) ?_
     exact f1
    ·intro _ E ds _
     rintro _ _ rfl _ rfl
     have dt:=oH j 6
     rintro _ rfl _ rfl
     have du:=oH j 11
     rintro _ _ rfl _ rfl
     have dv:=oH j 25
     rintro _ _ _ _ _ rfl _ _ _ _ _ _
     refine sw<|cl wN (wx E ((k:Nat):Int)) ?_
     rintro _ N ⟨bK,rfl⟩
     have dw:=yn ((k:Nat):Int)
     exact nK bK rfl
    ·intro _ E dx _
     rintro _ rfl _ rfl _ rfl
     have dy:=oH j 6
     rintro _ rfl _ rfl
     have dz:=oH j 11
     rintro _ rfl
     have d0:=ox (a:=(rot j 6)) (b:=(rot j 11)) (by omega) (by omega)
     rintro _ rfl _ rfl
     have d1:=oH j 25
     rintro _ rfl
     have d2:=ox (a:=(nw (rot j 6) (rot j 11))) (b:=(rot j 25)) (by omega) (by omega)
     rintro _ rfl _ rfl _ rfl _ rfl _ rfl
     have d3:=yn ((k:Nat):Int)
     rintro _ _ _ _ _
     refine sw<|ar (((y+(nw (nw (rot j 6) (rot j 11)) (rot j 25)))+(nw (ot j s) (ot (nw 4294967295 j) t)))+(sI ((k:Nat):Int))) wN ?_
     exact f1
    ·intro _ E d4 _
     iterate 19 intro _
     refine sw<|mw (vs O (schedP p).length P) ?_
     exact f1
    ·intro _ E d5 _
     iterate 19 intro _
     refine sw<|mw (vi ((k:Nat):Int)) ?_
     exact f1
    ·intro _ E bL _
     (iterate 16 intro _);rintro rfl _ rfl _ _
     refine sw ?_
     have bM:=(mz (gc (mz aa M) T (fun g hg hlt hk=>by have am:=(nb aa g hg).2;have an:a5.heap.size≤A.heap.size:=M.size;have ao:A.heap.size≤g:=hk;omega)) bL)
     refine ix wN ((k:Nat):Int) nf (Rd.of_own bM) ?_
     exact f1
    ·intro _ E bN _
     (iterate 16 intro _);rintro rfl _ rfl _ rfl _
     refine sw ?_
     have bO:=(mz (gc (mz aa M) T (fun g hg hlt hk=>by have am:=(nb aa g hg).2;have an:a5.heap.size≤A.heap.size:=M.size;have ao:A.heap.size≤g:=hk;omega)) bN)
     refine pE (iV zw) wN rfl rfl rfl rfl mT (Rd.of_own bO) (by rw [← hzw];exact xx (by simp) (by first|omega|(simp <;> omega))) ?_
     exact f1
   ·intro _ E aE
    rintro _ rfl _ rfl _ rfl
    have d6:=oH j 6
    rintro _ rfl _ rfl
    have d7:=oH j 11
    rintro _ rfl
    have d8:=ox (a:=(rot j 6)) (b:=(rot j 11)) (by omega) (by omega)
    rintro _ rfl _ rfl
    have d9:=oH j 25
    rintro _ rfl
    have dA:=ox (a:=(nw (rot j 6) (rot j 11))) (b:=(rot j 25)) (by omega) (by omega)
    rintro _ rfl _ rfl _ rfl _ rfl _ rfl
    have dB:=yn ((k:Nat):Int)
    rintro _ rfl _ rfl _ rfl _ rfl _ rfl
    refine sw<|ar ((((y+(nw (nw (rot j 6) (rot j 11)) (rot j 25)))+(nw (ot j s) (ot (nw 4294967295 j) t)))+(sI ((k:Nat):Int)))+zw) wN ?_
    refine aw (vi ((((y+(nw (nw (rot j 6) (rot j 11)) (rot j 25)))+(nw (ot j s) (ot (nw 4294967295 j) t)))+(sI ((k:Nat):Int)))+zw)) ?_
    refine nx<|mw (vi o) ?_
    refine cl wN (ub E o 2 (by omega) (by omega)) ?_
    rintro _ N ⟨aF,rfl⟩
    have bP:=(a7.extk aE).extk aF
    have dC:=oH o 2
    refine mw (vi o) ?_
    refine cl wN (ub N o 13 (by omega) (by omega)) ?_
    rintro _ aB ⟨aG,rfl⟩
    have dD:=oH o 13
    refine pD (rot o 2) (rot o 13) wN rfl rfl (by kernel_rfl) (by omega) (by omega) (by omega) (by omega) ?_
    have dE:=ox (a:=(rot o 2)) (b:=(rot o 13)) (by omega) (by omega)
    refine mw (vi o) ?_
    refine cl wN (ub aB o 22 (by omega) (by omega)) ?_
    rintro _ aD ⟨aH,rfl⟩
    have bQ:=(bP.extk aG).extk aH
    have dG:=oH o 22
    refine pD (nw (rot o 2) (rot o 13)) (rot o 22) wN rfl rfl (by kernel_rfl) (by omega) (by omega) (by omega) (by omega) ?_
    have dH:=ox (a:=(nw (rot o 2) (rot o 13))) (b:=(rot o 22)) (by omega) (by omega)
    refine mw (vi (nw (nw (ot o q) (ot o r)) (ot q r))) ?_
    refine ar ((nw (nw (rot o 2) (rot o 13)) (rot o 22))+(nw (nw (ot o q) (ot o r)) (ot q r))) wN ?_
    refine aw (vi ((nw (nw (rot o 2) (rot o 13)) (rot o 22))+(nw (nw (ot o q) (ot o r)) (ot q r)))) ?_
    refine nx<|mw (vi t) ?_
    refine mw (vi s) ?_
    refine mw (vi j) ?_
    refine mw (vi D) ?_
    refine mw (vi ((((y+(nw (nw (rot j 6) (rot j 11)) (rot j 25)))+(nw (ot j s) (ot (nw 4294967295 j) t)))+(sI ((k:Nat):Int)))+zw)) ?_
    refine cl wN (wy aD D ((((y+(nw (nw (rot j 6) (rot j 11)) (rot j 25)))+(nw (ot j s) (ot (nw 4294967295 j) t)))+(sI ((k:Nat):Int)))+zw) (by omega) (by omega) (by omega) (by omega)) ?_
    rintro _ bR ⟨aI,rfl⟩
    refine aw (vi t) ?_
    refine aw (vi s) ?_
    refine aw (vi j) ?_
    refine aw (vi (rI D ((((y+(nw (nw (rot j 6) (rot j 11)) (rot j 25)))+(nw (ot j s) (ot (nw 4294967295 j) t)))+(sI ((k:Nat):Int)))+zw))) ?_
    refine mW<|mP<|mV ?_
    refine mw (vi r) ?_
    refine mw (vi q) ?_
    refine mw (vi o) ?_
    refine mw (vi ((((y+(nw (nw (rot j 6) (rot j 11)) (rot j 25)))+(nw (ot j s) (ot (nw 4294967295 j) t)))+(sI ((k:Nat):Int)))+zw)) ?_
    refine mw (vi ((nw (nw (rot o 2) (rot o 13)) (rot o 22))+(nw (nw (ot o q) (ot o r)) (ot q r)))) ?_
    refine cl wN (wy bR ((((y+(nw (nw (rot j 6) (rot j 11)) (rot j 25)))+(nw (ot j s) (ot (nw 4294967295 j) t)))+(sI ((k:Nat):Int)))+zw) ((nw (nw (rot o 2) (rot o 13)) (rot o 22))+(nw (nw (ot o q) (ot o r)) (ot q r))) (by omega) (by omega) (by omega) (by omega)) ?_
    rintro _ dI ⟨aJ,rfl⟩
    have bS:=(bQ.extk aI).extk aJ
    refine aw (vi r) ?_
    refine aw (vi q) ?_
    refine aw (vi o) ?_
    refine aw (vi (rI ((((y+(nw (nw (rot j 6) (rot j 11)) (rot j 25)))+(nw (ot j s) (ot (nw 4294967295 j) t)))+(sI ((k:Nat):Int)))+zw) ((nw (nw (rot o 2) (rot o 13)) (rot o 22))+(nw (nw (ot o q) (ot o r)) (ot q r))))) ?_
    refine mW<|mQ<|mP<|mV ?_
    refine mw (vi ((k:Nat):Int)) ?_
    refine ar (((k:Nat):Int)+1) wN ?_
    refine aw (vi (((k:Nat):Int)+1)) ?_
    refine mW<|nX (w0:=aj) [(0,(vs B i.length C)),(4,(vs none 0 0)),(5,(vs I i.length J)),(6,(vs O (schedP p).length P)),(7,(vi ((ol (schedP p) (oE i) (k+1)).a))),(8,(vi ((ol (schedP p) (oE i) (k+1)).b))),(9,(vi ((ol (schedP p) (oE i) (k+1)).c))),(10,(vi ((ol (schedP p) (oE i) (k+1)).d))),(11,(vi ((ol (schedP p) (oE i) (k+1)).e))),(12,(vi ((ol (schedP p) (oE i) (k+1)).f))),(13,(vi ((ol (schedP p) (oE i) (k+1)).g))),(14,(vi ((ol (schedP p) (oE i) (k+1)).z))),(15,(vi (((k+1):Nat):Int)))] ?_ ?_ ?_
    · exact ⟨rfl,rfl,rfl,rfl,(cA (Value.int .i64) (show ((rI ((((y+(nw (nw (rot j 6) (rot j 11)) (rot j 25)))+(nw (ot j s) (ot (nw 4294967295 j) t)))+(sI ((k:Nat):Int)))+zw) ((nw (nw (rot o 2) (rot o 13)) (rot o 22))+(nw (nw (ot o q) (ot o r)) (ot q r)))):Int)=(ol (schedP p) (oE i) (k+1)).a by subst hzw hzk hi_a hi_b hi_c hi_d hi_e hi_f hi_g hi_z;exact Cu (by omega) rfl)),(cA (Value.int .i64) (show (o:Int)=(ol (schedP p) (oE i) (k+1)).b by rw [hi_a];rfl)),(cA (Value.int .i64) (show (q:Int)=(ol (schedP p) (oE i) (k+1)).c by rw [hi_b];rfl)),(cA (Value.int .i64) (show (r:Int)=(ol (schedP p) (oE i) (k+1)).d by rw [hi_c];rfl)),(cA (Value.int .i64) (show ((rI D ((((y+(nw (nw (rot j 6) (rot j 11)) (rot j 25)))+(nw (ot j s) (ot (nw 4294967295 j) t)))+(sI ((k:Nat):Int)))+zw)):Int)=(ol (schedP p) (oE i) (k+1)).e by subst hzw hzk hi_a hi_b hi_c hi_d hi_e hi_f hi_g hi_z;exact Ct (by omega) rfl)),(cA (Value.int .i64) (show (j:Int)=(ol (schedP p) (oE i) (k+1)).f by rw [hi_e];rfl)),(cA (Value.int .i64) (show (s:Int)=(ol (schedP p) (oE i) (k+1)).g by rw [hi_f];rfl)),(cA (Value.int .i64) (show (t:Int)=(ol (schedP p) (oE i) (k+1)).z by rw [hi_g];rfl)),(cA (Value.int .i64) (show ((((k:Nat):Int)+1):Int)=(((k+1):Nat):Int) by omega)),trivial⟩
    · exact fun u=>⟨(k+1),(ol (schedP p) (oE i) (k+1)).a,(ol (schedP p) (oE i) (k+1)).b,(ol (schedP p) (oE i) (k+1)).c,(ol (schedP p) (oE i) (k+1)).d,(ol (schedP p) (oE i) (k+1)).e,(ol (schedP p) (oE i) (k+1)).f,(ol (schedP p) (oE i) (k+1)).g,(ol (schedP p) (oE i) (k+1)).z,u,rfl,bS,((((((((Ch.refl (fun k=>A.heap.size≤k) A).ext T (fun k hk=>hk)).extk aE).extk aF).extk aG).extk aH).extk aI).extk aJ),(by omega),(by first|rfl|assumption),(by first|rfl|assumption),(by first|rfl|assumption),(by first|rfl|assumption),(by first|rfl|assumption),(by first|rfl|assumption),(by first|rfl|assumption),(by first|rfl|assumption)⟩
    · show (64 - (((k+1):Nat):Int)).toNat < (64 - ((k:Nat):Int)).toNat;omega

def BC (w:World) (v:Value) (x:(List Int)×(List UInt8)):Prop:=∃ (a:Option Addr) (b:Nat) (d:Option Addr) (e:Nat),v=.tuple #[.slice a x.1.length b,.slice d x.2.length e]∧Rd w 1 (.slice a x.1.length b) x.1.length (x.1.map iV)∧x.1.length≤1073741824∧Rd w 1 (.slice d x.2.length e) x.2.length (x.2.map bV)∧x.2.length≤1073741824
theorem sE (e:World) (y:Value) (b:List Int) (L:xQ e y b) (A:Value) (a:List UInt8) (M:pI e A a) :Fn Tryz.prog 127 #[y,A] e (fun v g=>Keep e g∧BC g v (nE b a)):=by
 obtain ⟨o,p,rfl,N,O⟩:=L
 obtain ⟨q,r,rfl,P,Q⟩:=M
 refine nu (n:=17) [(vs o b.length p),(vs q a.length r)] Tryz.func127 rfl rfl ?_
 refine sr<|aw (vs none 0 0) ?_
 refine aw (vs none 0 0) ?_
 refine mW<|mP<|nh<|ng ?_
 have B:(b:List Int)=oX b a 0:=by rfl
 have C:(a:List UInt8)=a.drop (64*0):=by rfl
 refine oa [(0,(.slice o (oX b a 0).length p)),(1,(.slice q (a.drop (64*0)).length r)),(4,(vs none 0 0)),(5,(vs none 0 0))] ⟨(cA (fun l:List Int=>Value.slice o l.length p) B),(cA (fun l:List UInt8=>Value.slice q l.length r) C),rfl,rfl,trivial⟩ (fun e' g=>∃ (k:Nat) (D:Env) (h:Option Addr) (i:Nat) (f:Option Addr) (d:Nat),e'=pt D [(0,(.slice h (oX b a k).length i)),(1,(.slice f (a.drop (64*k)).length d)),(4,(vs none 0 0)),(5,(vs none 0 0))]∧Ch (fun k=>e.heap.size≤k) e g∧Ch (fun k=>e.heap.size≤k) e g∧64*k≤a.length∧(Rd g 1 (.slice h (oX b a k).length i) (oX b a k).length ((oX b a k).map iV)∧(oX b a k).length≤1073741824)∧(Rd g 1 (.slice f (a.drop (64*k)).length d) (a.drop (64*k)).length ((a.drop (64*k)).map bV)∧(a.drop (64*k)).length≤1073741824)) (fun e' _=>(lenOf (e' 1))) ?_ ?_
 ·exact fun u=>⟨0,u,o,p,q,r,rfl,(Ch.base e),(Ch.refl (fun k=>e.heap.size≤k) e),(by omega),(B ▸ ⟨N,O⟩),(C ▸ ⟨P,Q⟩)⟩
 ·rintro _ E ⟨k,D,h,i,f,d,rfl,F,R,ab,⟨G,H⟩,⟨j,w⟩⟩
  have hdl:(a.drop (64*k)).length=a.length - 64*k:=List.length_drop
  refine nh<|sr<|mw (vs f (a.drop (64*k)).length d) ?_
  refine ln wN mR j ?_
  refine pu (vb (decide (64≤((a.drop (64*k)).length:Int)))) wN ?_
  refine n2 ?_
  rcases bf (decide (64≤((a.drop (64*k)).length:Int))) with m|m
  ·have ac:=dF m
   refine cf m<|oh<|mU<|mU<|nq<|mP<|sr<|mw (vs h (oX b a k).length i) ?_
   refine mw (vs f (a.drop (64*k)).length d) ?_
   refine aw (vs h (oX b a k).length i) ?_
   refine aw (vs f (a.drop (64*k)).length d) ?_
   refine n3<|rE (.inl rfl) (vs h (oX b a k).length i) (vs f (a.drop (64*k)).length d) rfl rfl rfl ?_
   refine ⟨F.keep0,?_⟩
   have S:nE b a=((oX b a k),(a.drop (64*k))):=by exact yR (by omega) (by omega)
   rw [S]
   exact ⟨_,_,_,_,rfl,G,H,j,w⟩
  have ad:=dT m
  refine ct m<|nm<|mP<|ng<|sr<|mw (vs h (oX b a k).length i) ?_
  refine mw (vs f (a.drop (64*k)).length d) ?_
  refine slv ((a.drop (64*k)).take 64) 0 64 wN mR j (by first|omega|(simp <;> omega)) (by first|omega|(simp <;> omega)) (by first|rfl|(simp;done)|(rw [List.take_of_length_le (by first|(simp;done)|(simp;omega))])) rfl rfl rfl rfl (.inl ⟨rfl,rfl⟩) (.inr ⟨_,_,_,rfl,rfl,by omega⟩) ?_
  have T:0≤64:=(by first|omega|(simp <;> omega))
  have V:64≤(a.drop (64*k)).length:=(by first|omega|(simp <;> omega))
  refine cl wN (xM E _ (oX b a k) (rX G H) _ ((a.drop (64*k)).take 64) (nH (Rd.subV (x':=((a.drop (64*k)).take 64)) j T V (by first|rfl|(simp;done)|(rw [List.take_of_length_le (by first|(simp;done)|(simp;omega))]))) (nT (by simp only [List.length_take,List.length_drop];omega) w))) ?_
  rintro _ ae ⟨x,⟨s,t,rfl,W,X,af⟩⟩
  have Y:=F.extk x
  refine aw (vs s (oK (oX b a k) ((a.drop (64*k)).take 64)).length t) ?_
  refine mW<|mP<|mV ?_
  refine mw (vs f (a.drop (64*k)).length d) ?_
  have I:=(j.kp x)
  refine slv ((a.drop (64*k)).drop 64) 64 ((a.drop (64*k)).length) wN mR I (by first|omega|(simp <;> omega)) (by first|omega|(simp <;> omega)) (by first|rfl|(simp;done)|(rw [List.take_of_length_le (by first|(simp;done)|(simp;omega))])) rfl rfl rfl rfl (.inr ⟨_,_,_,rfl,rfl,by omega⟩) (.inl ⟨rfl,rfl⟩) ?_
  have Z:64≤((a.drop (64*k)).length):=(by first|omega|(simp <;> omega))
  have aa:((a.drop (64*k)).length)≤(a.drop (64*k)).length:=(by first|omega|(simp <;> omega))
  refine aw (vs (tX f d 64 1) ((a.drop (64*k)).drop 64).length (d - 64)) ?_
  refine mW<|mQ ?_
  have J:((oK (oX b a k) ((a.drop (64*k)).take 64)):List Int)=oX b a (k+1):=by rfl
  have K:(((a.drop (64*k)).drop 64):List UInt8)=a.drop (64*(k+1)):=by rw [List.drop_drop];congr 1
  refine nX (w0:=E) [(0,(.slice s (oX b a (k+1)).length t)),(1,(.slice (tX f d 64 1) (a.drop (64*(k+1))).length (d - 64))),(4,(vs none 0 0)),(5,(vs none 0 0))] ?_ ?_ ?_
  · exact ⟨(cA (fun l:List Int=>Value.slice s l.length t) J),(cA (fun l:List UInt8=>Value.slice (tX f d 64 1) l.length (d - 64)) K),rfl,rfl,trivial⟩
  · exact fun u=>⟨(k+1),u,s,t,(tX f d 64 1),(d - 64),rfl,Y,(((Ch.refl (fun k=>e.heap.size≤k) e).ext R (fun k hk=>hk)).extk x),(by omega),(J ▸ ⟨(Rd.of_own W),X⟩),(K ▸ ⟨(Rd.subV (x':=((a.drop (64*k)).drop 64)) I Z aa (by first|rfl|(simp;done)|(rw [List.take_of_length_le (by first|(simp;done)|(simp;omega))]))),(nT (by simp only [List.length_take,List.length_drop];omega) w)⟩)⟩
  · show (a.drop (64*(k+1))).length < (a.drop (64*k)).length;simp only [List.length_drop];omega

theorem wP {w:World} {x:PHash} {a:Option Addr} {b:Nat} {d:Option Addr} {e:Nat} (f:Rd w 1 (.slice a x.H.length b) x.H.length (x.H.map iV)) (g:x.H.length≤1073741824) (h:Rd w 1 (.slice d x.Held.length e) x.Held.length (x.Held.map bV)) (i:x.Held.length≤1073741824):Ao w (va (tg x a b d e)) x:=⟨_,_,_,_,rfl,f,g,h,i⟩
def pl (a:PHash) (b:List UInt8):(PHash):=bif (pg a) then (bif (decide ((1048576 - a.N) < (b.length:Int))) then (a) else ({H:=(nE a.H (ns [a.Held,b])).1,Held:=(((nE a.H (ns [a.Held,b])).2)),N:=(a.N+(b.length:Int)):PHash})) else (a)
theorem yY (K:World) (av:Value) (a:PHash) (aM:Ao K av a) (ax:Value) (b:List UInt8) (aN:pI K ax b) :Fn Tryz.prog 91 #[av,ax] K (fun v M=>Keep K M∧CG M K.heap.size v (pl a b)):=by
 obtain ⟨f,s,t,u,rfl,ae,af,ah,ai⟩:=aM
 obtain ⟨x,y,rfl,aj,aO⟩:=aN
 refine nu (n:=50) [(va (tg a f s t u)),(vs x b.length y)] Tryz.func91 rfl rfl ?_
 refine sr<|bx (tg a f s t u) wN ?_
 intro l A c7 c8 E Q
 refine al [(vs none 0 0),(vs none 0 0),(vi 0)] wN wA ?_
 intro aP aQ ay R B az
 have S:=((Ch.base K).extk E).extk B
 refine n4<|jT1 [(1,(vs x b.length y)),(2,(vp l 0)),(4,(vp aP 0))] (pl a b=a) ?_ fun a1=>?_
 ·intro aR F C c9
  have ak:=S.extk C
  refine nh<|ob ([(18,[],[],(fun _ v w=>∃ a0:Addr,v=.slice (some a0) 0 0∧w.ownsRow F.heap.size 3 1 (.slice (some a0) 0 0) 0 [])),(19,[],[],(fun _ v _=>v=(vp l 0))),(20,[],[1],(fun _ v _=>v=(vs f a.H.length s))),(21,[],[0,1,2],(fun _ v w=>∃ (f:Option Addr) (p:Nat),v=.slice f a.H.length p∧w.ownsRow F.heap.size 3 1 (.slice f a.H.length p) a.H.length (a.H.map iV)∧a.H.length≤1073741824∧Aps [(f,p)])),(22,[],[],(fun _ v _=>v=(vp l 1))),(23,[],[4],(fun _ v _=>v=(vs t a.Held.length u))),(24,[21],[0,1,2,3,4,5],(fun e v w=>As w F.heap.size v a.Held (fun am=>Ap (sp (e 21)) am))),(25,[],[],(fun _ v _=>v=(vp l 2))),(26,[],[7],(fun _ v _=>v=(vi a.N)))]:GV) (fun _ M=>Keep F M) [] oM rfl (by kernel_rfl) (by kernel_rfl) ?_ (fun _ _ h=>h) (fun _ _ _ _ h _ k=>h.trans k) trivial ?_ ?_ ?_
  ·exact ⟨(fun e v w A h hk=>by obtain ⟨i,he,j⟩:=h;exact ⟨i,he,mz j hk⟩),hE,⟨hV,hE,⟨hV,hE,⟨(fun e v w A h hk=>by obtain ⟨i,q,he,j,r,hap⟩:=h;exact ⟨i,q,he,mz j hk,r,hap⟩),hE,⟨hV,hE,⟨hV,hE,⟨(fun e v w A h hk=>by obtain ⟨i,q,he,j,r,hap,hx⟩:=h;exact ⟨i,q,he,mz j hk,r,hap,hx⟩),(fun O P v w hx h=>by have aS:=hx 21 (by simp);simp only [aS] at h;exact h),⟨hV,hE,⟨hV,hE,trivial⟩⟩⟩⟩⟩⟩⟩⟩⟩
  ·exact trivial
  ·refine ⟨?_,⟨?_,⟨?_,⟨?_,⟨?_,⟨?_,⟨?_,⟨?_,⟨?_,trivial⟩⟩⟩⟩⟩⟩⟩⟩⟩
   ·intro _ d aT _
    rintro _ _ _ _ _ _ _ _ _
    refine sw<|nF wN rfl rfl nf (fun w=>by kernel_rfl) ?_
    intro cC g aU aV
    exact nK aU ⟨_,rfl,mO aV aT.size⟩
   ·intro _ d cD _
    rintro _ _ _ _ _ _ _ _ _
    refine sw<|pu (vp l 0) wN ?_
    exact f1
   ·intro _ d aW _
    rintro _ _ rfl _ _ _ _ _ _ _
    refine sw ?_
    have aX:=(((Q.kp B).kp C).kp aW)
    refine ld (vs f a.H.length s) wN oA aX ?_
    exact f1
   ·intro _ d a2 _
    have aY:=ak.extk a2
    rintro _ ⟨cE,rfl,aZ⟩ _ rfl _ rfl _ _ _ _ _ _
    refine sw<|Bz a.H wN nf aZ (ae.from0 aY) a2.size ?_
    intro cF cG g ba bb cH
    exact nK ba ⟨_,_,rfl,bb,af,⟨trivial,trivial⟩⟩
   ·intro _ d cI _
    rintro _ _ _ _ _ _ _ _ _
    refine sw<|pu (vp l 1) wN ?_
    exact f1
   ·intro _ d bc _
    rintro _ _ _ _ _ rfl _ _ _ _
    refine sw ?_
    have bd:=(((Q.kp B).kp C).kp bc)
    refine ld (vs t a.Held.length u) wN nd bd ?_
    exact f1
   ·intro _ d a3 _
    have be:=ak.extk a3
    rintro _ ⟨cJ,rfl,cK⟩ _ rfl _ rfl _ ⟨cL,cM,rfl,bg,cN,-⟩ _ rfl _ rfl _ _ _
    refine sw<|cl wN (rA d _ a.Held (nH (ah.from0 be) ai)) ?_
    rintro _ g ⟨bh,⟨cO,cP,rfl,a4,bi,bj⟩⟩
    exact nK bh ⟨_,_,rfl,(mO a4 a3.size),bi,bj,(Ap.lt bg a4 (Nat.le_refl _))⟩
   ·intro _ d cQ _
    rintro _ _ _ _ _ _ _ _ _
    refine sw<|pu (vp l 2) wN ?_
    exact f1
   ·intro _ d bk _
    rintro _ _ _ _ _ _ _ _ rfl _
    refine sw ?_
    have bl:=(((Q.kp B).kp C).kp bk)
    refine ld (vi a.N) wN mT bl ?_
    exact f1
  ·intro _ d a5
   rintro _ ⟨cR,rfl,cS⟩ _ rfl _ rfl _ ⟨T,V,rfl,a6,bm,-⟩ _ rfl _ rfl _ ⟨W,X,rfl,a7,bn,cT,bo⟩ _ rfl _ rfl
   refine sw<|pu (va (tg a T V W X)) wN ?_
   have bp:=((az.kp C).kp a5)
   refine sv (tg a T V W X) wN qa bp ?_
   intro g an bq cU
   have br:=(ak.extk a5).ext an (fun k hk=>by subst hk;exact nT E.size ay)
   refine n1 ?_
   have bu:=(gc a6 an (ne1 a6 (nL R C.size)))
   have bv:=(gc a7 an (ne1 a7 (nL R C.size)))
   refine rc (tg a T V W X) bq rH qa ?_
   refine ⟨br.keep0,?_⟩
   rw [aR]
   exact ⟨_,_,_,_,rfl,(mO bu (z3 E B C)),bm,(mO bv (z3 E B C)),bn,⟨⟨bo,trivial⟩,⟨trivial,trivial⟩⟩⟩
 have a8:=(Q.kp B)
 refine lN (tg a f s t u) wN rH qa a8 ?_
 refine cl wN (xe aQ _ a (wP (ae.from0 S) af (ah.from0 S) ai)) ?_
 rintro _ F ⟨D,rfl⟩
 have Y:=S.extk D
 refine pu (vb (!(pg a))) wN ?_
 refine mw (vb (!(pg a))) ?_
 rcases bf (pg a) with o|o
 ·iterate 6 refine sk (cA not o) ?_
  refine pk vT wN (cA not o) ?_
  refine n2<|ct T1 ?_
  have bw:pl a b=a:=by simp only [pl,o,cond_true,cond_false]
  exact wj (a1 bw _ D)
 have cV:=tq o
 refine mv (vs x b.length y) (wS (cA not o)) ?_
 refine ln (wS (cA not o)) mR (aj.from0 Y) ?_
 refine pu (vp l 2) (wS (cA not o)) ?_
 have Z:=(a8.kp D)
 refine ld (vi a.N) (wS (cA not o)) mT Z ?_
 refine ar (1048576 - a.N) (wS (cA not o)) ?_
 refine pu (vb (decide ((1048576 - a.N) < (b.length:Int)))) (wS (cA not o)) ?_
 refine pf (vb (decide ((1048576 - a.N) < (b.length:Int)))) wN (cA not o) ?_
 refine n2 ?_
 rcases bt (decide ((1048576 - a.N) < (b.length:Int))) with G|G
 ·have cW:=dT G
  refine ct G ?_
  have bz:pl a b=a:=by simp only [pl,o,G,cond_true,cond_false]
  exact wj (a1 bz _ D)
 have cX:=dF G
 refine cf G<|nm<|mP<|nh<|qB ([(29,[],[],(fun _ v _=>v=(vp l 0))),(30,[],[0],(fun _ v _=>v=(vs f a.H.length s))),(31,[],[],(fun _ v _=>v=(vp l 1))),(32,[],[2],(fun _ v _=>v=(vs t a.Held.length u))),(33,[],[],(fun _ v _=>v=(vs x b.length y))),(34,[],[2,3,4],(fun _ v w=>∃ (f:Option Addr) (p:Nat),v=.slice f 2 p∧w.ownsRow F.heap.size 22 1 (.slice f 2 p) 2 [(vs t a.Held.length u),(vs x b.length y)])),(35,[],[2,3,4,5],(fun _ v w=>rr w F.heap.size v (ns [a.Held,b]))),(36,[],[0,1,2,3,4,5,6],(fun _ v w=>∃ (f:Option Addr) (p:Nat) (a9:Option Addr) (s:Nat),v=.tuple #[.slice f ((nE a.H (ns [a.Held,b])).1).length p,.slice a9 ((nE a.H (ns [a.Held,b])).2).length s]∧Rd w 1 (.slice f ((nE a.H (ns [a.Held,b])).1).length p) ((nE a.H (ns [a.Held,b])).1).length (((nE a.H (ns [a.Held,b])).1).map iV)∧((nE a.H (ns [a.Held,b])).1).length≤1073741824∧Rd w 1 (.slice a9 ((nE a.H (ns [a.Held,b])).2).length s) ((nE a.H (ns [a.Held,b])).2).length (((nE a.H (ns [a.Held,b])).2).map bV)∧((nE a.H (ns [a.Held,b])).2).length≤1073741824)),(28,[36],[0,1,2,3,4,5,6,7],(fun e v _=>v=(.tuple #[(qZ (e 36) 0),(qZ (e 36) 1)]))),(37,[36],[0,1,2,3,4,5,6,7,8],(fun e v _=>v=(qZ (e 36) 0))),(38,[36],[0,1,2,3,4,5,6,7,8],(fun e v _=>v=(qZ (e 36) 1))),(5,[36],[0,1,2,3,4,5,6,7,8,9],(fun e v _=>v=(qZ (e 36) 0)))]:GV) oM rfl (by kernel_rfl) (by kernel_rfl) ?_ ?_ ?_
 ·exact ⟨hV,hE,⟨hV,hE,⟨hV,hE,⟨hV,hE,⟨hV,hE,⟨(fun e v w A h hk=>by obtain ⟨i,q,he,j⟩:=h;exact ⟨i,q,he,mz j hk⟩),hE,⟨(fun e v w A h hk=>by obtain ⟨i,q,he,j,r,hap⟩:=h;exact ⟨i,q,he,mz j hk,r,hap⟩),hE,⟨(fun e v w A h hk=>by obtain ⟨i,q,b0,b1,he,j,r,b2,b3⟩:=h;exact ⟨i,q,b0,b1,he,Rd.kp j hk,r,Rd.kp b2 hk,b3⟩),hE,⟨hV,(fun O P v w hx h=>by have I:=hx 36 (by simp);simp only [I] at h;exact h),⟨hV,(fun O P v w hx h=>by have I:=hx 36 (by simp);simp only [I] at h;exact h),⟨hV,(fun O P v w hx h=>by have I:=hx 36 (by simp);simp only [I] at h;exact h),⟨hV,(fun O P v w hx h=>by have I:=hx 36 (by simp);simp only [I] at h;exact h),trivial⟩⟩⟩⟩⟩⟩⟩⟩⟩⟩⟩⟩
 ·refine ⟨?_,⟨?_,⟨?_,⟨?_,⟨?_,⟨?_,⟨?_,⟨?_,⟨?_,⟨?_,⟨?_,⟨?_,trivial⟩⟩⟩⟩⟩⟩⟩⟩⟩⟩⟩⟩
  ·intro d cY
   rintro _ _ _ _ _ _ _ _ _ _ _ _
   refine sw<|pu (vp l 0) wN ?_
   exact f2
  ·intro d b4
   rintro _ rfl _ _ _ _ _ _ _ _ _ _ _
   refine sw ?_
   have b5:=(Z.kp b4)
   refine ld (vs f a.H.length s) wN oA b5 ?_
   exact f2
  ·intro d cZ
   rintro _ _ _ _ _ _ _ _ _ _ _ _
   refine sw<|pu (vp l 1) wN ?_
   exact f2
  ·intro d b6
   rintro _ _ _ rfl _ _ _ _ _ _ _ _ _
   refine sw ?_
   have b7:=(Z.kp b6)
   refine ld (vs t a.Held.length u) wN nd b7 ?_
   exact f2
  ·intro d da
   rintro _ _ _ _ _ _ _ _ _ _ _ _
   refine sw<|mw (vs x b.length y) ?_
   exact f2
  ·intro d b8
   rintro _ _ _ rfl _ rfl _ rfl _ _ _ _ _ _ _
   refine sw<|sh [(vs t a.Held.length u),(vs x b.length y)] wN rfl rfl qG (m:=2) rfl (by simp only [maxLen];omega) (fun w=>by kernel_rfl) ?_
   intro db g b9 aA
   obtain ⟨dc,dd,rfl⟩:=pe aA
   exact rB b9 ⟨_,_,rfl,mO aA b8.size⟩
  ·intro d aB
   have aC:=Y.extk aB
   rintro _ _ _ rfl _ rfl _ rfl _ ⟨de,df,rfl,bA⟩ _ _ _ _ _ _
   refine sw<|cl wN (rz d _ [a.Held,b] (tF (RLv.mk (L:=vh) [(a.Held,[(t,u)]),(b,[(x,y)])] (Rd.of_own bA) rfl ⟨⟨⟨(ah.from0 aC),ai⟩,trivial⟩,⟨⟨⟨(aj.from0 aC),aO⟩,trivial⟩,trivial⟩⟩ (by first|decide|exact Nat.le_of_ble_eq_true rfl)) (by first|decide|exact Nat.le_of_ble_eq_true rfl)) (by first|omega|(rw [pG];omega)|(rw [pG];simp only [List.length_cons,List.length_nil,ou];omega)|(rw [rv];simp only [List.length_cons,List.length_nil,ou];omega)|(simp only [ns,List.flatten_cons,List.flatten_nil,List.length_append,List.length_cons,List.length_nil,ou];omega))) ?_
   rintro _ g ⟨bB,⟨dg,dh,rfl,bC,bD,bE⟩⟩
   have di:=(show (ns [a.Held,b]).length=a.Held.length+b.length by simp only [ns,List.flatten_cons,List.flatten_nil,List.length_append,List.length_cons,List.length_nil];omega)
   exact rB bB ⟨_,_,rfl,(mO bC aB.size),bD,bE⟩
  ·intro d bF
   have bG:=Y.extk bF
   rintro _ rfl _ rfl _ rfl _ rfl _ rfl _ ⟨dj,dk,rfl,dl⟩ _ ⟨dm,dn,rfl,bH,bI,dp⟩
   have dq:=(show (ns [a.Held,b]).length=a.Held.length+b.length by simp only [ns,List.flatten_cons,List.flatten_nil,List.length_append,List.length_cons,List.length_nil];omega)
   rintro _ _ _ _ _
   refine sw<|cl wN (sE d _ a.H (rX (ae.from0 bG) af) _ (ns [a.Held,b]) (nH (Rd.of_own bH) bI)) ?_
   rintro _ g ⟨bJ,⟨dr,ds,dt,du,rfl,bK,bL,bM,bN⟩⟩
   exact rB bJ ⟨_,_,_,_,rfl,bK,bL,bM,bN⟩
  ·intro d dv
   rintro _ rfl _ rfl _ rfl _ rfl _ rfl _ ⟨dw,dx,rfl,dy⟩ _ ⟨dz,d0,rfl,_⟩
   have d1:=(show (ns [a.Held,b]).length=a.Held.length+b.length by simp only [ns,List.flatten_cons,List.flatten_nil,List.length_append,List.length_cons,List.length_nil];omega)
   rintro _ ⟨bO,bP,bQ,bR,rfl,_⟩ _ _ _ _
   refine sw<|mw (.tuple #[(vs bO ((nE a.H (ns [a.Held,b])).1).length bP),(vs bQ ((nE a.H (ns [a.Held,b])).2).length bR)]) ?_
   exact f2
  ·intro d d2
   rintro _ rfl _ rfl _ rfl _ rfl _ rfl _ ⟨d3,d4,rfl,d5⟩ _ ⟨d6,d7,rfl,_⟩
   have d8:=(show (ns [a.Held,b]).length=a.Held.length+b.length by simp only [ns,List.flatten_cons,List.flatten_nil,List.length_append,List.length_cons,List.length_nil];omega)
   rintro _ ⟨bS,bT,d9,dA,rfl,_⟩ _ rfl _ _ _
   refine sw<|pu (vs bS ((nE a.H (ns [a.Held,b])).1).length bT) wN ?_
   exact f2
  ·intro d dB
   rintro _ rfl _ rfl _ rfl _ rfl _ rfl _ ⟨dC,dD,rfl,dE⟩ _ ⟨dG,dH,rfl,_⟩
   have dI:=(show (ns [a.Held,b]).length=a.Held.length+b.length by simp only [ns,List.flatten_cons,List.flatten_nil,List.length_append,List.length_cons,List.length_nil];omega)
   rintro _ ⟨dJ,dK,bU,bW,rfl,_⟩ _ rfl _ _ _
   refine sw<|pu (vs bU ((nE a.H (ns [a.Held,b])).2).length bW) wN ?_
   exact f2
  ·intro d dL
   rintro _ rfl _ rfl _ rfl _ rfl _ rfl _ ⟨dM,dN,rfl,dO⟩ _ ⟨dP,dQ,rfl,_⟩
   have dR:=(show (ns [a.Held,b]).length=a.Held.length+b.length by simp only [ns,List.flatten_cons,List.flatten_nil,List.length_append,List.length_cons,List.length_nil];omega)
   rintro _ ⟨bX,bY,dS,dU,rfl,_⟩ _ rfl _ rfl _ _
   refine sw<|aw (vs bX ((nE a.H (ns [a.Held,b])).1).length bY) ?_
   exact f2
 ·intro d J
  have aD:=Y.extk J
  rintro _ rfl _ rfl _ rfl _ rfl _ rfl _ ⟨dV,dW,rfl,dX⟩ _ ⟨dY,dZ,rfl,_⟩
  have ea:=(show (ns [a.Held,b]).length=a.Held.length+b.length by simp only [ns,List.flatten_cons,List.flatten_nil,List.length_append,List.length_cons,List.length_nil];omega)
  rintro _ ⟨aE,aF,ao,ap,rfl,bZ,ca,cb,cc⟩ _ rfl _ rfl _ rfl _ rfl
  refine sw<|aw (vs ao ((nE a.H (ns [a.Held,b])).2).length ap) ?_
  refine mW<|mP<|nh<|ob ([(39,[],[],(fun _ v w=>∃ a0:Addr,v=.slice (some a0) 0 0∧w.ownsRow d.heap.size 3 1 (.slice (some a0) 0 0) 0 [])),(40,[],[],(fun _ v _=>v=(vs aE ((nE a.H (ns [a.Held,b])).1).length aF))),(41,[],[0,1],(fun _ v w=>∃ (f:Option Addr) (p:Nat),v=.slice f ((nE a.H (ns [a.Held,b])).1).length p∧w.ownsRow d.heap.size 3 1 (.slice f ((nE a.H (ns [a.Held,b])).1).length p) ((nE a.H (ns [a.Held,b])).1).length (((nE a.H (ns [a.Held,b])).1).map iV)∧((nE a.H (ns [a.Held,b])).1).length≤1073741824∧Aps [(f,p)])),(42,[],[],(fun _ v _=>v=(vs ao ((nE a.H (ns [a.Held,b])).2).length ap))),(43,[41],[0,1,2,3],(fun e v w=>As w d.heap.size v ((nE a.H (ns [a.Held,b])).2) (fun am=>Ap (sp (e 41)) am))),(44,[],[],(fun _ v _=>v=(vp l 2))),(45,[],[5],(fun _ v _=>v=(vi a.N))),(46,[],[],(fun _ v _=>v=(vs x b.length y))),(47,[],[7],(fun _ v _=>v=(vi (b.length:Int)))),(48,[],[5,6,7,8],(fun _ v _=>v=(vi (a.N+(b.length:Int)))))]:GV) (fun _ M=>Keep d M) [] oM rfl (by kernel_rfl) (by kernel_rfl) ?_ (fun _ _ h=>h) (fun _ _ _ _ h _ k=>h.trans k) trivial ?_ ?_ ?_
  ·exact ⟨(fun e v w A h hk=>by obtain ⟨i,he,j⟩:=h;exact ⟨i,he,mz j hk⟩),hE,⟨hV,hE,⟨(fun e v w A h hk=>by obtain ⟨i,q,he,j,r,hap⟩:=h;exact ⟨i,q,he,mz j hk,r,hap⟩),hE,⟨hV,hE,⟨(fun e v w A h hk=>by obtain ⟨i,q,he,j,r,hap,hx⟩:=h;exact ⟨i,q,he,mz j hk,r,hap,hx⟩),(fun O P v w hx h=>by have cd:=hx 41 (by simp);simp only [cd] at h;exact h),⟨hV,hE,⟨hV,hE,⟨hV,hE,⟨hV,hE,⟨hV,hE,trivial⟩⟩⟩⟩⟩⟩⟩⟩⟩⟩
  ·exact trivial
  ·refine ⟨?_,⟨?_,⟨?_,⟨?_,⟨?_,⟨?_,⟨?_,⟨?_,⟨?_,⟨?_,trivial⟩⟩⟩⟩⟩⟩⟩⟩⟩⟩
   ·intro _ g ce _
    rintro _ _ _ _ _ _ _ _ _ _
    refine sw<|nF wN rfl rfl nf (fun w=>by kernel_rfl) ?_
    intro ec aq cg ci
    exact nK cg ⟨_,rfl,mO ci ce.size⟩
   ·intro _ g ed _
    rintro _ _ _ _ _ _ _ _ _ _
    refine sw<|mw (vs aE ((nE a.H (ns [a.Held,b])).1).length aF) ?_
    exact f1
   ·intro _ g aG _
    rintro _ ⟨ee,rfl,cj⟩ _ rfl _ _ _ _ _ _ _ _
    refine sw ?_
    have ck:=(bZ.kp aG)
    refine Bz ((nE a.H (ns [a.Held,b])).1) wN nf cj ck aG.size ?_
    intro ef eg aq cm cn eh
    exact nK cm ⟨_,_,rfl,cn,ca,⟨trivial,trivial⟩⟩
   ·intro _ g ej _
    rintro _ _ _ _ _ _ _ _ _ _
    refine sw<|mw (vs ao ((nE a.H (ns [a.Held,b])).2).length ap) ?_
    exact f1
   ·intro _ g aH _
    rintro _ ⟨ek,rfl,em⟩ _ rfl _ ⟨en,eo,rfl,co,ep,-⟩ _ rfl _ _ _ _ _ _
    refine sw ?_
    have cp:=(cb.kp aH)
    refine cl wN (rA g _ ((nE a.H (ns [a.Held,b])).2) (nH cp cc)) ?_
    rintro _ aq ⟨cq,⟨er,es,rfl,aI,cr,cs⟩⟩
    exact nK cq ⟨_,_,rfl,(mO aI aH.size),cr,cs,(Ap.lt co aI (Nat.le_refl _))⟩
   ·intro _ g et _
    rintro _ _ _ _ _ _ _ _ _ _
    refine sw<|pu (vp l 2) wN ?_
    exact f1
   ·intro _ g cu _
    rintro _ _ _ _ _ _ rfl _ _ _ _
    refine sw ?_
    have cv:=((Z.kp J).kp cu)
    refine ld (vi a.N) wN mT cv ?_
    exact f1
   ·intro _ g eu _
    rintro _ _ _ _ _ _ _ _ _ _
    refine sw<|mw (vs x b.length y) ?_
    exact f1
   ·intro _ g cw _
    have cy:=aD.extk cw
    rintro _ _ _ _ _ _ _ _ rfl _ _
    refine sw<|ln wN mR (aj.from0 cy) ?_
    exact f1
   ·intro _ g ew _
    rintro _ _ _ _ _ _ rfl _ rfl _ rfl _ rfl _
    refine sw<|ar (a.N+(b.length:Int)) wN ?_
    exact f1
  ·intro _ g aJ
   rintro _ ⟨ex,rfl,ey⟩ _ rfl _ ⟨aa,ab,rfl,aK,cz,-⟩ _ rfl _ ⟨ac,ad,rfl,aL,c0,ez,c1⟩ _ rfl _ rfl _ rfl _ rfl _ rfl
   refine sw<|pu (va [(vs aa ((nE a.H (ns [a.Held,b])).1).length ab),(vs ac (((nE a.H (ns [a.Held,b])).2)).length ad),(vi (a.N+(b.length:Int)))]) wN ?_
   have c2:=(((az.kp D).kp J).kp aJ)
   refine sv [(vs aa ((nE a.H (ns [a.Held,b])).1).length ab),(vs ac (((nE a.H (ns [a.Held,b])).2)).length ad),(vi (a.N+(b.length:Int)))] wN qa c2 ?_
   intro aq au c3 e0
   have c4:=(aD.extk aJ).ext au (fun k hk=>by subst hk;exact nT E.size ay)
   refine n3 ?_
   have c5:=(gc aK au (ne1 aK (nL R (z2 D J))))
   have c6:=(gc aL au (ne1 aL (nL R (z2 D J))))
   refine rc [(vs aa ((nE a.H (ns [a.Held,b])).1).length ab),(vs ac (((nE a.H (ns [a.Held,b])).2)).length ad),(vi (a.N+(b.length:Int)))] c3 rH qa ?_
   refine ⟨c4.keep0,?_⟩
   simp only [pl,o,G,cond_true,cond_false]
   exact ⟨_,_,_,_,rfl,(mO c5 (z4 E B D J)),cz,(mO c6 (z4 E B D J)),c0,⟨⟨c1,trivial⟩,⟨trivial,trivial⟩⟩⟩

theorem CY (b:World) (a:Int) :Fn Tryz.prog 128 #[(vi a)] b (fun v d=>Keep b d∧rr d b.heap.size v (pb a)):=by
 refine nu (n:=25) [(vi a)] Tryz.func128 rfl rfl ?_
 refine sr<|aw (vs none 0 0) ?_
 refine n4<|mw (vi a) ?_
 refine cl wN (oW b a 0 1048576) ?_
 rintro _ h ⟨o,rfl⟩
 have B:=(Ch.base b).extk o
 refine pu (vb (!(i_within a 0 1048576))) wN ?_
 refine n2 ?_
 rcases bf (i_within a 0 1048576) with i|i
 ·have aj:=oe i
  refine ct (cA not i)<|sr<|aw (vs none 0 0) ?_
  refine n1<|rt (vs none 0 0) ?_
  refine ⟨B.keep0,?_⟩
  have N:pb a=[]:=by first|exact uk (by omega)|exact AB (by omega) (by omega) (by omega) (by omega)
  rw [N]
  exact ⟨_,_,rfl,(nM _ _ _ _),(by simp),⟨trivial,trivial⟩⟩
 have ak:=nD i
 refine cf (cA not i)<|y1<|ltB ([128]:List UInt8) wN mR ?_
 intro p q A r O
 have P:=B.extk r
 refine aw (vs p ([128]:List UInt8).length q) ?_
 refine mW<|mP<|nh<|ng ?_
 have C:(([128]:List UInt8):List UInt8)=[(128:UInt8)]++List.replicate 0 (0:UInt8):=by first|rfl|(rw [List.replicate_succ',List.append_assoc])
 refine oa [(0,(vi a)),(2,(vs none 0 0)),(3,(.slice p ([(128:UInt8)]++List.replicate 0 (0:UInt8)).length q))] ⟨rfl,rfl,(cA (fun l:List UInt8=>Value.slice p l.length q) C),trivial⟩ (fun e' d=>∃ (j:Nat) (D:Env) (e:Option Addr) (f:Nat),e'=pt D [(0,(vi a)),(2,(vs none 0 0)),(3,(.slice e ([(128:UInt8)]++List.replicate j (0:UInt8)).length f))]∧Ch (fun k=>b.heap.size≤k) b d∧Ch (fun k=>h.heap.size≤k) A d∧((j:Nat):Int)≤(64 - (a+9) % 64) % 64∧(World.ownsRow d h.heap.size 5 1 (.slice e ([(128:UInt8)]++List.replicate j (0:UInt8)).length f) ([(128:UInt8)]++List.replicate j (0:UInt8)).length (([(128:UInt8)]++List.replicate j (0:UInt8)).map bV)∧([(128:UInt8)]++List.replicate j (0:UInt8)).length≤1073741824)) (fun e' _=>100 - (lenOf (e' 3))) ?_ ?_
 ·exact fun u=>⟨0,u,p,q,rfl,P,(Ch.refl (fun k=>h.heap.size≤k) A),(by omega),(C ▸ ⟨O,(by simp)⟩)⟩
 ·rintro _ Q ⟨j,D,e,f,rfl,E,s,am,⟨g,an⟩⟩
  have hpl:([(128:UInt8)]++List.replicate j (0:UInt8)).length=1+j:=by rw [List.length_append,List.length_replicate];rfl
  refine nh<|sr<|mw (vi a) ?_
  refine mw (vs e ([(128:UInt8)]++List.replicate j (0:UInt8)).length f) ?_
  refine ln wN mR (Rd.of_own g) ?_
  refine ar (a+(([(128:UInt8)]++List.replicate j (0:UInt8)).length:Int)) wN ?_
  refine ar ((a+(([(128:UInt8)]++List.replicate j (0:UInt8)).length:Int))+8) wN ?_
  refine qp ((a+(([(128:UInt8)]++List.replicate j (0:UInt8)).length:Int))+8) 64 wN rfl rfl (by kernel_rfl) (by first|omega|assumption) ?_
  refine pu (vb (!(decide ((((a+(([(128:UInt8)]++List.replicate j (0:UInt8)).length:Int))+8) % 64)=0)))) wN ?_
  refine n2 ?_
  rcases bf (decide ((((a+(([(128:UInt8)]++List.replicate j (0:UInt8)).length:Int))+8) % 64)=0)) with m|m
  ·have ao:=dF m
   refine ct (cA not m)<|nm<|mP<|ng<|mV ?_
   refine mw (vs e ([(128:UInt8)]++List.replicate j (0:UInt8)).length f) ?_
   refine ltB ([0]:List UInt8) wN mR ?_
   intro ap aq R t S
   have T:=(mz g t)
   refine apB ([(128:UInt8)]++List.replicate j (0:UInt8)) ([0]:List UInt8) wN mR T (Rd.of_own S) (z3 r s t) ?_
   intro w x F G V au W
   have X:=(E.extk t).ext G (fun k hk=>nT o.size (nb g k hk).1)
   refine aw (vs w (([(128:UInt8)]++List.replicate j (0:UInt8))++([0]:List UInt8)).length x) ?_
   refine mW<|mQ ?_
   have H:((([(128:UInt8)]++List.replicate j (0:UInt8))++([0]:List UInt8)):List UInt8)=[(128:UInt8)]++List.replicate (j+1) (0:UInt8):=by first|rfl|(rw [List.replicate_succ',List.append_assoc])
   refine nX (w0:=Q) [(0,(vi a)),(2,(vs none 0 0)),(3,(.slice w ([(128:UInt8)]++List.replicate (j+1) (0:UInt8)).length x))] ?_ ?_ ?_
   · exact ⟨rfl,rfl,(cA (fun l:List UInt8=>Value.slice w l.length x) H),trivial⟩
   · exact fun u=>⟨(j+1),u,w,x,rfl,X,((((Ch.refl (fun k=>h.heap.size≤k) A).ext s (fun k hk=>hk)).extk t).ext G (fun k hk=>nT (Nat.le_refl h.heap.size) (nb g k hk).1)),(by omega),(H ▸ ⟨V,W⟩)⟩
   · show 100 - ([(128:UInt8)]++List.replicate (j+1) (0:UInt8)).length < 100 - ([(128:UInt8)]++List.replicate j (0:UInt8)).length;simp only [List.length_append,List.length_cons,List.length_nil,List.length_replicate];omega
  have av:=dT m
  refine cf (cA not m)<|oh<|mU<|mU<|nq<|mP<|sr<|mw (vs e ([(128:UInt8)]++List.replicate j (0:UInt8)).length f) ?_
  refine ltB ([0,0]:List UInt8) wN mR ?_
  intro ax ay R y Y
  have Z:=(mz g y)
  refine apB ([(128:UInt8)]++List.replicate j (0:UInt8)) ([0,0]:List UInt8) wN mR Z (Rd.of_own Y) (z3 r s y) ?_
  intro I J F K aa az ab
  have ac:=(E.extk y).ext K (fun k hk=>nT o.size (nb g k hk).1)
  refine aw (vs I (([(128:UInt8)]++List.replicate j (0:UInt8))++([0,0]:List UInt8)).length J) ?_
  refine nx<|mw (vs I (([(128:UInt8)]++List.replicate j (0:UInt8))++([0,0]:List UInt8)).length J) ?_
  refine mw (vi a) ?_
  refine ar (8*a) wN ?_
  refine cl wN (vU F _ (([(128:UInt8)]++List.replicate j (0:UInt8))++([0,0]:List UInt8)) (nH (Rd.of_own aa) ab) (8*a) 6 (by first|omega|(simp;done)|(simp;omega)|(simp only [List.length_append,List.length_cons,List.length_nil] at *;omega))) ?_
  rintro _ a0 ⟨ad,⟨L,M,rfl,ae,af,a1⟩⟩
  have ah:=ac.extk ad
  have a2:=qe (([(128:UInt8)]++List.replicate j (0:UInt8))++([0,0]:List UInt8)) (8*a) 6
  refine aw (vs L (pB (([(128:UInt8)]++List.replicate j (0:UInt8))++([0,0]:List UInt8)) (8*a) 6).length M) ?_
  refine n3<|rt (vs L (pB (([(128:UInt8)]++List.replicate j (0:UInt8))++([0,0]:List UInt8)) (8*a) 6).length M) ?_
  refine ⟨ah.keep0,?_⟩
  have ai:pb a=(pB (([(128:UInt8)]++List.replicate j (0:UInt8))++([0,0]:List UInt8)) (8*a) 6):=by first|exact uk (by omega)|exact AB (by omega) (by omega) (by omega) (by omega)
  rw [ai]
  exact ⟨_,_,rfl,(mO ae (z5 o r s y K)),af,⟨trivial,trivial⟩⟩

theorem ww (b:World) (s:Value) (a:List Int) (J:xQ b s a) (P:a.length=8):Fn Tryz.prog 129 #[s] b (fun v f=>Keep b f∧rr f b.heap.size v (oI a)):=by
 obtain ⟨g,h,rfl,p,Q⟩:=J
 refine nu (n:=18) [(vs g a.length h)] Tryz.func129 rfl rfl ?_
 refine sr<|aw (vs none 0 0) ?_
 refine nx<|nF wN rfl rfl mR (fun w=>by kernel_rfl) ?_
 intro q r t K
 have y:=(Ch.base b).extk t
 refine aw (vs (some q) 0 0) ?_
 refine n4<|mw (vs g a.length h) ?_
 refine ln wN nf (p.from0 y) ?_
 refine mw (vi 0) ?_
 refine mW<|mP<|ng ?_
 have A:([]:List UInt8)=oI (a.take 0):=by rfl
 have B:0=(oI (a.take 0)).length:=by rw [← A];try (first|rfl|simp only [List.length_set]|simp)
 refine oa [(2,(vs none 0 0)),(3,(.slice (some q) (oI (a.take 0)).length 0)),(7,(vs g a.length h)),(8,(vi (a.length:Int))),(9,(vi ((0:Nat):Int)))] ⟨rfl,rfl,rfl,rfl,(cA (Value.int .i64) (show (0:Int)=((0:Nat):Int) by omega)),trivial⟩ (fun e' f=>∃ (k:Nat) (C:Env) (d:Option Addr) (e:Nat),e'=pt C [(2,(vs none 0 0)),(3,(.slice d (oI (a.take k)).length e)),(7,(vs g a.length h)),(8,(vi (a.length:Int))),(9,(vi ((k:Nat):Int)))]∧Ch (fun k=>b.heap.size≤k) b f∧Ch (fun k=>b.heap.size≤k) r f∧k≤a.length∧(World.ownsRow f b.heap.size 5 1 (.slice d (oI (a.take k)).length e) (oI (a.take k)).length ((oI (a.take k)).map bV)∧(oI (a.take k)).length≤1073741824)) (fun e' _=>a.length - ((intOf (e' 9))).toNat) ?_ ?_
 ·exact fun u=>⟨0,u,(some q),0,rfl,y,(Ch.refl (fun k=>b.heap.size≤k) r),(by omega),⟨(by rw [← B,← A];exact K),(by rw [← B];first|exact (by simp)|(simp only [List.length_append,List.length_take,List.length_replicate];omega))⟩⟩
 ·rintro _ D ⟨k,C,d,e,rfl,j,E,R,⟨F,G⟩⟩
  have hwl:=sg (a.take k)
  have htl:(a.take k).length=min k a.length:=List.length_take
  refine sr<|pu (vb (decide (((k:Nat):Int) < (a.length:Int)))) wN ?_
  refine mW<|mP<|nh ?_
  rcases bf (decide (((k:Nat):Int) < (a.length:Int))) with i|i
  ·have S:=dF i
   refine cf i<|oh<|mU<|mU<|nq<|mP<|sr<|mw (vs d (oI (a.take k)).length e) ?_
   refine aw (vs d (oI (a.take k)).length e) ?_
   refine n3<|rt (vs d (oI (a.take k)).length e) ?_
   refine ⟨j.keep0,?_⟩
   have L:oI a=(oI (a.take k)):=by exact vl (by omega)
   rw [L]
   exact ⟨_,_,rfl,F,G,⟨trivial,trivial⟩⟩
  have T:=dT i
  refine ct i<|nm<|mP<|nh<|ng<|sr<|ix wN ((k:Nat):Int) nf (p.from0 j) ?_
  refine ei (x:=a) k wN mT (p.from0 j) ?_
  refine aw (vi (a.getD k 0)) ?_
  refine mW<|mP<|mV ?_
  refine mw (vs d (oI (a.take k)).length e) ?_
  refine mw (vi (a.getD k 0)) ?_
  refine cl wN (vU D _ (oI (a.take k)) (nH (Rd.of_own F) G) (a.getD k 0) 4 (by first|omega|(simp;done)|(simp;omega)|(simp only [List.length_append,List.length_cons,List.length_nil] at *;omega))) ?_
  rintro _ V ⟨H,⟨m,o,rfl,M,N,W⟩⟩
  have O:=j.extk H
  have X:=qe (oI (a.take k)) (a.getD k 0) 4
  refine aw (vs m (pB (oI (a.take k)) (a.getD k 0) 4).length o) ?_
  refine mW<|mQ<|mP<|mV ?_
  refine ar (((k:Nat):Int)+1) wN ?_
  refine mw (vi (((k:Nat):Int)+1)) ?_
  refine mW ?_
  have I:((pB (oI (a.take k)) (a.getD k 0) 4):List UInt8)=oI (a.take (k+1)):=by exact ue (by omega)
  refine nX (w0:=D) [(2,(vs none 0 0)),(3,(.slice m (oI (a.take (k+1))).length o)),(7,(vs g a.length h)),(8,(vi (a.length:Int))),(9,(vi (((k+1):Nat):Int)))] ?_ ?_ ?_
  · exact ⟨rfl,(cA (fun l:List UInt8=>Value.slice m l.length o) I),rfl,rfl,(cA (Value.int .i64) (show ((((k:Nat):Int)+1):Int)=(((k+1):Nat):Int) by omega)),trivial⟩
  · exact fun u=>⟨(k+1),u,m,o,rfl,O,(((Ch.refl (fun k=>b.heap.size≤k) r).ext E (fun k hk=>hk)).extk H),(by omega),(I ▸ ⟨(mO M (z2 t E)),N⟩)⟩
  · show a.length - ((((k+1):Nat):Int)).toNat < a.length - (((k:Nat):Int)).toNat;omega

def qx (a:PHash):(List UInt8):=bif (pg a) then ((oI ((nE a.H (ns [a.Held,(pb a.N)])).1))) else ([])
theorem yX (r:World) (I:Value) (a:PHash) (aa:Ao r I a) :Fn Tryz.prog 90 #[I] r (fun v J=>Keep r J∧rr J r.heap.size v (qx a)):=by
 obtain ⟨d,f,g,i,rfl,K,M,O,P⟩:=aa
 refine nu (n:=23) [(va (tg a d f g i))] Tryz.func90 rfl rfl ?_
 refine sr<|bx (tg a d f g i) wN ?_
 intro p s bc bd Q B
 have E:=(Ch.base r).extk Q
 refine aw (vs none 0 0) ?_
 refine n4<|lN (tg a d f g i) wN rH qa B ?_
 refine cl wN (xe s _ a (wP (K.from0 E) M (O.from0 E) P)) ?_
 rintro _ F ⟨t,rfl⟩
 have C:=E.extk t
 refine pu (vb (!(pg a))) wN ?_
 refine n2 ?_
 rcases bf (pg a) with q|q
 ·refine ct (cA not q)<|sr<|aw (vs none 0 0) ?_
  refine n1<|rt (vs none 0 0) ?_
  refine ⟨C.keep0,?_⟩
  simp only [qx,q,cond_true,cond_false]
  exact ⟨_,_,rfl,(nM _ _ _ _),(by simp),⟨trivial,trivial⟩⟩
 have be:=tq q
 refine cf (cA not q)<|nm<|mP<|nh<|qB ([(9,[],[],(fun _ v _=>v=(vp p 0))),(10,[],[0],(fun _ v _=>v=(vs d a.H.length f))),(11,[],[],(fun _ v _=>v=(vp p 1))),(12,[],[2],(fun _ v _=>v=(vs g a.Held.length i))),(13,[],[],(fun _ v _=>v=(vp p 2))),(14,[],[4],(fun _ v _=>v=(vi a.N))),(15,[],[4,5],(fun _ v w=>rr w F.heap.size v (pb a.N))),(16,[15],[2,3,4,5,6],(fun e v w=>∃ (d:Option Addr) (u:Nat),v=.slice d 2 u∧w.ownsRow F.heap.size 22 1 (.slice d 2 u) 2 [(vs g a.Held.length i),(e 15)])),(17,[15],[2,3,4,5,6,7],(fun e v w=>As w F.heap.size v (ns [a.Held,(pb a.N)]) (fun ab=>Ap (sp (e 15)) ab))),(18,[],[0,1,2,3,4,5,6,7,8],(fun _ v w=>∃ (d:Option Addr) (u:Nat) (R:Option Addr) (f:Nat),v=.tuple #[.slice d ((nE a.H (ns [a.Held,(pb a.N)])).1).length u,.slice R ((nE a.H (ns [a.Held,(pb a.N)])).2).length f]∧Rd w 1 (.slice d ((nE a.H (ns [a.Held,(pb a.N)])).1).length u) ((nE a.H (ns [a.Held,(pb a.N)])).1).length (((nE a.H (ns [a.Held,(pb a.N)])).1).map iV)∧((nE a.H (ns [a.Held,(pb a.N)])).1).length≤1073741824∧Rd w 1 (.slice R ((nE a.H (ns [a.Held,(pb a.N)])).2).length f) ((nE a.H (ns [a.Held,(pb a.N)])).2).length (((nE a.H (ns [a.Held,(pb a.N)])).2).map bV)∧((nE a.H (ns [a.Held,(pb a.N)])).2).length≤1073741824)),(8,[18],[0,1,2,3,4,5,6,7,8,9],(fun e v _=>v=(.tuple #[(qZ (e 18) 0),(qZ (e 18) 1)]))),(19,[18],[0,1,2,3,4,5,6,7,8,9,10],(fun e v _=>v=(qZ (e 18) 0))),(20,[18],[0,1,2,3,4,5,6,7,8,9,10],(fun e v _=>v=(qZ (e 18) 1))),(3,[18],[0,1,2,3,4,5,6,7,8,9,10,11],(fun e v _=>v=(qZ (e 18) 0)))]:GV) oM rfl (by kernel_rfl) (by kernel_rfl) ?_ ?_ ?_
 ·exact ⟨hV,hE,⟨hV,hE,⟨hV,hE,⟨hV,hE,⟨hV,hE,⟨hV,hE,⟨(fun e v w s h hk=>by obtain ⟨j,k,he,l,x,hap⟩:=h;exact ⟨j,k,he,mz l hk,x,hap⟩),hE,⟨(fun e v w s h hk=>by obtain ⟨j,k,he,l⟩:=h;exact ⟨j,k,he,mz l hk⟩),(fun y A v w hx h=>by have G:=hx 15 (by simp);simp only [G] at h;exact h),⟨(fun e v w s h hk=>by obtain ⟨j,k,he,l,x,hap,hx⟩:=h;exact ⟨j,k,he,mz l hk,x,hap,hx⟩),(fun y A v w hx h=>by have G:=hx 15 (by simp);simp only [G] at h;exact h),⟨(fun e v w s h hk=>by obtain ⟨j,k,ac,ad,he,l,x,ae,af⟩:=h;exact ⟨j,k,ac,ad,he,Rd.kp l hk,x,Rd.kp ae hk,af⟩),hE,⟨hV,(fun y A v w hx h=>by have o:=hx 18 (by simp);simp only [o] at h;exact h),⟨hV,(fun y A v w hx h=>by have o:=hx 18 (by simp);simp only [o] at h;exact h),⟨hV,(fun y A v w hx h=>by have o:=hx 18 (by simp);simp only [o] at h;exact h),⟨hV,(fun y A v w hx h=>by have o:=hx 18 (by simp);simp only [o] at h;exact h),trivial⟩⟩⟩⟩⟩⟩⟩⟩⟩⟩⟩⟩⟩⟩
 ·refine ⟨?_,⟨?_,⟨?_,⟨?_,⟨?_,⟨?_,⟨?_,⟨?_,⟨?_,⟨?_,⟨?_,⟨?_,⟨?_,⟨?_,trivial⟩⟩⟩⟩⟩⟩⟩⟩⟩⟩⟩⟩⟩⟩
  ·intro b bg
   iterate 14 intro _
   refine sw<|pu (vp p 0) wN ?_
   exact f2
  ·intro b ah
   rintro _ rfl;iterate 13 intro _
   refine sw ?_
   have ai:=((B.kp t).kp ah)
   refine ld (vs d a.H.length f) wN oA ai ?_
   exact f2
  ·intro b bh
   iterate 14 intro _
   refine sw<|pu (vp p 1) wN ?_
   exact f2
  ·intro b aj
   rintro _ _ _ rfl _ _ _ _ _ _ _ _ _ _ _
   refine sw ?_
   have ak:=((B.kp t).kp aj)
   refine ld (vs g a.Held.length i) wN nd ak ?_
   exact f2
  ·intro b bi
   iterate 14 intro _
   refine sw<|pu (vp p 2) wN ?_
   exact f2
  ·intro b am
   rintro _ _ _ _ _ rfl _ _ _ _ _ _ _ _ _
   refine sw ?_
   have an:=((B.kp t).kp am)
   refine ld (vi a.N) wN mT an ?_
   exact f2
  ·intro b ao
   rintro _ _ _ _ _ rfl _ rfl _ _ _ _ _ _ _ _
   refine sw<|cl wN (CY b a.N) ?_
   rintro _ D ⟨ap,⟨bj,bk,rfl,aq,au,av⟩⟩
   have bl:=qk a.N
   exact rB ap ⟨_,_,rfl,(mO aq ao.size),au,av⟩
  ·intro b ax
   rintro _ _ _ rfl _ rfl _ rfl _ rfl _ ⟨ay,az,rfl,_⟩
   have bm:=qk a.N
   rintro _ _ _ _ _ _ _
   refine sw<|sh [(vs g a.Held.length i),(vs ay (pb a.N).length az)] wN rfl rfl qG (m:=2) rfl (by simp only [maxLen];omega) (fun w=>by kernel_rfl) ?_
   intro bn D a0 S
   obtain ⟨bo,bp,rfl⟩:=pe S
   exact rB a0 ⟨_,_,rfl,mO S ax.size⟩
  ·intro b T
   have a1:=C.extk T
   rintro _ _ _ rfl _ rfl _ rfl _ rfl _ ⟨a2,a3,rfl,V,a4,bq⟩
   have br:=qk a.N
   rintro _ ⟨bu,bv,rfl,a5⟩ _ _ _ _ _ _
   refine sw<|cl wN (rz b _ [a.Held,(pb a.N)] (tF (RLv.mk (L:=vh) [(a.Held,[(g,i)]),((pb a.N),[(a2,a3)])] (Rd.of_own a5) rfl ⟨⟨⟨(O.from0 a1),P⟩,trivial⟩,⟨⟨⟨(Rd.of_own V),a4⟩,trivial⟩,trivial⟩⟩ (by first|decide|exact Nat.le_of_ble_eq_true rfl)) (by first|decide|exact Nat.le_of_ble_eq_true rfl)) (by first|omega|(rw [pG];omega)|(rw [pG];simp only [List.length_cons,List.length_nil,ou];omega)|(rw [rv];simp only [List.length_cons,List.length_nil,ou];omega)|(simp only [ns,List.flatten_cons,List.flatten_nil,List.length_append,List.length_cons,List.length_nil,ou];omega))) ?_
   rintro _ D ⟨a6,⟨bw,bz,rfl,W,a7,a8⟩⟩
   have b0:=(show (ns [a.Held,(pb a.N)]).length=a.Held.length+(pb a.N).length by simp only [ns,List.flatten_cons,List.flatten_nil,List.length_append,List.length_cons,List.length_nil];omega)
   exact rB a6 ⟨_,_,rfl,(mO W T.size),a7,a8,(Ap.lt V W (Nat.le_refl _))⟩
  ·intro b a9
   have aA:=C.extk a9
   rintro _ rfl _ rfl _ rfl _ rfl _ rfl _ rfl _ ⟨b1,b2,rfl,_⟩
   have b3:=qk a.N
   rintro _ ⟨b4,b5,rfl,b6⟩ _ ⟨b7,b8,rfl,aB,aC,_⟩
   have b9:=(show (ns [a.Held,(pb a.N)]).length=a.Held.length+(pb a.N).length by simp only [ns,List.flatten_cons,List.flatten_nil,List.length_append,List.length_cons,List.length_nil];omega)
   rintro _ _ _ _ _
   refine sw<|cl wN (sE b _ a.H (rX (K.from0 aA) M) _ (ns [a.Held,(pb a.N)]) (nH (Rd.of_own aB) aC)) ?_
   rintro _ D ⟨aD,⟨bA,bB,bC,bD,rfl,aE,aF,aG,aH⟩⟩
   exact rB aD ⟨_,_,_,_,rfl,aE,aF,aG,aH⟩
  ·intro b bE
   rintro _ rfl _ rfl _ rfl _ rfl _ rfl _ rfl _ ⟨bF,bG,rfl,_⟩
   have bH:=qk a.N
   rintro _ ⟨bI,bJ,rfl,bK⟩ _ ⟨bL,bM,rfl,_⟩
   have bN:=(show (ns [a.Held,(pb a.N)]).length=a.Held.length+(pb a.N).length by simp only [ns,List.flatten_cons,List.flatten_nil,List.length_append,List.length_cons,List.length_nil];omega)
   rintro _ ⟨aI,aJ,aK,aL,rfl,_⟩ _ _ _ _
   refine sw<|mw (.tuple #[(vs aI ((nE a.H (ns [a.Held,(pb a.N)])).1).length aJ),(vs aK ((nE a.H (ns [a.Held,(pb a.N)])).2).length aL)]) ?_
   exact f2
  ·intro b bO
   rintro _ rfl _ rfl _ rfl _ rfl _ rfl _ rfl _ ⟨bP,bQ,rfl,_⟩
   have bR:=qk a.N
   rintro _ ⟨bS,bT,rfl,bU⟩ _ ⟨bW,bX,rfl,_⟩
   have bY:=(show (ns [a.Held,(pb a.N)]).length=a.Held.length+(pb a.N).length by simp only [ns,List.flatten_cons,List.flatten_nil,List.length_append,List.length_cons,List.length_nil];omega)
   rintro _ ⟨aM,aN,bZ,ca,rfl,_⟩ _ rfl _ _ _
   refine sw<|pu (vs aM ((nE a.H (ns [a.Held,(pb a.N)])).1).length aN) wN ?_
   exact f2
  ·intro b cb
   rintro _ rfl _ rfl _ rfl _ rfl _ rfl _ rfl _ ⟨cc,cd,rfl,_⟩
   have ce:=qk a.N
   rintro _ ⟨cg,ci,rfl,cj⟩ _ ⟨ck,cm,rfl,_⟩
   have cn:=(show (ns [a.Held,(pb a.N)]).length=a.Held.length+(pb a.N).length by simp only [ns,List.flatten_cons,List.flatten_nil,List.length_append,List.length_cons,List.length_nil];omega)
   rintro _ ⟨co,cp,aO,aP,rfl,_⟩ _ rfl _ _ _
   refine sw<|pu (vs aO ((nE a.H (ns [a.Held,(pb a.N)])).2).length aP) wN ?_
   exact f2
  ·intro b cq
   rintro _ rfl _ rfl _ rfl _ rfl _ rfl _ rfl _ ⟨cr,cs,rfl,_⟩
   have cu:=qk a.N
   rintro _ ⟨cv,cw,rfl,cy⟩ _ ⟨cz,c0,rfl,_⟩
   have c1:=(show (ns [a.Held,(pb a.N)]).length=a.Held.length+(pb a.N).length by simp only [ns,List.flatten_cons,List.flatten_nil,List.length_append,List.length_cons,List.length_nil];omega)
   rintro _ ⟨aQ,aR,c2,c3,rfl,_⟩ _ rfl _ rfl _ _
   refine sw<|aw (vs aQ ((nE a.H (ns [a.Held,(pb a.N)])).1).length aR) ?_
   exact f2
 ·intro b X
  rintro _ rfl _ rfl _ rfl _ rfl _ rfl _ rfl _ ⟨c4,c5,rfl,_⟩
  have c6:=qk a.N
  rintro _ ⟨c7,c8,rfl,c9⟩ _ ⟨cC,cD,rfl,_⟩
  have cE:=(show (ns [a.Held,(pb a.N)]).length=a.Held.length+(pb a.N).length by simp only [ns,List.flatten_cons,List.flatten_nil,List.length_append,List.length_cons,List.length_nil];omega)
  rintro _ ⟨aS,aT,aU,aV,rfl,aW,aX,_⟩ _ rfl _ rfl _ rfl _ rfl
  refine sw<|aw (vs aU ((nE a.H (ns [a.Held,(pb a.N)])).2).length aV) ?_
  refine nx<|mw (vs aS ((nE a.H (ns [a.Held,(pb a.N)])).1).length aT) ?_
  refine cl wN (ww b _ ((nE a.H (ns [a.Held,(pb a.N)])).1) (rX aW aX) (by first|omega|exact sy CJ _|exact tN (by first|assumption|exact (tq (by assumption)).1))) ?_
  rintro _ D ⟨aY,⟨Y,Z,rfl,aZ,ba,cF⟩⟩
  have bb:=(C.extk X).extk aY
  refine aw (vs Y (oI ((nE a.H (ns [a.Held,(pb a.N)])).1)).length Z) ?_
  refine n3<|rt (vs Y (oI ((nE a.H (ns [a.Held,(pb a.N)])).1)).length Z) ?_
  refine ⟨bb.keep0,?_⟩
  simp only [qx,q,cond_true,cond_false]
  exact ⟨_,_,rfl,(mO aZ (z3 Q t X)),ba,⟨trivial,trivial⟩⟩

theorem Dh (b:List UInt8) (h:b.length≤1048576):qx (pl pA b)=sha b:=by
  have a:pg pA=true:=rfl
  have hA:pl pA b={H:=(nE k0 b).1,Held:=(nE k0 b).2,N:=(b.length:Int):PHash}:=by
    have d:decide (1048576 - pA.N < (b.length:Int))=false:=decide_eq_false (by show ¬ (1048576 - 0 < (b.length:Int));omega)
    simp only [pl,a,d,cond_true,cond_false]
    simp [pA,ns,Bf]
  have hO:pg {H:=(nE k0 b).1,Held:=(nE k0 b).2,N:=(b.length:Int):PHash}=true:=by
    have hw:rk (nE k0 b).1 8=true:=wu CJ _
    have hl:(nE k0 b).2.length=b.length - 64*(b.length / 64):=List.length_drop
    simp only [pg,hw,hl,i_within,cond_true,cond_eq_ite]
    (repeat' split) <;> first|rfl|(exfalso;simp_all;done)|(rw [decide_eq_true_eq];omega)|(exfalso;simp at *;omega)
  rw [hA,yi h]
  have hp:pb (b.length:Int)=pad b.length:=sN (by omega) (by omega)
  simp only [qx,hO,cond_true,hp]
  simp [ns]
theorem Bw (b:World) (g:Value) (a:List UInt8) (p:pI b g a) :Fn Tryz.prog 52 #[g] b (fun v h=>Keep b h∧rr h b.heap.size v (sha a)):=by
 obtain ⟨e,f,rfl,i,q⟩:=p
 refine nu (n:=10) [(vs e a.length f)] Tryz.func52 rfl rfl ?_
 refine sr<|aw (vs none 0 0) ?_
 refine n4<|mw (vs e a.length f) ?_
 refine ln wN mR i ?_
 refine pu (vb (decide (1048576 < (a.length:Int)))) wN ?_
 refine n2 ?_
 rcases bt (decide (1048576 < (a.length:Int))) with d|d
 ·have J:=dT d
  refine ct d<|sr<|aw (vs none 0 0) ?_
  refine n1<|rt (vs none 0 0) ?_
  refine ⟨Ch.refl _ _,?_⟩
  have r:sha a=[]:=by first|exact zI (by omega)|exact (Dh a (by omega)).symm
  rw [r]
  exact ⟨_,_,rfl,(nM _ _ _ _),(by simp),⟨trivial,trivial⟩⟩
 have K:=dF d
 refine cf d<|y1<|cl wN (yW b ) ?_
 rintro _ s ⟨j,⟨L,M,N,O,rfl,t,u,w,x,P⟩⟩
 have k:=(Ch.base b).extk j
 refine mw (vs e a.length f) ?_
 refine cl wN (yY s _ (pA) (wP (Rd.of_own t) u (Rd.of_own w) x) _ a (nH (i.from0 k) q)) ?_
 rintro _ y ⟨l,⟨Q,R,S,T,rfl,A,B,C,D,V⟩⟩
 refine cl wN (yX y _ (pl (pA) a) (wP (Rd.of_own A) B (Rd.of_own C) D)) ?_
 rintro _ W ⟨E,⟨m,o,rfl,F,G,X⟩⟩
 have H:=(k.extk l).extk E
 refine aw (vs m (qx (pl (pA) a)).length o) ?_
 refine n3<|rt (vs m (qx (pl (pA) a)).length o) ?_
 refine ⟨H.keep0,?_⟩
 have I:sha a=(qx (pl (pA) a)):=by first|exact zI (by omega)|exact (Dh a (by omega)).symm
 rw [I]
 exact ⟨_,_,rfl,(mO F (z2 j l)),G,⟨trivial,trivial⟩⟩

theorem xN (b:World) (K:Value) (a:List UInt8) (ab:pI b K a) :Fn Tryz.prog 157 #[K] b (fun v f=>Keep b f∧rr f b.heap.size v (nc a)):=by
 obtain ⟨h,i,rfl,w,L⟩:=ab
 refine nu (n:=21) [(vs h a.length i)] Tryz.func157 rfl rfl ?_
 refine sr<|aw (vs none 0 0) ?_
 refine n4<|mw (vs h a.length i) ?_
 refine ln wN mR w ?_
 refine pu (vb (decide (1048576 < (a.length:Int)))) wN ?_
 refine n2 ?_
 rcases bt (decide (1048576 < (a.length:Int))) with m|m
 ·have a3:=dT m
  refine ct m<|sr<|aw (vs none 0 0) ?_
  refine n1<|rt (vs none 0 0) ?_
  refine ⟨Ch.refl _ _,?_⟩
  have ac:nc a=[]:=by first|exact qS (by omega)|exact qR (by omega) (by omega) (by omega) (by simp only [List.length_append,List.length_replicate] at *;omega)|exact qQ (by omega) (by omega) (by simp only [List.length_append,List.length_replicate] at *;omega)
  rw [ac]
  exact ⟨_,_,rfl,(nM _ _ _ _),(by simp),⟨trivial,trivial⟩⟩
 have a4:=dF m
 refine cf m<|y1<|mw (vs h a.length i) ?_
 refine cl wN (rA b _ a (nH w L)) ?_
 rintro _ g ⟨x,⟨y,A,rfl,ad,ae,a5⟩⟩
 have B:=(Ch.base b).extk x
 refine aw (vs y (a).length A) ?_
 refine n4<|mw (vs h a.length i) ?_
 refine ln wN mR (w.from0 B) ?_
 refine pu (vb (decide (64 < (a.length:Int)))) wN ?_
 refine n2 ?_
 rcases bf (decide (64 < (a.length:Int))) with o|o
 ·have a6:=dF o
  refine cf o<|nm<|mP<|nh<|ng ?_
  have M:((a):List UInt8)=(a)++List.replicate 0 (0:UInt8):=by simp
  refine oa [(2,(vs none 0 0)),(3,(.slice y ((a)++List.replicate 0 (0:UInt8)).length A))] ⟨rfl,(cA (fun l:List UInt8=>Value.slice y l.length A) M),trivial⟩ (fun e' f=>∃ (j:Nat) (N:Env) (d:Option Addr) (e:Nat),e'=pt N [(2,(vs none 0 0)),(3,(.slice d ((a)++List.replicate j (0:UInt8)).length e))]∧Ch (fun k=>b.heap.size≤k) b f∧Ch (fun k=>b.heap.size≤k) g f∧(a).length+j≤64∧(World.ownsRow f b.heap.size 5 1 (.slice d ((a)++List.replicate j (0:UInt8)).length e) ((a)++List.replicate j (0:UInt8)).length (((a)++List.replicate j (0:UInt8)).map bV)∧((a)++List.replicate j (0:UInt8)).length≤1073741824)) (fun e' _=>64 - (lenOf (e' 3))) ?_ ?_
  ·exact fun u=>⟨0,u,y,A,rfl,B,(Ch.refl (fun k=>b.heap.size≤k) g),(by omega),(M ▸ ⟨ad,ae⟩)⟩
  ·rintro _ p ⟨j,N,d,e,rfl,O,P,a7,⟨q,af⟩⟩
   have hol:((a)++List.replicate j (0:UInt8)).length=(a).length+j:=by rw [List.length_append,List.length_replicate]
   refine nh<|sr<|mw (vs d ((a)++List.replicate j (0:UInt8)).length e) ?_
   refine ln wN mR (Rd.of_own q) ?_
   refine pu (vb (decide ((((a)++List.replicate j (0:UInt8)).length:Int) < 64))) wN ?_
   refine n2 ?_
   rcases bf (decide ((((a)++List.replicate j (0:UInt8)).length:Int) < 64)) with r|r
   ·have a8:=dF r
    refine cf r<|oh<|mU<|mU<|nq<|mP<|sr<|mw (vs d ((a)++List.replicate j (0:UInt8)).length e) ?_
    refine aw (vs d ((a)++List.replicate j (0:UInt8)).length e) ?_
    refine n3<|rt (vs d ((a)++List.replicate j (0:UInt8)).length e) ?_
    refine ⟨O.keep0,?_⟩
    have ah:nc a=((a)++List.replicate j (0:UInt8)):=by first|exact qS (by omega)|exact qR (by omega) (by omega) (by omega) (by simp only [List.length_append,List.length_replicate] at *;omega)|exact qQ (by omega) (by omega) (by simp only [List.length_append,List.length_replicate] at *;omega)
    rw [ah]
    exact ⟨_,_,rfl,q,af,⟨trivial,trivial⟩⟩
   have a9:=dT r
   refine ct r<|nm<|mP<|ng<|mV ?_
   refine mw (vs d ((a)++List.replicate j (0:UInt8)).length e) ?_
   refine ltB ([0]:List UInt8) wN mR ?_
   intro aA aB Q C ai
   have aj:=(mz q C)
   refine apB ((a)++List.replicate j (0:UInt8)) ([0]:List UInt8) wN mR aj (Rd.of_own ai) (z3 x P C) ?_
   intro D E ak R am aC an
   have ao:=(O.extk C).ext R (fun k hk=>nT (Nat.le_refl b.heap.size) (nb q k hk).1)
   refine aw (vs D (((a)++List.replicate j (0:UInt8))++([0]:List UInt8)).length E) ?_
   refine mW<|mQ ?_
   have S:((((a)++List.replicate j (0:UInt8))++([0]:List UInt8)):List UInt8)=(a)++List.replicate (j+1) (0:UInt8):=by rw [List.replicate_succ',List.append_assoc]
   refine nX (w0:=p) [(2,(vs none 0 0)),(3,(.slice D ((a)++List.replicate (j+1) (0:UInt8)).length E))] ?_ ?_ ?_
   · exact ⟨rfl,(cA (fun l:List UInt8=>Value.slice D l.length E) S),trivial⟩
   · exact fun u=>⟨(j+1),u,D,E,rfl,ao,((((Ch.refl (fun k=>b.heap.size≤k) g).ext P (fun k hk=>hk)).extk C).ext R (fun k hk=>nT (Nat.le_refl b.heap.size) (nb q k hk).1)),(by omega),(S ▸ ⟨am,an⟩)⟩
   · show 64 - ((a)++List.replicate (j+1) (0:UInt8)).length < 64 - ((a)++List.replicate j (0:UInt8)).length;simp only [List.length_append,List.length_replicate];omega
 have aD:=dT o
 refine ct o<|mV ?_
 refine mw (vs h a.length i) ?_
 refine cl wN (Bw g _ a (nH (w.from0 B) L)) ?_
 rintro _ p ⟨T,⟨F,G,rfl,ap,aq,aE⟩⟩
 have au:=B.extk T
 have aF:=tb a
 refine aw (vs F (sha a).length G) ?_
 refine mW<|mP<|nh<|ng ?_
 have V:((sha a):List UInt8)=(sha a)++List.replicate 0 (0:UInt8):=by simp
 refine oa [(2,(vs none 0 0)),(3,(.slice F ((sha a)++List.replicate 0 (0:UInt8)).length G))] ⟨rfl,(cA (fun l:List UInt8=>Value.slice F l.length G) V),trivial⟩ (fun e' f=>∃ (j:Nat) (W:Env) (d:Option Addr) (e:Nat),e'=pt W [(2,(vs none 0 0)),(3,(.slice d ((sha a)++List.replicate j (0:UInt8)).length e))]∧Ch (fun k=>b.heap.size≤k) b f∧Ch (fun k=>g.heap.size≤k) p f∧(sha a).length+j≤64∧(World.ownsRow f g.heap.size 5 1 (.slice d ((sha a)++List.replicate j (0:UInt8)).length e) ((sha a)++List.replicate j (0:UInt8)).length (((sha a)++List.replicate j (0:UInt8)).map bV)∧((sha a)++List.replicate j (0:UInt8)).length≤1073741824)) (fun e' _=>64 - (lenOf (e' 3))) ?_ ?_
 ·exact fun u=>⟨0,u,F,G,rfl,au,(Ch.refl (fun k=>g.heap.size≤k) p),(by omega),(V ▸ ⟨ap,aq⟩)⟩
 ·rintro _ Q ⟨j,W,d,e,rfl,X,Y,aG,⟨s,av⟩⟩
  have hol:((sha a)++List.replicate j (0:UInt8)).length=(sha a).length+j:=by rw [List.length_append,List.length_replicate]
  refine nh<|sr<|mw (vs d ((sha a)++List.replicate j (0:UInt8)).length e) ?_
  refine ln wN mR (Rd.of_own s) ?_
  refine pu (vb (decide ((((sha a)++List.replicate j (0:UInt8)).length:Int) < 64))) wN ?_
  refine n2 ?_
  rcases bf (decide ((((sha a)++List.replicate j (0:UInt8)).length:Int) < 64)) with t|t
  ·have aH:=dF t
   refine cf t<|oh<|mU<|mU<|nq<|mP<|sr<|mw (vs d ((sha a)++List.replicate j (0:UInt8)).length e) ?_
   refine aw (vs d ((sha a)++List.replicate j (0:UInt8)).length e) ?_
   refine n3<|rt (vs d ((sha a)++List.replicate j (0:UInt8)).length e) ?_
   refine ⟨X.keep0,?_⟩
   have ax:nc a=((sha a)++List.replicate j (0:UInt8)):=by first|exact qS (by omega)|exact qR (by omega) (by omega) (by omega) (by simp only [List.length_append,List.length_replicate] at *;omega)|exact qQ (by omega) (by omega) (by simp only [List.length_append,List.length_replicate] at *;omega)
   rw [ax]
   exact ⟨_,_,rfl,(mO s x.size),av,⟨trivial,trivial⟩⟩
  have aI:=dT t
  refine ct t<|nm<|mP<|ng<|mV ?_
  refine mw (vs d ((sha a)++List.replicate j (0:UInt8)).length e) ?_
  refine ltB ([0]:List UInt8) wN mR ?_
  intro aJ aK ak H ay
  have az:=(mz s H)
  refine apB ((sha a)++List.replicate j (0:UInt8)) ([0]:List UInt8) wN mR az (Rd.of_own ay) (z3 T Y H) ?_
  intro I J aL Z a0 aM a1
  have a2:=(X.extk H).ext Z (fun k hk=>nT x.size (nb s k hk).1)
  refine aw (vs I (((sha a)++List.replicate j (0:UInt8))++([0]:List UInt8)).length J) ?_
  refine mW<|mQ ?_
  have aa:((((sha a)++List.replicate j (0:UInt8))++([0]:List UInt8)):List UInt8)=(sha a)++List.replicate (j+1) (0:UInt8):=by rw [List.replicate_succ',List.append_assoc]
  refine nX (w0:=Q) [(2,(vs none 0 0)),(3,(.slice I ((sha a)++List.replicate (j+1) (0:UInt8)).length J))] ?_ ?_ ?_
  · exact ⟨rfl,(cA (fun l:List UInt8=>Value.slice I l.length J) aa),trivial⟩
  · exact fun u=>⟨(j+1),u,I,J,rfl,a2,((((Ch.refl (fun k=>g.heap.size≤k) p).ext Y (fun k hk=>hk)).extk H).ext Z (fun k hk=>nT (Nat.le_refl g.heap.size) (nb s k hk).1)),(by omega),(aa ▸ ⟨a0,a1⟩)⟩
  · show 64 - ((sha a)++List.replicate (j+1) (0:UInt8)).length < 64 - ((sha a)++List.replicate j (0:UInt8)).length;simp only [List.length_append,List.length_replicate];omega

theorem xc (d:World) (B:Value) (a:List UInt8) (K:pI d B a) (b:UInt8) :Fn Tryz.prog 158 #[B,(v8 ((b).toNat:Int))] d (fun v g=>Keep d g∧rr g d.heap.size v (om a b)):=by
 obtain ⟨h,i,rfl,s,V⟩:=K
 refine nu (n:=23) [(vs h a.length i),(v8 ((b).toNat:Int))] Tryz.func158 rfl rfl ?_
 refine sr<|aw (vs none 0 0) ?_
 refine nx<|nF wN rfl rfl mR (fun w=>by kernel_rfl) ?_
 intro t A C L
 have D:=(Ch.base d).extk C
 refine aw (vs (some t) 0 0) ?_
 refine n4<|mw (vs h a.length i) ?_
 refine ln wN mR (s.from0 D) ?_
 refine mw (vi 0) ?_
 refine mW<|mP<|ng ?_
 have E:([]:List UInt8)=(a.take 0).map (fun y=>y^^^b):=by rfl
 have F:0=((a.take 0).map (fun y=>y^^^b)).length:=by rw [← E];try (first|rfl|simp only [List.length_set]|simp)
 refine oa [(1,(v8 ((b).toNat:Int))),(4,(vs none 0 0)),(5,(.slice (some t) ((a.take 0).map (fun y=>y^^^b)).length 0)),(9,(vs h a.length i)),(10,(vi (a.length:Int))),(11,(vi ((0:Nat):Int)))] ⟨rfl,rfl,rfl,rfl,rfl,(cA (Value.int .i64) (show (0:Int)=((0:Nat):Int) by omega)),trivial⟩ (fun e' g=>∃ (k:Nat) (G:Env) (e:Option Addr) (f:Nat),e'=pt G [(1,(v8 ((b).toNat:Int))),(4,(vs none 0 0)),(5,(.slice e ((a.take k).map (fun y=>y^^^b)).length f)),(9,(vs h a.length i)),(10,(vi (a.length:Int))),(11,(vi ((k:Nat):Int)))]∧Ch (fun k=>d.heap.size≤k) d g∧Ch (fun k=>d.heap.size≤k) A g∧k≤a.length∧(World.ownsRow g d.heap.size 5 1 (.slice e ((a.take k).map (fun y=>y^^^b)).length f) ((a.take k).map (fun y=>y^^^b)).length (((a.take k).map (fun y=>y^^^b)).map bV)∧((a.take k).map (fun y=>y^^^b)).length≤1073741824)) (fun e' _=>a.length - ((intOf (e' 11))).toNat) ?_ ?_
 ·exact fun u=>⟨0,u,(some t),0,rfl,D,(Ch.refl (fun k=>d.heap.size≤k) A),(by omega),⟨(by rw [← F,← E];exact L),(by rw [← F];first|exact (by simp)|(simp only [List.length_append,List.length_take,List.length_replicate];omega))⟩⟩
 ·rintro _ M ⟨k,G,e,f,rfl,m,H,W,⟨o,N⟩⟩
  have hml:((a.take k).map (fun y=>y^^^b)).length=min k a.length:=by rw [List.length_map,List.length_take]
  refine sr<|pu (vb (decide (((k:Nat):Int) < (a.length:Int)))) wN ?_
  refine mW<|mP<|nh ?_
  rcases bf (decide (((k:Nat):Int) < (a.length:Int))) with j|j
  ·have X:=dF j
   refine cf j<|oh<|mU<|mU<|nq<|mP<|sr<|mw (vs e ((a.take k).map (fun y=>y^^^b)).length f) ?_
   refine aw (vs e ((a.take k).map (fun y=>y^^^b)).length f) ?_
   refine n3<|rt (vs e ((a.take k).map (fun y=>y^^^b)).length f) ?_
   refine ⟨m.keep0,?_⟩
   have O:om a b=((a.take k).map (fun y=>y^^^b)):=by exact (Bd (by omega)).symm
   rw [O]
   exact ⟨_,_,rfl,o,N,⟨trivial,trivial⟩⟩
  have Y:=dT j
  refine ct j<|nm<|mP<|nh<|ng<|sr<|ix wN ((k:Nat):Int) mR (s.from0 m) ?_
  refine eb (x:=a) k wN pP (s.from0 m) ?_
  refine aw (v8 ((a.getD k 0).toNat:Int)) ?_
  refine mW<|mP<|mV ?_
  refine mw (vs e ((a.take k).map (fun y=>y^^^b)).length f) ?_
  refine mw (v8 ((a.getD k 0).toNat:Int)) ?_
  refine mw (v8 ((b).toNat:Int)) ?_
  refine rC (a.getD k 0) (b) wN rfl rfl (by kernel_rfl) ?_
  refine ltB ([((a.getD k 0)^^^(b))]:List UInt8) wN mR ?_
  intro Z aa ab p P
  have Q:=(mz o p)
  refine apB ((a.take k).map (fun y=>y^^^b)) ([((a.getD k 0)^^^(b))]:List UInt8) wN mR Q (Rd.of_own P) (z3 C H p) ?_
  intro q r ac I R ad S
  have T:=(m.extk p).ext I (fun k hk=>nT (Nat.le_refl d.heap.size) (nb o k hk).1)
  refine aw (vs q (((a.take k).map (fun y=>y^^^b))++([((a.getD k 0)^^^(b))]:List UInt8)).length r) ?_
  refine mW<|mQ<|mP<|mV ?_
  refine ar (((k:Nat):Int)+1) wN ?_
  refine mw (vi (((k:Nat):Int)+1)) ?_
  refine mW ?_
  have J:((((a.take k).map (fun y=>y^^^b))++([((a.getD k 0)^^^(b))]:List UInt8)):List UInt8)=(a.take (k+1)).map (fun y=>y^^^b):=by exact wO (z:=0) (by omega)
  refine nX (w0:=M) [(1,(v8 ((b).toNat:Int))),(4,(vs none 0 0)),(5,(.slice q ((a.take (k+1)).map (fun y=>y^^^b)).length r)),(9,(vs h a.length i)),(10,(vi (a.length:Int))),(11,(vi (((k+1):Nat):Int)))] ?_ ?_ ?_
  · exact ⟨rfl,rfl,(cA (fun l:List UInt8=>Value.slice q l.length r) J),rfl,rfl,(cA (Value.int .i64) (show ((((k:Nat):Int)+1):Int)=(((k+1):Nat):Int) by omega)),trivial⟩
  · exact fun u=>⟨(k+1),u,q,r,rfl,T,((((Ch.refl (fun k=>d.heap.size≤k) A).ext H (fun k hk=>hk)).extk p).ext I (fun k hk=>nT (Nat.le_refl d.heap.size) (nb o k hk).1)),(by omega),(J ▸ ⟨R,S⟩)⟩
  · show a.length - ((((k+1):Nat):Int)).toNat < a.length - (((k:Nat):Int)).toNat;omega
end Go.Proofs.YtacoceibbheccaaGreat.K
