import Derived.Test.YtacoceibbheccaaGreatWb7
namespace Go.Proofs.YtacoceibbheccaaGreat.K
open Go.RowKit
set_option linter.unusedVariables false
set_option linter.unusedSimpArgs false
set_option maxRecDepth 100000
set_option maxHeartbeats 4000000
theorem yL (A:World) (au:Value) (a:PChan) (aH:zx A au a) :Fn Tryz.prog 32 #[au] A (fun v H=>Keep A H∧CF H A.heap.size v (a)):=by
 obtain ⟨d,I,J,K,L,M,N,O,P,Q,R,S,rfl,aI,aJ,aK,aL,aM,aN,aO,aP,aQ,aR,aS,aT⟩:=aH
 refine nu (n:=26) [(va (oj a d I J K L M N O P Q R S))] Tryz.func32 rfl rfl ?_
 refine sr<|bx (oj a d I J K L M N O P Q R S) wN ?_
 intro f t cc cd m o
 refine al tT wN pJ ?_
 intro ce p aU u g aV
 have B:=((Ch.base A).extk m).extk g
 refine mW<|mP<|nh<|ob ([(3,[],[],(fun _ v _=>v=(vp f 0))),(4,[],[0],(fun _ v _=>v=(vi a.Role))),(5,[],[],(fun _ v w=>∃ a0:Addr,v=.slice (some a0) 0 0∧w.ownsRow p.heap.size 5 1 (.slice (some a0) 0 0) 0 [])),(6,[],[],(fun _ v _=>v=(vp f 1))),(7,[],[3],(fun _ v _=>v=(vs d a.Sn.length I))),(8,[],[2,3,4],(fun _ v w=>∃ (d:Option Addr) (i:Nat),v=.slice d a.Sn.length i∧w.ownsRow p.heap.size 5 1 (.slice d a.Sn.length i) a.Sn.length (a.Sn.map bV)∧a.Sn.length≤1073741824∧Aps [(d,i)])),(9,[],[],(fun _ v _=>v=(vp f 2))),(10,[],[6],(fun _ v _=>v=(va (oi a.Cur J K L M)))),(11,[8],[2,3,4,5,6,7],(fun e v w=>BE w p.heap.size v a.Cur (fun C D=>Ap (sp (e 8)) C∧Ap (sp (e 8)) D))),(12,[],[],(fun _ v _=>v=(vp f 7))),(13,[],[9],(fun _ v _=>v=(va (oi a.Old N O P Q)))),(14,[],[],(fun _ v _=>v=(vp f 12))),(15,[],[11],(fun _ v _=>v=(vb a.HasOld))),(16,[8,11],[2,3,4,5,6,7,8,9,10,11,12],(fun e v w=>BE w p.heap.size v a.Old (fun C D=>Ap (sp (e 8)) C∧Ap (sp (e 8)) D∧Ap (sp (pr (e 11) 1)) C∧Ap (sp (pr (e 11) 1)) D∧Ap (sp (pr (e 11) 4)) C∧Ap (sp (pr (e 11) 4)) D))),(17,[],[],(fun _ v _=>v=(vp f 12))),(18,[],[14],(fun _ v _=>v=(vb a.HasOld))),(19,[],[],(fun _ v _=>v=(vp f 13))),(20,[],[16],(fun _ v _=>v=(vi a.Until))),(21,[],[],(fun _ v w=>∃ a0:Addr,v=.slice (some a0) 0 0∧w.ownsRow p.heap.size 5 1 (.slice (some a0) 0 0) 0 [])),(22,[],[],(fun _ v _=>v=(vp f 14))),(23,[],[19],(fun _ v _=>v=(vs R a.Next.length S))),(24,[8,11,16],[2,3,4,5,6,7,8,9,10,11,12,13,18,19,20],(fun e v w=>∃ (d:Option Addr) (i:Nat),v=.slice d a.Next.length i∧w.ownsRow p.heap.size 5 1 (.slice d a.Next.length i) a.Next.length (a.Next.map bV)∧a.Next.length≤1073741824∧Aps [(d,i)]∧Ap (sp (e 8)) (d,i)∧Ap (sp (pr (e 11) 1)) (d,i)∧Ap (sp (pr (e 11) 4)) (d,i)∧Ap (sp (pr (e 16) 1)) (d,i)∧Ap (sp (pr (e 16) 4)) (d,i)))]:GV) (fun _ H=>Keep p H) [] oM rfl (by kernel_rfl) (by kernel_rfl) ?_ (fun _ _ h=>h) (fun _ _ _ _ h _ k=>h.trans k) trivial ?_ ?_ ?_
 ·exact ⟨hV,hE,⟨hV,hE,⟨(fun e v w t h hk=>by obtain ⟨j,he,l⟩:=h;exact ⟨j,he,mz l hk⟩),hE,⟨hV,hE,⟨hV,hE,⟨(fun e v w t h hk=>by obtain ⟨j,q,he,l,r,hap⟩:=h;exact ⟨j,q,he,mz l hk,r,hap⟩),hE,⟨hV,hE,⟨hV,hE,⟨(fun e v w t h hk=>by obtain ⟨j,q,aj,ak,he,l,r,am,an,hap,hx⟩:=h;exact ⟨j,q,aj,ak,he,mz l hk,r,mz am hk,an,hap,hx⟩),(fun av ax v w hx h=>by have E:=hx 8 (by simp);simp only [E] at h;exact h),⟨hV,hE,⟨hV,hE,⟨hV,hE,⟨hV,hE,⟨(fun e v w t h hk=>by obtain ⟨j,q,aj,ak,he,l,r,am,an,hap,hx⟩:=h;exact ⟨j,q,aj,ak,he,mz l hk,r,mz am hk,an,hap,hx⟩),(fun av ax v w hx h=>by have E:=hx 8 (by simp);have ao:=hx 11 (by simp);simp only [E,ao] at h;exact h),⟨hV,hE,⟨hV,hE,⟨hV,hE,⟨hV,hE,⟨(fun e v w t h hk=>by obtain ⟨j,he,l⟩:=h;exact ⟨j,he,mz l hk⟩),hE,⟨hV,hE,⟨hV,hE,⟨(fun e v w t h hk=>by obtain ⟨j,q,he,l,r,hap,hx⟩:=h;exact ⟨j,q,he,mz l hk,r,hap,hx⟩),(fun av ax v w hx h=>by have E:=hx 8 (by simp);have ao:=hx 11 (by simp);have aW:=hx 16 (by simp);simp only [E,ao,aW] at h;exact h),trivial⟩⟩⟩⟩⟩⟩⟩⟩⟩⟩⟩⟩⟩⟩⟩⟩⟩⟩⟩⟩⟩⟩
 ·exact trivial
 ·refine ⟨?_,⟨?_,⟨?_,⟨?_,⟨?_,⟨?_,⟨?_,⟨?_,⟨?_,⟨?_,⟨?_,⟨?_,⟨?_,⟨?_,⟨?_,⟨?_,⟨?_,⟨?_,⟨?_,⟨?_,⟨?_,⟨?_,trivial⟩⟩⟩⟩⟩⟩⟩⟩⟩⟩⟩⟩⟩⟩⟩⟩⟩⟩⟩⟩⟩⟩
  ·intro _ b cg _
   iterate 22 intro _
   refine sw<|pu (vp f 0) wN ?_
   exact f1
  ·intro _ b aX _
   rintro _ rfl;iterate 21 intro _
   refine sw ?_
   have aY:=((o.kp g).kp aX)
   refine ld (vi a.Role) wN mT aY ?_
   exact f1
  ·intro _ b aZ _
   iterate 22 intro _
   refine sw<|nF wN rfl rfl mR (fun w=>by kernel_rfl) ?_
   intro ci x ba bb
   exact nK ba ⟨_,rfl,mO bb aZ.size⟩
  ·intro _ b cj _
   iterate 22 intro _
   refine sw<|pu (vp f 1) wN ?_
   exact f1
  ·intro _ b bc _
   rintro _ _ _ _ rfl;iterate 18 intro _
   refine sw ?_
   have bd:=((o.kp g).kp bc)
   refine ld (vs d a.Sn.length I) wN nd bd ?_
   exact f1
  ·intro _ b ay _
   have be:=B.extk ay
   rintro _ _ _ ⟨ck,rfl,bg⟩ _ rfl _ rfl _ _ _ _ _ _ _ _ _ _ _ _ _ _ _ _ _
   refine sw<|ap0 a.Sn wN mR bg (aI.from0 be) ay.size ?_
   intro cm cn x bh bi co
   exact nK bh ⟨_,_,rfl,bi,aJ,⟨trivial,trivial⟩⟩
  ·intro _ b cp _
   iterate 22 intro _
   refine sw<|pu (vp f 2) wN ?_
   exact f1
  ·intro _ b bj _
   rintro _ _ _ _ _ _ _ rfl;iterate 15 intro _
   refine sw ?_
   have bk:=((o.kp g).kp bj)
   refine lN (oi a.Cur J K L M) wN nv mY bk ?_
   exact f1
  ·intro _ b ap _
   have az:=B.extk ap
   rintro _ _ _ ⟨cq,rfl,cr⟩ _ rfl _ rfl _ ⟨cs,cu,rfl,a1,cv,-⟩ _ rfl _ rfl _ _ _ _ _ _ _ _ _ _ _ _ _ _
   refine sw<|cl wN (uM b _ a.Cur (qs (aK.from0 az) aL (aM.from0 az) aN)) ?_
   rintro _ x ⟨bl,⟨cw,cy,cz,c0,rfl,a2,bm,a3,bn,bo⟩⟩
   exact nK bl ⟨_,_,_,_,rfl,(mO a2 ap.size),bm,(mO a3 ap.size),bn,bo,⟨(Ap.lt a1 a2 (Nat.le_refl _)),(Ap.lt a1 a3 (Nat.le_refl _))⟩⟩
  ·intro _ b c1 _
   iterate 22 intro _
   refine sw<|pu (vp f 7) wN ?_
   exact f1
  ·intro _ b bp _
   rintro _ _ _ _ _ _ _ _ _ _ rfl _ _ _ _ _ _ _ _ _ _ _ _
   refine sw ?_
   have bq:=((o.kp g).kp bp)
   refine lN (oi a.Old N O P Q) wN nv mY bq ?_
   exact f1
  ·intro _ b c2 _
   iterate 22 intro _
   refine sw<|pu (vp f 12) wN ?_
   exact f1
  ·intro _ b br _
   rintro _ _ _ _ _ _ _ _ _ _ _ _ rfl _ _ _ _ _ _ _ _ _ _
   refine sw ?_
   have bu:=((o.kp g).kp br)
   refine ld (vb a.HasOld) wN qC bu ?_
   exact f1
  ·intro _ b aq _
   have a4:=B.extk aq
   rintro _ _ _ ⟨c3,rfl,c4⟩ _ rfl _ rfl _ ⟨c5,c6,rfl,a5,c7,-⟩ _ rfl _ rfl _ ⟨c8,c9,cC,cD,rfl,a6,cE,a7,_⟩ _ rfl _ rfl _ rfl _ rfl _ _ _ _ _ _ _ _ _
   refine sw<|cl wN (Bp b _ a.Old (qs (aO.from0 a4) aP (aQ.from0 a4) aR) a.HasOld) ?_
   rintro _ x ⟨bv,⟨cF,cG,cH,cI,rfl,T,bw,V,bz,b0⟩⟩
   exact nK bv ⟨_,_,_,_,rfl,(mO T aq.size),bw,(mO V aq.size),bz,b0,⟨(Ap.lt a5 T (Nat.le_refl _)),(Ap.lt a5 V (Nat.le_refl _)),(Ap.lt a6 T (Nat.le_refl _)),(Ap.lt a6 V (Nat.le_refl _)),(Ap.lt a7 T (Nat.le_refl _)),(Ap.lt a7 V (Nat.le_refl _))⟩⟩
  ·intro _ b cJ _
   iterate 22 intro _
   refine sw<|pu (vp f 12) wN ?_
   exact f1
  ·intro _ b b1 _
   (iterate 15 intro _);rintro rfl _ _ _ _ _ _ _
   refine sw ?_
   have b2:=((o.kp g).kp b1)
   refine ld (vb a.HasOld) wN qC b2 ?_
   exact f1
  ·intro _ b cK _
   iterate 22 intro _
   refine sw<|pu (vp f 13) wN ?_
   exact f1
  ·intro _ b b3 _
   (iterate 17 intro _);rintro rfl _ _ _ _ _
   refine sw ?_
   have b4:=((o.kp g).kp b3)
   refine ld (vi a.Until) wN mT b4 ?_
   exact f1
  ·intro _ b b5 _
   iterate 22 intro _
   refine sw<|nF wN rfl rfl mR (fun w=>by kernel_rfl) ?_
   intro cL x b6 b7
   exact nK b6 ⟨_,rfl,mO b7 b5.size⟩
  ·intro _ b cM _
   iterate 22 intro _
   refine sw<|pu (vp f 14) wN ?_
   exact f1
  ·intro _ b b8 _
   (iterate 20 intro _);rintro rfl _ _
   refine sw ?_
   have b9:=((o.kp g).kp b8)
   refine ld (vs R a.Next.length S) wN nd b9 ?_
   exact f1
  ·intro _ b a8 _
   have bA:=B.extk a8
   rintro _ _ _ ⟨cN,rfl,cO⟩ _ rfl _ rfl _ ⟨cP,cQ,rfl,bB,cR,-⟩ _ rfl _ rfl _ ⟨cS,cT,cU,cV,rfl,bC,cW,bD,_⟩ _ rfl _ rfl _ rfl _ rfl _ ⟨cX,cY,cZ,da,rfl,bE,db,bF,_⟩ _ _ _ _ _ ⟨dc,rfl,bG⟩ _ rfl _ rfl _
   refine sw<|ap0 a.Next wN mR bG (aS.from0 bA) a8.size ?_
   intro dd de x bH bI F
   exact nK bH ⟨_,_,rfl,bI,aT,⟨trivial,trivial⟩,⟨(Ap.new bB F (Nat.le_refl _)),(Ap.new bC F (Nat.le_refl _)),(Ap.new bD F (Nat.le_refl _)),(Ap.new bE F (Nat.le_refl _)),(Ap.new bF F (Nat.le_refl _))⟩⟩
 ·intro _ b a9
  rintro _ rfl _ rfl _ ⟨df,rfl,dg⟩ _ rfl _ rfl _ ⟨W,X,rfl,aA,bJ,-⟩ _ rfl _ rfl _ ⟨Y,Z,aa,ab,rfl,aB,bK,aC,bL,bM,aD⟩ _ rfl _ rfl _ rfl _ rfl _ ⟨ac,ad,ae,af,rfl,aE,bN,aF,bO,bP,y⟩ _ rfl _ rfl _ rfl _ rfl _ ⟨dh,rfl,di⟩ _ rfl _ rfl _ ⟨ah,ai,rfl,aG,bQ,-,G⟩
  refine sw<|pu (va (oj a W X Y Z aa ab ac ad ae af ah ai)) wN ?_
  have bR:=(aV.kp a9)
  refine sv (oj a W X Y Z aa ab ac ad ae af ah ai) wN mX bR ?_
  intro x s bS dj
  have bT:=(B.extk a9).ext s (fun k hk=>by subst hk;exact nT m.size aU)
  refine n3 ?_
  have bU:=(gc aA s (ne1 aA (u)))
  have bW:=(gc aB s (ne1 aB (u)))
  have bX:=(gc aC s (ne1 aC (u)))
  have bY:=(gc aE s (ne1 aE (u)))
  have bZ:=(gc aF s (ne1 aF (u)))
  have ca:=(gc aG s (ne1 aG (u)))
  refine rc (oj a W X Y Z aa ab ac ad ae af ah ai) bS nj mX ?_
  refine ⟨bT.keep0,?_⟩
  have cb:a=a:=by rfl
  rw [cb]
  exact ⟨_,_,_,_,_,_,_,_,_,_,_,_,rfl,(mO bU (z2 m g)),bJ,(mO bW (z2 m g)),bK,(mO bX (z2 m g)),bL,(mO bY (z2 m g)),bN,(mO bZ (z2 m g)),bO,(mO ca (z2 m g)),bQ,⟨⟨(aD.1),⟨(aD.2),⟨(y.1),⟨(y.2.1),⟨(G.1),trivial⟩⟩⟩⟩⟩,⟨⟨(bM.1.1),⟨(y.2.2.1),⟨(y.2.2.2.1),⟨(G.2.1),trivial⟩⟩⟩⟩,⟨⟨(y.2.2.2.2.1),⟨(y.2.2.2.2.2),⟨(G.2.2.1),trivial⟩⟩⟩,⟨⟨(bP.1.1),⟨(G.2.2.2.1),trivial⟩⟩,⟨⟨(G.2.2.2.2),trivial⟩,⟨trivial,trivial⟩⟩⟩⟩⟩⟩⟩

def px (a:PEp):(Bool):=bif (nB a.N 0 4294967295) then (bif (decide ((a.Key.length:Int)=32)) then (bif (nB a.Seq 0 281474976710656) then ((pS a.Win)) else (false)) else (false)) else (false)
theorem wW (f:World) (p:Value) (a:PEp) (u:xn f p a) :Fn Tryz.prog 65 #[p] f (fun v q=>Keep f q∧O_4 q f.heap.size v (px a)):=by
 obtain ⟨i,j,k,l,rfl,w,H,x,y⟩:=u
 refine nu (n:=22) [(va (oi a i j k l))] Tryz.func65 rfl rfl ?_
 refine sr<|bx (oi a i j k l) wN ?_
 intro g A I J B r
 refine aw vF ?_
 refine nx<|pu (vp g 0) wN ?_
 refine ld (vi a.N) wN mT r ?_
 refine cl wN (pv A a.N 0 4294967295) ?_
 rintro _ C ⟨s,rfl⟩
 have h:=((Ch.base f).extk B).extk s
 refine mw (vb (nB a.N 0 4294967295)) ?_
 rcases bf (nB a.N 0 4294967295) with b|b
 ·have K:=og b
  iterate 4 refine sk b ?_
  refine pf vF wN b ?_
  refine mw vF ?_
  iterate 3 refine sk F1 ?_
  refine pf vF wN F1 ?_
  refine mw vF ?_
  iterate 3 refine sk F1 ?_
  refine pf vF wN F1 ?_
  refine aw vF ?_
  refine n3<|rt vF ?_
  refine ⟨h.keep0,?_⟩
  simp only [px,b,cond_true,cond_false]
  exact rfl
 have L:=nS b
 refine pu (vp g 1) (wS b) ?_
 have m:=(r.kp s)
 refine ld (vs i a.Key.length j) (wS b) nd m ?_
 refine ln (wS b) mR (w.from0 h) ?_
 refine pu (vb (decide ((a.Key.length:Int)=32))) (wS b) ?_
 refine pk (vb (decide ((a.Key.length:Int)=32))) wN b ?_
 refine mw (vb (decide ((a.Key.length:Int)=32))) ?_
 rcases bf (decide ((a.Key.length:Int)=32)) with d|d
 ·have M:=dF d
  iterate 3 refine sk d ?_
  refine pf vF wN d ?_
  refine mw vF ?_
  iterate 3 refine sk F1 ?_
  refine pf vF wN F1 ?_
  refine aw vF ?_
  refine n3<|rt vF ?_
  refine ⟨h.keep0,?_⟩
  simp only [px,b,d,cond_true,cond_false]
  exact rfl
 have O:=dT d
 refine pu (vp g 2) (wS d) ?_
 refine ld (vi a.Seq) (wS d) mT m ?_
 refine cl (wS d) (pv C a.Seq 0 281474976710656) ?_
 rintro _ D ⟨t,rfl⟩
 have o:=h.extk t
 refine pk (vb (nB a.Seq 0 281474976710656)) wN d ?_
 refine mw (vb (nB a.Seq 0 281474976710656)) ?_
 rcases bf (nB a.Seq 0 281474976710656) with e|e
 ·have P:=og e
  iterate 3 refine sk e ?_
  refine pf vF wN e ?_
  refine aw vF ?_
  refine n3<|rt vF ?_
  refine ⟨o.keep0,?_⟩
  simp only [px,b,d,e,cond_true,cond_false]
  exact rfl
 have Q:=nS e
 refine pu (vp g 3) (wS e) ?_
 have E:=(m.kp t)
 refine lN (pn a.Win k l) (wS e) nJ ni E ?_
 refine cl (wS e) (yM D _ a.Win (qX (x.from0 o) y)) ?_
 rintro _ R ⟨F,rfl⟩
 have G:=o.extk F
 refine pk (vb (pS a.Win)) wN e ?_
 refine aw (vb (pS a.Win)) ?_
 refine n3<|rt (vb (pS a.Win)) ?_
 refine ⟨G.keep0,?_⟩
 simp only [px,b,d,e,cond_true,cond_false]
 exact rfl
theorem qV {e:PEp} (h:px e=true):0≤e.N∧e.N≤4294967295∧(e.Key.length:Int)=32∧0≤e.Seq∧e.Seq≤281474976710656∧pS e.Win=true:=by
  simp only [px,Bool.cond_false_right,Bool.and_eq_true,decide_eq_true_eq] at h
  have a:=nS h.1
  have b:=nS h.2.2.1
  exact ⟨a.1,a.2,h.2.1,b.1,b.2,h.2.2.2⟩

def pw (a:PEp):(Bool):=bif (decide (a.N=0)) then (bif (decide ((a.Key.length:Int)=0)) then (bif (decide (a.Seq=0)) then (bif (decide (a.Win.Top=0)) then (decide ((a.Win.Bits.length:Int)=0)) else (false)) else (false)) else (false)) else (false)
theorem yJ (i:World) (p:Value) (a:PEp) (r:xn i p a) :Fn Tryz.prog 66 #[p] i (fun v q=>Keep i q∧O_4 q i.heap.size v (pw a)):=by
 obtain ⟨k,l,m,o,rfl,s,w,t,x⟩:=r
 refine nu (n:=30) [(va (oi a k l m o))] Tryz.func66 rfl rfl ?_
 refine sr<|bx (oi a k l m o) wN ?_
 intro g y A B u j
 have h:=(Ch.base i).extk u
 refine aw vF ?_
 refine nx<|pu (vp g 0) wN ?_
 refine ld (vi a.N) wN mT j ?_
 refine pu (vb (decide (a.N=0))) wN ?_
 refine mw (vb (decide (a.N=0))) ?_
 rcases bf (decide (a.N=0)) with b|b
 ·have C:=dF b
  iterate 4 refine sk b ?_
  refine pf vF wN b ?_
  refine mw vF ?_
  iterate 3 refine sk F1 ?_
  refine pf vF wN F1 ?_
  refine mw vF ?_
  iterate 4 refine sk F1 ?_
  refine pf vF wN F1 ?_
  refine mw vF ?_
  iterate 5 refine sk F1 ?_
  refine pf vF wN F1 ?_
  refine aw vF ?_
  refine n3<|rt vF ?_
  refine ⟨h.keep0,?_⟩
  simp only [pw,b,cond_true,cond_false]
  exact rfl
 have D:=dT b
 refine pu (vp g 1) (wS b) ?_
 refine ld (vs k a.Key.length l) (wS b) nd j ?_
 refine ln (wS b) mR (s.from0 h) ?_
 refine pu (vb (decide ((a.Key.length:Int)=0))) (wS b) ?_
 refine pk (vb (decide ((a.Key.length:Int)=0))) wN b ?_
 refine mw (vb (decide ((a.Key.length:Int)=0))) ?_
 rcases bf (decide ((a.Key.length:Int)=0)) with d|d
 ·have E:=dF d
  iterate 3 refine sk d ?_
  refine pf vF wN d ?_
  refine mw vF ?_
  iterate 4 refine sk F1 ?_
  refine pf vF wN F1 ?_
  refine mw vF ?_
  iterate 5 refine sk F1 ?_
  refine pf vF wN F1 ?_
  refine aw vF ?_
  refine n3<|rt vF ?_
  refine ⟨h.keep0,?_⟩
  simp only [pw,b,d,cond_true,cond_false]
  exact rfl
 have F:=dT d
 refine pu (vp g 2) (wS d) ?_
 refine ld (vi a.Seq) (wS d) mT j ?_
 refine pu (vb (decide (a.Seq=0))) (wS d) ?_
 refine pk (vb (decide (a.Seq=0))) wN d ?_
 refine mw (vb (decide (a.Seq=0))) ?_
 rcases bf (decide (a.Seq=0)) with e|e
 ·have G:=dF e
  iterate 4 refine sk e ?_
  refine pf vF wN e ?_
  refine mw vF ?_
  iterate 5 refine sk F1 ?_
  refine pf vF wN F1 ?_
  refine aw vF ?_
  refine n3<|rt vF ?_
  refine ⟨h.keep0,?_⟩
  simp only [pw,b,d,e,cond_true,cond_false]
  exact rfl
 have H:=dT e
 refine pu (vp g 3) (wS e) ?_
 refine pu (vp g 3) (wS e) ?_
 refine ld (vi a.Win.Top) (wS e) mT j ?_
 refine pu (vb (decide (a.Win.Top=0))) (wS e) ?_
 refine pk (vb (decide (a.Win.Top=0))) wN e ?_
 refine mw (vb (decide (a.Win.Top=0))) ?_
 rcases bf (decide (a.Win.Top=0)) with f|f
 ·have I:=dF f
  iterate 5 refine sk f ?_
  refine pf vF wN f ?_
  refine aw vF ?_
  refine n3<|rt vF ?_
  refine ⟨h.keep0,?_⟩
  simp only [pw,b,d,e,f,cond_true,cond_false]
  exact rfl
 have J:=dT f
 refine pu (vp g 3) (wS f) ?_
 refine pu (vp g 4) (wS f) ?_
 refine ld (vs m a.Win.Bits.length o) (wS f) oA j ?_
 refine ln (wS f) nf (t.from0 h) ?_
 refine pu (vb (decide ((a.Win.Bits.length:Int)=0))) (wS f) ?_
 refine pk (vb (decide ((a.Win.Bits.length:Int)=0))) wN f ?_
 refine aw (vb (decide ((a.Win.Bits.length:Int)=0))) ?_
 refine n3<|rt (vb (decide ((a.Win.Bits.length:Int)=0))) ?_
 refine ⟨h.keep0,?_⟩
 simp only [pw,b,d,e,f,cond_true,cond_false]
 exact rfl

def nP (a:PChan):(Bool):=bif (nB a.Role 0 1) then (bif (decide ((a.Sn.length:Int)=12)) then (bif (px a.Cur) then (bif a.HasOld then (bif (decide (a.Role=0)) then (bif (px a.Old) then (bif (decide (a.Old.N=(a.Cur.N - 1))) then (bif (nB a.Until 0 1000005) then (bif (decide ((a.Next.length:Int)=0)) then (true) else (bif (decide ((a.Next.length:Int)=32)) then (decide (a.Cur.N < 4294967295)) else (false))) else (false)) else (false)) else (false)) else (bif (px a.Old) then (bif (decide (a.Old.N=(a.Cur.N - 1))) then (bif (nB a.Until (-1) 1000005) then (bif (decide ((a.Next.length:Int)=0)) then (true) else (false)) else (false)) else (false)) else (false))) else (bif (pw a.Old) then (bif (decide (a.Until=0)) then (bif (decide ((a.Next.length:Int)=0)) then (true) else (bif (decide (a.Role=0)) then (bif (decide ((a.Next.length:Int)=32)) then (decide (a.Cur.N < 4294967295)) else (false)) else (false))) else (false)) else (false))) else (false)) else (false)) else (false)
theorem wZ (F:World) (av:Value) (a:PChan) (a3:zx F av a) :Fn Tryz.prog 27 #[av] F (fun v ax=>Keep F ax∧O_4 ax F.heap.size v (nP a)):=by
 obtain ⟨X,Y,Z,aa,ab,ac,G,H,I,J,A,B,rfl,a4,aZ,a5,a6,a7,a8,ad,ae,af,ah,K,ba⟩:=a3
 refine nu (n:=74) [(va (oj a X Y Z aa ab ac G H I J A B))] Tryz.func27 rfl rfl ?_
 refine sr<|bx (oj a X Y Z aa ab ac G H I J A B) wN ?_
 intro b a9 bb bc aA ay
 have az:=(Ch.base F).extk aA
 refine aw vF ?_
 refine n4<|jT1 [(1,(vp b 0)),(2,vF)] (nP a=false) ?_ fun ai=>?_
 ·intro aB a0 aC bd
  have aD:=az.extk aC
  refine sr<|aw vF ?_
  refine n1<|rt vF ?_
  refine ⟨aD.keep0,?_⟩
  rw [aB]
  exact rfl
 refine pu (vp b 0) wN ?_
 refine ld (vi a.Role) wN mT ay ?_
 refine cl wN (pv a9 a.Role 0 1) ?_
 rintro _ a0 ⟨L,rfl⟩
 have R:=az.extk L
 refine pu (vb (!(nB a.Role 0 1))) wN ?_
 refine mw (vb (!(nB a.Role 0 1))) ?_
 rcases bf (nB a.Role 0 1) with d|d
 ·have be:=og d
  iterate 4 refine sk (cA not d) ?_
  refine pk vT wN (cA not d) ?_
  refine mw vT ?_
  iterate 4 refine sk T1 ?_
  refine pk vT wN T1 ?_
  refine n2<|ct T1 ?_
  have aE:nP a=false:=by simp only [nP,d,cond_true,cond_false]
  exact wj (ai aE _ L)
 have bg:=nS d
 refine pu (vp b 1) (wS (cA not d)) ?_
 have aj:=(ay.kp L)
 refine ld (vs X a.Sn.length Y) (wS (cA not d)) nd aj ?_
 refine ln (wS (cA not d)) mR (a4.from0 R) ?_
 refine pu (vb (!(decide ((a.Sn.length:Int)=12)))) (wS (cA not d)) ?_
 refine pf (vb (!(decide ((a.Sn.length:Int)=12)))) wN (cA not d) ?_
 refine mw (vb (!(decide ((a.Sn.length:Int)=12)))) ?_
 rcases bf (decide ((a.Sn.length:Int)=12)) with e|e
 ·have bh:=dF e
  iterate 4 refine sk (cA not e) ?_
  refine pk vT wN (cA not e) ?_
  refine n2<|ct T1 ?_
  have aF:nP a=false:=by simp only [nP,d,e,cond_true,cond_false]
  exact wj (ai aF _ L)
 have bi:=dT e
 refine pu (vp b 2) (wS (cA not e)) ?_
 refine lN (oi a.Cur Z aa ab ac) (wS (cA not e)) nv mY aj ?_
 refine cl (wS (cA not e)) (wW a0 _ a.Cur (qs (a5.from0 R) a6 (a7.from0 R) a8)) ?_
 rintro _ ak ⟨am,rfl⟩
 have p:=R.extk am
 refine pu (vb (!(px a.Cur))) (wS (cA not e)) ?_
 refine pf (vb (!(px a.Cur))) wN (cA not e) ?_
 refine n2 ?_
 rcases bf (px a.Cur) with g|g
 ·refine ct (cA not g) ?_
  have aG:nP a=false:=by simp only [nP,d,e,g,cond_true,cond_false]
  exact wj (ai aG _ (L.trans am))
 have bj:=qV g
 refine cf (cA not g)<|y2<|pu (vp b 12) wN ?_
 have w:=(aj.kp am)
 refine ld (vb a.HasOld) wN qC w ?_
 refine n2 ?_
 rcases bf a.HasOld with h|h
 ·refine cf h<|sr<|jT1 [(1,(vp b 0)),(2,vF)] (nP a=false) ?_ fun a1=>?_
  ·intro aH C aI bk
   have aJ:=p.extk aI
   refine sr<|aw vF ?_
   refine n1<|rt vF ?_
   refine ⟨aJ.keep0,?_⟩
   rw [aH]
   exact rfl
  refine pu (vp b 7) wN ?_
  refine lN (oi a.Old G H I J) wN nv mY w ?_
  refine cl wN (yJ ak _ a.Old (qs (ad.from0 p) ae (af.from0 p) ah)) ?_
  rintro _ C ⟨S,rfl⟩
  have E:=p.extk S
  refine pu (vb (!(pw a.Old))) wN ?_
  refine mw (vb (!(pw a.Old))) ?_
  rcases bf (pw a.Old) with m|m
  ·iterate 3 refine sk (cA not m) ?_
   refine pk vT wN (cA not m) ?_
   refine n2<|ct T1 ?_
   have aK:nP a=false:=by simp only [nP,d,e,g,h,m,cond_true,cond_false]
   exact wj (a1 aK _ S)
  refine pu (vp b 13) (wS (cA not m)) ?_
  have M:=(w.kp S)
  refine ld (vi a.Until) (wS (cA not m)) mT M ?_
  refine pu (vb (!(decide (a.Until=0)))) (wS (cA not m)) ?_
  refine pf (vb (!(decide (a.Until=0)))) wN (cA not m) ?_
  refine n2 ?_
  rcases bf (decide (a.Until=0)) with s|s
  ·have bl:=dF s
   refine ct (cA not s) ?_
   have aL:nP a=false:=by simp only [nP,d,e,g,h,m,s,cond_true,cond_false]
   exact wj (a1 aL _ S)
  have bm:=dT s
  refine cf (cA not s)<|y2<|pu (vp b 14) wN ?_
  refine ld (vs A a.Next.length B) wN nd M ?_
  refine ln wN mR (K.from0 E) ?_
  refine pu (vb (decide ((a.Next.length:Int)=0))) wN ?_
  refine n2 ?_
  rcases bt (decide ((a.Next.length:Int)=0)) with t|t
  ·have bn:=dT t
   refine ct t<|sr<|aw vT ?_
   refine n1<|rt vT ?_
   refine ⟨E.keep0,?_⟩
   simp only [nP,d,e,g,h,m,s,t,cond_true,cond_false]
   exact rfl
  have bo:=dF t
  refine cf t<|y1<|pu (vp b 0) wN ?_
  refine ld (vi a.Role) wN mT M ?_
  refine pu (vb (decide (a.Role=0))) wN ?_
  refine mw (vb (decide (a.Role=0))) ?_
  rcases bf (decide (a.Role=0)) with o|o
  ·have bp:=dF o
   iterate 4 refine sk o ?_
   refine pf vF wN o ?_
   refine mw vF ?_
   iterate 4 refine sk F1 ?_
   refine pf vF wN F1 ?_
   refine aw vF ?_
   refine n3<|rt vF ?_
   refine ⟨E.keep0,?_⟩
   simp only [nP,d,e,g,h,m,s,t,o,cond_true,cond_false]
   exact rfl
  have bq:=dT o
  refine pu (vp b 14) (wS o) ?_
  refine ld (vs A a.Next.length B) (wS o) nd M ?_
  refine ln (wS o) mR (K.from0 E) ?_
  refine pu (vb (decide ((a.Next.length:Int)=32))) (wS o) ?_
  refine pk (vb (decide ((a.Next.length:Int)=32))) wN o ?_
  refine mw (vb (decide ((a.Next.length:Int)=32))) ?_
  rcases bf (decide ((a.Next.length:Int)=32)) with q|q
  ·have br:=dF q
   iterate 4 refine sk q ?_
   refine pf vF wN q ?_
   refine aw vF ?_
   refine n3<|rt vF ?_
   refine ⟨E.keep0,?_⟩
   simp only [nP,d,e,g,h,m,s,t,o,q,cond_true,cond_false]
   exact rfl
  have bu:=dT q
  refine pu (vp b 2) (wS q) ?_
  refine pu (vp b 2) (wS q) ?_
  refine ld (vi a.Cur.N) (wS q) mT M ?_
  refine pu (vb (decide (a.Cur.N < 4294967295))) (wS q) ?_
  refine pk (vb (decide (a.Cur.N < 4294967295))) wN q ?_
  refine aw (vb (decide (a.Cur.N < 4294967295))) ?_
  refine n3<|rt (vb (decide (a.Cur.N < 4294967295))) ?_
  refine ⟨E.keep0,?_⟩
  simp only [nP,d,e,g,h,m,s,t,o,q,cond_true,cond_false]
  exact rfl
 refine ct h<|sr<|aw (vi (-1)) ?_
 refine n4<|pu (vp b 0) wN ?_
 refine ld (vi a.Role) wN mT w ?_
 refine pu (vb (decide (a.Role=0))) wN ?_
 refine n2 ?_
 rcases bf (decide (a.Role=0)) with f|f
 ·have bv:=dF f
  refine cf f<|y1<|jT1 [(1,(vp b 0)),(2,vF)] (nP a=false) ?_ fun an=>?_
  ·intro aM C aN bw
   have aO:=p.extk aN
   refine sr<|aw vF ?_
   refine n1<|rt vF ?_
   refine ⟨aO.keep0,?_⟩
   rw [aM]
   exact rfl
  refine pu (vp b 7) wN ?_
  refine lN (oi a.Old G H I J) wN nv mY w ?_
  refine cl wN (wW ak _ a.Old (qs (ad.from0 p) ae (af.from0 p) ah)) ?_
  rintro _ C ⟨O,rfl⟩
  refine pu (vb (!(px a.Old))) wN ?_
  refine mw (vb (!(px a.Old))) ?_
  rcases bf (px a.Old) with j|j
  ·iterate 8 refine sk (cA not j) ?_
   refine pk vT wN (cA not j) ?_
   refine mw vT ?_
   iterate 5 refine sk T1 ?_
   refine pk vT wN T1 ?_
   refine n2<|ct T1 ?_
   have aP:nP a=false:=by simp only [nP,d,e,g,h,f,j,cond_true,cond_false]
   exact wj (an aP _ O)
  have bz:=qV j
  refine pu (vp b 7) (wS (cA not j)) ?_
  refine pu (vp b 7) (wS (cA not j)) ?_
  have T:=(w.kp O)
  refine ld (vi a.Old.N) (wS (cA not j)) mT T ?_
  refine pu (vp b 2) (wS (cA not j)) ?_
  refine pu (vp b 2) (wS (cA not j)) ?_
  refine ld (vi a.Cur.N) (wS (cA not j)) mT T ?_
  refine ar (a.Cur.N - 1) (wS (cA not j)) ?_
  refine pu (vb (!(decide (a.Old.N=(a.Cur.N - 1))))) (wS (cA not j)) ?_
  refine pf (vb (!(decide (a.Old.N=(a.Cur.N - 1))))) wN (cA not j) ?_
  refine mw (vb (!(decide (a.Old.N=(a.Cur.N - 1))))) ?_
  rcases bf (decide (a.Old.N=(a.Cur.N - 1))) with l|l
  ·have b0:=dF l
   iterate 5 refine sk (cA not l) ?_
   refine pk vT wN (cA not l) ?_
   refine n2<|ct T1 ?_
   have aQ:nP a=false:=by simp only [nP,d,e,g,h,f,j,l,cond_true,cond_false]
   exact wj (an aQ _ O)
  have b1:=dT l
  refine pu (vp b 13) (wS (cA not l)) ?_
  refine ld (vi a.Until) (wS (cA not l)) mT T ?_
  refine mv (vi (-1)) (wS (cA not l)) ?_
  refine cl (wS (cA not l)) (pv C a.Until (-1) 1000005) ?_
  rintro _ aR ⟨ao,rfl⟩
  have ap:=(p.extk O).extk ao
  refine pu (vb (!(nB a.Until (-1) 1000005))) (wS (cA not l)) ?_
  refine pf (vb (!(nB a.Until (-1) 1000005))) wN (cA not l) ?_
  refine n2 ?_
  rcases bf (nB a.Until (-1) 1000005) with x|x
  ·have b2:=og x
   refine ct (cA not x) ?_
   have aS:nP a=false:=by simp only [nP,d,e,g,h,f,j,l,x,cond_true,cond_false]
   exact wj (an aS _ (O.trans ao))
  have b3:=nS x
  refine cf (cA not x)<|y2<|pu (vp b 14) wN ?_
  have a2:=(T.kp ao)
  refine ld (vs A a.Next.length B) wN nd a2 ?_
  refine ln wN mR (K.from0 ap) ?_
  refine pu (vb (decide ((a.Next.length:Int)=0))) wN ?_
  refine n2 ?_
  rcases bt (decide ((a.Next.length:Int)=0)) with D|D
  ·have b4:=dT D
   refine ct D<|sr<|aw vT ?_
   refine n1<|rt vT ?_
   refine ⟨ap.keep0,?_⟩
   simp only [nP,d,e,g,h,f,j,l,x,D,cond_true,cond_false]
   exact rfl
  have b5:=dF D
  refine cf D<|y1<|pu (vp b 0) wN ?_
  refine ld (vi a.Role) wN mT a2 ?_
  refine pu (vb (decide (a.Role=0))) wN ?_
  refine mw (vb (decide (a.Role=0))) ?_
  iterate 4 refine sk f ?_
  refine pf vF wN f ?_
  refine mw vF ?_
  iterate 4 refine sk F1 ?_
  refine pf vF wN F1 ?_
  refine aw vF ?_
  refine n3<|rt vF ?_
  refine ⟨ap.keep0,?_⟩
  simp only [nP,d,e,g,h,f,j,l,x,D,cond_true,cond_false]
  exact rfl
 have b6:=dT f
 refine ct f<|mV ?_
 refine aw (vi 0) ?_
 refine nx<|jT1 [(1,(vp b 0)),(2,vF)] (nP a=false) ?_ fun aq=>?_
 ·intro aT C aU b7
  have aV:=p.extk aU
  refine sr<|aw vF ?_
  refine n1<|rt vF ?_
  refine ⟨aV.keep0,?_⟩
  rw [aT]
  exact rfl
 refine pu (vp b 7) wN ?_
 refine lN (oi a.Old G H I J) wN nv mY w ?_
 refine cl wN (wW ak _ a.Old (qs (ad.from0 p) ae (af.from0 p) ah)) ?_
 rintro _ C ⟨P,rfl⟩
 refine pu (vb (!(px a.Old))) wN ?_
 refine mw (vb (!(px a.Old))) ?_
 rcases bf (px a.Old) with i|i
 ·iterate 8 refine sk (cA not i) ?_
  refine pk vT wN (cA not i) ?_
  refine mw vT ?_
  iterate 5 refine sk T1 ?_
  refine pk vT wN T1 ?_
  refine n2<|ct T1 ?_
  have aW:nP a=false:=by simp only [nP,d,e,g,h,f,i,cond_true,cond_false]
  exact wj (aq aW _ P)
 have b8:=qV i
 refine pu (vp b 7) (wS (cA not i)) ?_
 refine pu (vp b 7) (wS (cA not i)) ?_
 have V:=(w.kp P)
 refine ld (vi a.Old.N) (wS (cA not i)) mT V ?_
 refine pu (vp b 2) (wS (cA not i)) ?_
 refine pu (vp b 2) (wS (cA not i)) ?_
 refine ld (vi a.Cur.N) (wS (cA not i)) mT V ?_
 refine ar (a.Cur.N - 1) (wS (cA not i)) ?_
 refine pu (vb (!(decide (a.Old.N=(a.Cur.N - 1))))) (wS (cA not i)) ?_
 refine pf (vb (!(decide (a.Old.N=(a.Cur.N - 1))))) wN (cA not i) ?_
 refine mw (vb (!(decide (a.Old.N=(a.Cur.N - 1))))) ?_
 rcases bf (decide (a.Old.N=(a.Cur.N - 1))) with k|k
 ·have b9:=dF k
  iterate 5 refine sk (cA not k) ?_
  refine pk vT wN (cA not k) ?_
  refine n2<|ct T1 ?_
  have aX:nP a=false:=by simp only [nP,d,e,g,h,f,i,k,cond_true,cond_false]
  exact wj (aq aX _ P)
 have bA:=dT k
 refine pu (vp b 13) (wS (cA not k)) ?_
 refine ld (vi a.Until) (wS (cA not k)) mT V ?_
 refine mv (vi 0) (wS (cA not k)) ?_
 refine cl (wS (cA not k)) (pv C a.Until 0 1000005) ?_
 rintro _ aR ⟨au,rfl⟩
 have Q:=(p.extk P).extk au
 refine pu (vb (!(nB a.Until 0 1000005))) (wS (cA not k)) ?_
 refine pf (vb (!(nB a.Until 0 1000005))) wN (cA not k) ?_
 refine n2 ?_
 rcases bf (nB a.Until 0 1000005) with u|u
 ·have bB:=og u
  refine ct (cA not u) ?_
  have aY:nP a=false:=by simp only [nP,d,e,g,h,f,i,k,u,cond_true,cond_false]
  exact wj (aq aY _ (P.trans au))
 have bC:=nS u
 refine cf (cA not u)<|y2<|pu (vp b 14) wN ?_
 have W:=(V.kp au)
 refine ld (vs A a.Next.length B) wN nd W ?_
 refine ln wN mR (K.from0 Q) ?_
 refine pu (vb (decide ((a.Next.length:Int)=0))) wN ?_
 refine n2 ?_
 rcases bt (decide ((a.Next.length:Int)=0)) with y|y
 ·have bD:=dT y
  refine ct y<|sr<|aw vT ?_
  refine n1<|rt vT ?_
  refine ⟨Q.keep0,?_⟩
  simp only [nP,d,e,g,h,f,i,k,u,y,cond_true,cond_false]
  exact rfl
 have bE:=dF y
 refine cf y<|y1<|pu (vp b 0) wN ?_
 refine ld (vi a.Role) wN mT W ?_
 refine pu (vb (decide (a.Role=0))) wN ?_
 refine mw (vb (decide (a.Role=0))) ?_
 refine pu (vp b 14) (wS f) ?_
 refine ld (vs A a.Next.length B) (wS f) nd W ?_
 refine ln (wS f) mR (K.from0 Q) ?_
 refine pu (vb (decide ((a.Next.length:Int)=32))) (wS f) ?_
 refine pk (vb (decide ((a.Next.length:Int)=32))) wN f ?_
 refine mw (vb (decide ((a.Next.length:Int)=32))) ?_
 rcases bf (decide ((a.Next.length:Int)=32)) with r|r
 ·have bF:=dF r
  iterate 4 refine sk r ?_
  refine pf vF wN r ?_
  refine aw vF ?_
  refine n3<|rt vF ?_
  refine ⟨Q.keep0,?_⟩
  simp only [nP,d,e,g,h,f,i,k,u,y,r,cond_true,cond_false]
  exact rfl
 have bG:=dT r
 refine pu (vp b 2) (wS r) ?_
 refine pu (vp b 2) (wS r) ?_
 refine ld (vi a.Cur.N) (wS r) mT W ?_
 refine pu (vb (decide (a.Cur.N < 4294967295))) (wS r) ?_
 refine pk (vb (decide (a.Cur.N < 4294967295))) wN r ?_
 refine aw (vb (decide (a.Cur.N < 4294967295))) ?_
 refine n3<|rt (vb (decide (a.Cur.N < 4294967295))) ?_
 refine ⟨Q.keep0,?_⟩
 simp only [nP,d,e,g,h,f,i,k,u,y,r,cond_true,cond_false]
 exact rfl
theorem uA {c:PChan} (h:nP c=true):0≤c.Cur.N∧c.Cur.N≤4294967295∧0≤c.Role∧c.Role≤1:=by
  simp only [nP,Bool.cond_false_right,Bool.and_eq_true] at h
  have b:=nS h.1
  have a:=qV h.2.2.1
  exact ⟨a.1,a.2.1,by omega,by omega⟩

def re (a:List UInt8) (b:List UInt8):(Bool):=(eqS (ByteArray.mk a.toArray) (ByteArray.mk b.toArray))
theorem zY (d:World) (e:Value) (a:List UInt8) (l:pI d e a) (f:Value) (b:List UInt8) (m:pI d f b) :Fn Tryz.prog 36 #[e,f] d (fun v g=>Keep d g∧O_4 g d.heap.size v (re a b)):=by
 obtain ⟨h,i,rfl,o,r⟩:=l
 obtain ⟨j,k,rfl,p,s⟩:=m
 refine nu (n:=10) [(vs h a.length i),(vs j b.length k)] Tryz.func36 rfl rfl ?_
 refine sr<|aw vF ?_
 refine nx<|mw (vs h a.length i) ?_
 refine ug a wN rfl rfl rfl rfl Tryz.underlying22 Tryz.underlying5 Tryz.underlying9 o ?_
 refine mw (vs j b.length k) ?_
 refine ug b wN rfl rfl rfl rfl Tryz.underlying22 Tryz.underlying5 Tryz.underlying9 p ?_
 refine pu (vb (eqS (ByteArray.mk a.toArray) (ByteArray.mk b.toArray))) wN ?_
 refine aw (vb (eqS (ByteArray.mk a.toArray) (ByteArray.mk b.toArray))) ?_
 refine n3<|rt (vb (eqS (ByteArray.mk a.toArray) (ByteArray.mk b.toArray))) ?_
 refine ⟨Ch.refl _ _,?_⟩
 have q:re a b=(eqS (ByteArray.mk a.toArray) (ByteArray.mk b.toArray)):=by rfl
 rw [q]
 exact rfl

theorem Cq (f:World) (w:Value) (d:List UInt8) (D:pI f w d) (y:Value) (e:List UInt8) (E:pI f y e) :Fn Tryz.prog 144 #[w,y] f (fun v o=>Keep f o∧O_3 o f.heap.size v (qh d e)):=by
 obtain ⟨i,j,rfl,s,R⟩:=D
 obtain ⟨l,m,rfl,t,S⟩:=E
 refine nu (n:=31) [(vs i d.length j),(vs l e.length m)] Tryz.func144 rfl rfl ?_
 refine sr<|aw (vi 0) ?_
 refine n4<|mw (vs i d.length j) ?_
 refine ln wN mR s ?_
 refine mw (vs l e.length m) ?_
 refine ln wN mR t ?_
 refine pu (vb (!(decide ((d.length:Int)=(e.length:Int))))) wN ?_
 refine n2 ?_
 rcases bf (decide ((d.length:Int)=(e.length:Int))) with q|q
 ·have T:=dF q
  refine ct (cA not q)<|sr<|aw (vi (-1)) ?_
  refine n1<|rt (vi (-1)) ?_
  refine ⟨Ch.refl _ _,?_⟩
  have F:qh d e=(-1):=by first|exact tJ (by omega)|exact tI (by omega) (by omega) (by omega)
  rw [F]
  exact rfl
 have V:=dT q
 refine cf (cA not q)<|y1<|aw (vi 0) ?_
 refine n4<|aw (vi 0) ?_
 refine mW<|mP<|ng<|oa [(0,(vs i d.length j)),(1,(vs l e.length m)),(4,(vi 0)),(5,(vi (orX d e 0))),(6,(vi ((0:Nat):Int)))] ⟨rfl,rfl,rfl,(cA (Value.int .i64) (show (0:Int)=(orX d e 0) by rfl)),(cA (Value.int .i64) (show (0:Int)=((0:Nat):Int) by omega)),trivial⟩ (fun e' o=>∃ (k:Nat) (A:Env),e'=pt A [(0,(vs i d.length j)),(1,(vs l e.length m)),(4,(vi 0)),(5,(vi (orX d e k))),(6,(vi ((k:Nat):Int)))]∧Ch (fun k=>f.heap.size≤k) f o∧Ch (fun k=>f.heap.size≤k) f o∧k≤d.length) (fun e' _=>d.length - ((intOf (e' 6))).toNat) ?_ ?_
 ·exact fun u=>⟨0,u,rfl,(Ch.base f),(Ch.refl (fun k=>f.heap.size≤k) f),(by omega)⟩
 ·rintro _ B ⟨k,A,rfl,p,G,W⟩
  have hob:=BW d e k
  have X:(d.getD k 0^^^e.getD k 0).toNat < 256:=UInt8.toNat_lt _
  refine nh<|sr<|mw (vi ((k:Nat):Int)) ?_
  refine mw (vs i d.length j) ?_
  refine ln wN mR (s.from0 p) ?_
  refine pu (vb (decide (((k:Nat):Int) < (d.length:Int)))) wN ?_
  refine n2 ?_
  rcases bf (decide (((k:Nat):Int) < (d.length:Int))) with r|r
  ·have Y:=dF r
   refine cf r<|oh<|mU<|mU<|nq<|mP<|sr<|mw (vi (orX d e k)) ?_
   refine aw (vi (orX d e k)) ?_
   refine n3<|rt (vi (orX d e k)) ?_
   refine ⟨p.keep0,?_⟩
   have H:qh d e=(orX d e k):=by first|exact tJ (by omega)|exact tI (by omega) (by omega) (by omega)
   rw [H]
   exact rfl
  have Z:=dT r
  refine ct r<|nm<|mP<|nh<|ng<|ob ([(18,[],[],(fun _ v _=>v=(vi (orX d e k)))),(19,[],[],(fun _ v _=>v=(vs i d.length j))),(20,[],[],(fun _ v _=>v=(vi ((k:Nat):Int)))),(21,[],[1,2],(fun _ v _=>v=(ve (vs i d.length j) ((((k:Nat):Int)).toNat*1)))),(22,[],[1,2,3],(fun _ v _=>v=(v8 ((d.getD k 0).toNat:Int)))),(23,[],[],(fun _ v _=>v=(vs l e.length m))),(24,[],[],(fun _ v _=>v=(vi ((k:Nat):Int)))),(25,[],[5,6],(fun _ v _=>v=(ve (vs l e.length m) ((((k:Nat):Int)).toNat*1)))),(26,[],[5,6,7],(fun _ v _=>v=(v8 ((e.getD k 0).toNat:Int)))),(27,[],[1,2,3,4,5,6,7,8],(fun _ v _=>v=(v8 (((d.getD k 0)^^^(e.getD k 0)).toNat:Int)))),(28,[],[1,2,3,4,5,6,7,8,9],(fun _ v _=>v=(vi (((d.getD k 0)^^^(e.getD k 0)).toNat:Int))))]:GV) (fun _ o=>Keep B o) [] oM rfl (by kernel_rfl) (by kernel_rfl) ?_ (fun _ _ h=>h) (fun _ _ _ _ h _ k=>h.trans k) trivial ?_ ?_ ?_
  ·exact ⟨hV,hE,⟨hV,hE,⟨hV,hE,⟨hV,hE,⟨hV,hE,⟨hV,hE,⟨hV,hE,⟨hV,hE,⟨hV,hE,⟨hV,hE,⟨hV,hE,trivial⟩⟩⟩⟩⟩⟩⟩⟩⟩⟩⟩
  ·exact trivial
  ·refine ⟨?_,⟨?_,⟨?_,⟨?_,⟨?_,⟨?_,⟨?_,⟨?_,⟨?_,⟨?_,⟨?_,trivial⟩⟩⟩⟩⟩⟩⟩⟩⟩⟩⟩
   ·intro _ g aa _
    rintro _ _ _ _ _ _ _ _ _ _ _
    refine sw<|mw (vi (orX d e k)) ?_
    exact f1
   ·intro _ g ab _
    rintro _ _ _ _ _ _ _ _ _ _ _
    refine sw<|mw (vs i d.length j) ?_
    exact f1
   ·intro _ g ac _
    rintro _ _ _ _ _ _ _ _ _ _ _
    refine sw<|mw (vi ((k:Nat):Int)) ?_
    exact f1
   ·intro _ g I _
    have J:=p.extk I
    rintro _ _ rfl _ rfl _ _ _ _ _ _ _ _
    refine sw<|ix wN ((k:Nat):Int) mR (s.from0 J) ?_
    exact f1
   ·intro _ g K _
    have L:=p.extk K
    rintro _ _ rfl _ rfl _ rfl _ _ _ _ _ _ _
    refine sw<|eb (x:=d) k wN pP (s.from0 L) ?_
    exact f1
   ·intro _ g ad _
    rintro _ _ _ _ _ _ _ _ _ _ _
    refine sw<|mw (vs l e.length m) ?_
    exact f1
   ·intro _ g ae _
    rintro _ _ _ _ _ _ _ _ _ _ _
    refine sw<|mw (vi ((k:Nat):Int)) ?_
    exact f1
   ·intro _ g M _
    have N:=p.extk M
    rintro _ _ _ _ _ _ rfl _ rfl _ _ _ _
    refine sw<|ix wN ((k:Nat):Int) mR (t.from0 N) ?_
    exact f1
   ·intro _ g O _
    have P:=p.extk O
    rintro _ _ _ _ _ _ rfl _ rfl _ rfl _ _ _
    refine sw<|eb (x:=e) k wN pP (t.from0 P) ?_
    exact f1
   ·intro _ g af _
    rintro _
    iterate 8 rintro _ rfl
    intro _ _
    refine sw<|rC (d.getD k 0) (e.getD k 0) wN rfl rfl (by kernel_rfl) ?_
    exact f1
   ·intro _ g ah _
    rintro _
    iterate 9 rintro _ rfl
    intro _
    refine sw<|ar (((d.getD k 0)^^^(e.getD k 0)).toNat:Int) wN ?_
    exact f1
  ·intro _ g C
   have Q:=p.extk C
   iterate 11 rintro _ rfl
   refine sw<|we (orX d e k) (((d.getD k 0)^^^(e.getD k 0)).toNat:Int) wN rfl rfl (by kernel_rfl) (by omega) (by omega) (by omega) (by omega) ?_
   have ai:=uD (a:=(orX d e k)) (b:=(((d.getD k 0)^^^(e.getD k 0)).toNat:Int)) (by omega) (by omega)
   refine aw (vi (orI (orX d e k) (((d.getD k 0)^^^(e.getD k 0)).toNat:Int))) ?_
   refine mW<|mQ<|mP<|mV ?_
   refine mw (vi ((k:Nat):Int)) ?_
   refine ar (((k:Nat):Int)+1) wN ?_
   refine aw (vi (((k:Nat):Int)+1)) ?_
   refine mW<|nX (w0:=B) [(0,(vs i d.length j)),(1,(vs l e.length m)),(4,(vi 0)),(5,(vi (orX d e (k+1)))),(6,(vi (((k+1):Nat):Int)))] ?_ ?_ ?_
   · exact ⟨rfl,rfl,rfl,(cA (Value.int .i64) (show ((orI (orX d e k) (((d.getD k 0)^^^(e.getD k 0)).toNat:Int)):Int)=(orX d e (k+1)) by rfl)),(cA (Value.int .i64) (show ((((k:Nat):Int)+1):Int)=(((k+1):Nat):Int) by omega)),trivial⟩
   · exact fun u=>⟨(k+1),u,rfl,Q,(((Ch.refl (fun k=>f.heap.size≤k) f).ext G (fun k hk=>hk)).extk C),(by omega)⟩
   · show d.length - ((((k+1):Nat):Int)).toNat < d.length - (((k:Nat):Int)).toNat;omega

def qq (a:List UInt8) (b:List UInt8):(Bool):=bif (decide ((a.length:Int)=16)) then (decide ((qh a b)=0)) else (false)
theorem yN (e:World) (h:Value) (a:List UInt8) (o:pI e h a) (i:Value) (d:List UInt8) (p:pI e i d) :Fn Tryz.prog 111 #[h,i] e (fun v j=>Keep e j∧O_4 j e.heap.size v (qq a d)):=by
 obtain ⟨f,g,rfl,k,q⟩:=o
 obtain ⟨l,m,rfl,r,s⟩:=p
 refine nu (n:=14) [(vs f a.length g),(vs l d.length m)] Tryz.func111 rfl rfl ?_
 refine sr<|aw vF ?_
 refine nx<|mw (vs f a.length g) ?_
 refine ln wN mR k ?_
 refine pu (vb (decide ((a.length:Int)=16))) wN ?_
 refine mw (vb (decide ((a.length:Int)=16))) ?_
 rcases bf (decide ((a.length:Int)=16)) with b|b
 ·have w:=dF b
  iterate 4 refine sk b ?_
  refine pf vF wN b ?_
  refine aw vF ?_
  refine n3<|rt vF ?_
  refine ⟨Ch.refl _ _,?_⟩
  simp only [qq,b,cond_true,cond_false]
  exact rfl
 have x:=dT b
 refine mv (vs f a.length g) (wS b) ?_
 refine mv (vs l d.length m) (wS b) ?_
 refine cl (wS b) (Cq e _ a (nH k q) _ d (nH r s)) ?_
 rintro _ y ⟨t,rfl⟩
 have u:=(Ch.base e).extk t
 refine pu (vb (decide ((qh a d)=0))) (wS b) ?_
 refine pk (vb (decide ((qh a d)=0))) wN b ?_
 refine aw (vb (decide ((qh a d)=0))) ?_
 refine n3<|rt (vb (decide ((qh a d)=0))) ?_
 refine ⟨u.keep0,?_⟩
 simp only [qq,b,cond_true,cond_false]
 exact rfl

def oS (b:List UInt8) (d:Int) (a:PFrame):(List UInt8)×(Bool):=bif (decide ((b.length:Int)=32)) then (bif (decide (((nt d a).length:Int)=0)) then (([],false)) else (bif (qq a.Tag (si b (nt d a))) then (((ri b (nI d a.Sn a.Epoch a.Seq) a.Body),true)) else (([],false)))) else (([],false))
theorem Aa (A:World) (ad:Value) (f:List UInt8) (a2:pI A ad f) (d:Int) (ae:Value) (a:PFrame) (a3:vg A ae a) :Fn Tryz.prog 74 #[ad,(vi d),ae] A (fun v o=>Keep A o∧xp o A.heap.size v (oS f d a)):=by
 obtain ⟨l,m,rfl,C,af⟩:=a2
 obtain ⟨N,O,D,E,P,Q,R,S,F,G,H,I,rfl,a4,a5,ah,ai,a6,a7,a8,a9,aj,ak,am,an⟩:=a3
 refine nu (n:=42) [(vs l f.length m),(vi d),(va (oD a N O D E P Q R S F G H I))] Tryz.func74 rfl rfl ?_
 refine sr<|bx (oD a N O D E P Q R S F G H I) wN ?_
 intro p T b3 b4 J B
 have r:=(Ch.base A).extk J
 refine aw (vs none 0 0) ?_
 refine aw vF ?_
 refine nx<|mw (vi d) ?_
 refine lN (oD a N O D E P Q R S F G H I) wN nk mZ B ?_
 refine cl wN (sX T d _ a (qI (a4.from0 r) a5 (ah.from0 r) ai (a6.from0 r) a7 (a8.from0 r) a9 (aj.from0 r) ak (am.from0 r) an)) ?_
 rintro _ M ⟨q,⟨s,t,rfl,V,aA,b5⟩⟩
 have u:=r.extk q
 refine aw (vs s (nt d a).length t) ?_
 refine mW<|mP<|nh<|nh ?_
 rcases bf (decide ((f.length:Int)=32)) with i|i
 ·have b6:=dF i
  refine ob ([(12,[],[],(fun _ v _=>v=(vs l f.length m))),(13,[],[0],(fun _ v _=>v=(vi (f.length:Int)))),(14,[],[0,1],(fun _ v _=>v=(vb (!(decide ((f.length:Int)=32)))))),(15,[],[0,1,2],(fun _ v _=>v=(vb (!(decide ((f.length:Int)=32)))))),(16,[],[0,1,2,3],(fun _ v _=>v=U)),(17,[],[0,1,2,3,4],(fun _ v _=>v=U)),(18,[],[0,1,2,3,4,5],(fun _ v _=>v=U)),(19,[],[0,1,2,3,4,5,6],(fun _ v _=>v=vT)),(20,[],[0,1,2,3,4,5,6,7],(fun _ v _=>v=vT)),(21,[],[0,1,2,3,4,5,6,7,8],(fun _ v _=>v=U)),(22,[],[0,1,2,3,4,5,6,7,8,9],(fun _ v _=>v=U)),(23,[],[0,1,2,3,4,5,6,7,8],(fun _ v _=>v=U)),(24,[],[0,1,2,3,4,5,6,7,8],(fun _ v _=>v=U)),(25,[],[0,1,2,3,4,5,6,7,8,11,12],(fun _ v _=>v=U))]:GV) (fun _ o=>Keep M o) [] oM rfl (by kernel_rfl) (by kernel_rfl) ?_ (fun _ _ h=>h) (fun _ _ _ _ h _ k=>h.trans k) trivial ?_ ?_ ?_
  ·exact ⟨hV,hE,⟨hV,hE,⟨hV,hE,⟨hV,hE,⟨hV,hE,⟨hV,hE,⟨hV,hE,⟨hV,hE,⟨hV,hE,⟨hV,hE,⟨hV,hE,⟨hV,hE,⟨hV,hE,⟨hV,hE,trivial⟩⟩⟩⟩⟩⟩⟩⟩⟩⟩⟩⟩⟩⟩
  ·exact trivial
  ·refine ⟨?_,⟨?_,⟨?_,⟨?_,⟨?_,⟨?_,⟨?_,⟨?_,⟨?_,⟨?_,⟨?_,⟨?_,⟨?_,⟨?_,trivial⟩⟩⟩⟩⟩⟩⟩⟩⟩⟩⟩⟩⟩⟩
   ·intro _ b b7 _
    iterate 14 intro _
    refine sw<|mw (vs l f.length m) ?_
    exact f1
   ·intro _ b aB _
    have aC:=u.extk aB
    rintro _ rfl;iterate 13 intro _
    refine sw<|ln wN mR (C.from0 aC) ?_
    exact f1
   ·intro _ b b8 _
    rintro _ rfl _ rfl _ _ _ _ _ _ _ _ _ _ _ _
    refine sw<|pu (vb (!(decide ((f.length:Int)=32)))) wN ?_
    exact f1
   ·intro _ b b9 _
    rintro _ rfl _ rfl _ rfl _ _ _ _ _ _ _ _ _ _ _
    refine sw<|mw (vb (!(decide ((f.length:Int)=32)))) ?_
    exact f1
   ·intro _ b bA _
    rintro _ rfl _ rfl _ rfl _ rfl _ _ _ _ _ _ _ _ _ _
    refine sw<|sk (cA not i) ?_
    exact f1
   ·intro _ b bB _
    rintro _ rfl _ rfl _ rfl _ rfl _ rfl _ _ _ _ _ _ _ _ _
    refine sw<|sk (cA not i) ?_
    exact f1
   ·intro _ b bC _
    rintro _ rfl _ rfl _ rfl _ rfl _ rfl _ rfl _ _ _ _ _ _ _ _
    refine sw<|sk (cA not i) ?_
    exact f1
   ·intro _ b bD _
    iterate 7 rintro _ rfl
    intro _ _ _ _ _ _ _
    refine sw<|pk vT wN (cA not i) ?_
    exact f1
   ·intro _ b bE _
    iterate 8 rintro _ rfl
    intro _ _ _ _ _ _
    refine sw<|mw vT ?_
    exact f1
   ·intro _ b bF _
    iterate 9 rintro _ rfl
    intro _ _ _ _ _
    refine sw<|sk T1 ?_
    exact f1
   ·intro _ b bG _
    iterate 10 rintro _ rfl
    intro _ _ _ _
    refine sw<|sk T1 ?_
    exact f1
   ·intro _ b bH _
    iterate 9 rintro _ rfl
    intro _ _ _ _ _
    refine sw<|sk T1 ?_
    exact f1
   ·intro _ b bI _
    iterate 9 rintro _ rfl
    intro _ _ _ _ _
    refine sw<|sk T1 ?_
    exact f1
   ·intro _ b bJ _
    iterate 9 rintro _ rfl
    rintro _ _ _ rfl _ rfl _
    refine sw<|sk T1 ?_
    exact f1
  ·intro _ b ao
   iterate 14 rintro _ rfl
   refine sw ?_
   iterate 2 refine sk T1 ?_
   refine pk vT wN T1 ?_
   refine n2<|ct T1<|sr<|nF wN rfl rfl mR (fun w=>by kernel_rfl) ?_
   intro ap K aD aE
   have aF:=(u.extk ao).extk aD
   refine aw (vs (some ap) 0 0) ?_
   refine aw vF ?_
   refine n1<|rE (.inl rfl) (vs (some ap) 0 0) vF rfl rfl rfl ?_
   refine ⟨aF.keep0,?_⟩
   simp only [oS,i,cond_true,cond_false]
   exact ⟨_,_,rfl,(mO aE (z3 J q ao)),(by simp),⟨trivial,trivial⟩⟩
 have bK:=dT i
 rcases bt (decide (((nt d a).length:Int)=0)) with g|g
 ·have bL:=dT g
  refine ob ([(12,[],[],(fun _ v _=>v=(vs l f.length m))),(13,[],[0],(fun _ v _=>v=(vi (f.length:Int)))),(14,[],[0,1],(fun _ v _=>v=(vb (!(decide ((f.length:Int)=32)))))),(15,[],[0,1,2],(fun _ v _=>v=(vb (!(decide ((f.length:Int)=32)))))),(16,[],[0,1,2,3],(fun _ v _=>v=(vs s (nt d a).length t))),(17,[],[0,1,2,3,4],(fun _ v _=>v=(vi ((nt d a).length:Int)))),(18,[],[0,1,2,3,4,5],(fun _ v _=>v=(vb (decide (((nt d a).length:Int)=0))))),(19,[],[0,1,2,3,4,5,6],(fun _ v _=>v=(vb (decide (((nt d a).length:Int)=0))))),(20,[],[0,1,2,3,4,5,6,7],(fun _ v _=>v=(vb (decide (((nt d a).length:Int)=0))))),(21,[],[0,1,2,3,4,5,6,7,8],(fun _ v _=>v=U)),(22,[],[0,1,2,3,4,5,6,7,8,9],(fun _ v _=>v=U)),(23,[],[0,1,2,3,4,5,6,7,8],(fun _ v _=>v=U)),(24,[],[0,1,2,3,4,5,6,7,8],(fun _ v _=>v=U)),(25,[],[0,1,2,3,4,5,6,7,8,11,12],(fun _ v _=>v=U))]:GV) (fun _ o=>Keep M o) [] oM rfl (by kernel_rfl) (by kernel_rfl) ?_ (fun _ _ h=>h) (fun _ _ _ _ h _ k=>h.trans k) trivial ?_ ?_ ?_
  ·exact ⟨hV,hE,⟨hV,hE,⟨hV,hE,⟨hV,hE,⟨hV,hE,⟨hV,hE,⟨hV,hE,⟨hV,hE,⟨hV,hE,⟨hV,hE,⟨hV,hE,⟨hV,hE,⟨hV,hE,⟨hV,hE,trivial⟩⟩⟩⟩⟩⟩⟩⟩⟩⟩⟩⟩⟩⟩
  ·exact trivial
  ·refine ⟨?_,⟨?_,⟨?_,⟨?_,⟨?_,⟨?_,⟨?_,⟨?_,⟨?_,⟨?_,⟨?_,⟨?_,⟨?_,⟨?_,trivial⟩⟩⟩⟩⟩⟩⟩⟩⟩⟩⟩⟩⟩⟩
   ·intro _ b bM _
    iterate 14 intro _
    refine sw<|mw (vs l f.length m) ?_
    exact f1
   ·intro _ b aG _
    have aH:=u.extk aG
    rintro _ rfl;iterate 13 intro _
    refine sw<|ln wN mR (C.from0 aH) ?_
    exact f1
   ·intro _ b bN _
    rintro _ rfl _ rfl _ _ _ _ _ _ _ _ _ _ _ _
    refine sw<|pu (vb (!(decide ((f.length:Int)=32)))) wN ?_
    exact f1
   ·intro _ b bO _
    rintro _ rfl _ rfl _ rfl _ _ _ _ _ _ _ _ _ _ _
    refine sw<|mw (vb (!(decide ((f.length:Int)=32)))) ?_
    exact f1
   ·intro _ b bP _
    rintro _ rfl _ rfl _ rfl _ rfl _ _ _ _ _ _ _ _ _ _
    refine sw<|mv (vs s (nt d a).length t) (wS (cA not i)) ?_
    exact f1
   ·intro _ b aI _
    rintro _ rfl _ rfl _ rfl _ rfl _ rfl _ _ _ _ _ _ _ _ _
    refine sw ?_
    have aJ:=(mz V aI)
    refine ln (wS (cA not i)) mR (Rd.of_own aJ) ?_
    exact f1
   ·intro _ b bQ _
    rintro _ rfl _ rfl _ rfl _ rfl _ rfl _ rfl _ _ _ _ _ _ _ _
    refine sw<|pu (vb (decide (((nt d a).length:Int)=0))) (wS (cA not i)) ?_
    exact f1
   ·intro _ b bR _
    iterate 7 rintro _ rfl
    intro _ _ _ _ _ _ _
    refine sw<|pf (vb (decide (((nt d a).length:Int)=0))) wN (cA not i) ?_
    exact f1
   ·intro _ b bS _
    iterate 8 rintro _ rfl
    intro _ _ _ _ _ _
    refine sw<|mw (vb (decide (((nt d a).length:Int)=0))) ?_
    exact f1
   ·intro _ b bT _
    iterate 9 rintro _ rfl
    intro _ _ _ _ _
    refine sw<|sk g ?_
    exact f1
   ·intro _ b bU _
    iterate 10 rintro _ rfl
    intro _ _ _ _
    refine sw<|sk g ?_
    exact f1
   ·intro _ b bW _
    iterate 9 rintro _ rfl
    intro _ _ _ _ _
    refine sw<|sk g ?_
    exact f1
   ·intro _ b bX _
    iterate 9 rintro _ rfl
    intro _ _ _ _ _
    refine sw<|sk g ?_
    exact f1
   ·intro _ b bY _
    iterate 9 rintro _ rfl
    rintro _ _ _ rfl _ rfl _
    refine sw<|sk g ?_
    exact f1
  ·intro _ b aq
   iterate 14 rintro _ rfl
   refine sw ?_
   iterate 2 refine sk g ?_
   refine pk vT wN g ?_
   refine n2<|ct T1<|sr<|nF wN rfl rfl mR (fun w=>by kernel_rfl) ?_
   intro au K aK aL
   have aM:=(u.extk aq).extk aK
   refine aw (vs (some au) 0 0) ?_
   refine aw vF ?_
   refine n1<|rE (.inl rfl) (vs (some au) 0 0) vF rfl rfl rfl ?_
   refine ⟨aM.keep0,?_⟩
   simp only [oS,i,g,cond_true,cond_false]
   exact ⟨_,_,rfl,(mO aL (z3 J q aq)),(by simp),⟨trivial,trivial⟩⟩
 have bZ:=dF g
 refine ob ([(12,[],[],(fun _ v _=>v=(vs l f.length m))),(13,[],[0],(fun _ v _=>v=(vi (f.length:Int)))),(14,[],[0,1],(fun _ v _=>v=(vb (!(decide ((f.length:Int)=32)))))),(15,[],[0,1,2],(fun _ v _=>v=(vb (!(decide ((f.length:Int)=32)))))),(16,[],[0,1,2,3],(fun _ v _=>v=(vs s (nt d a).length t))),(17,[],[0,1,2,3,4],(fun _ v _=>v=(vi ((nt d a).length:Int)))),(18,[],[0,1,2,3,4,5],(fun _ v _=>v=(vb (decide (((nt d a).length:Int)=0))))),(19,[],[0,1,2,3,4,5,6],(fun _ v _=>v=(vb (decide (((nt d a).length:Int)=0))))),(20,[],[0,1,2,3,4,5,6,7],(fun _ v _=>v=(vb (decide (((nt d a).length:Int)=0))))),(21,[],[0,1,2,3,4,5,6,7,8],(fun _ v _=>v=(vp p 10))),(22,[],[0,1,2,3,4,5,6,7,8,9],(fun _ v _=>v=(vs H a.Tag.length I))),(23,[],[0,1,2,3,4,5,6,7,8],(fun _ v _=>v=(vs l f.length m))),(24,[],[0,1,2,3,4,5,6,7,8],(fun _ v _=>v=(vs s (nt d a).length t))),(25,[],[0,1,2,3,4,5,6,7,8,11,12],(fun _ v w=>rr w M.heap.size v (si f (nt d a))))]:GV) (fun _ o=>Keep M o) [] oM rfl (by kernel_rfl) (by kernel_rfl) ?_ (fun _ _ h=>h) (fun _ _ _ _ h _ k=>h.trans k) trivial ?_ ?_ ?_
 ·exact ⟨hV,hE,⟨hV,hE,⟨hV,hE,⟨hV,hE,⟨hV,hE,⟨hV,hE,⟨hV,hE,⟨hV,hE,⟨hV,hE,⟨hV,hE,⟨hV,hE,⟨hV,hE,⟨hV,hE,⟨(fun e v w T h hk=>by obtain ⟨W,X,he,Y,Z,hap⟩:=h;exact ⟨W,X,he,mz Y hk,Z,hap⟩),hE,trivial⟩⟩⟩⟩⟩⟩⟩⟩⟩⟩⟩⟩⟩⟩
 ·exact trivial
 ·refine ⟨?_,⟨?_,⟨?_,⟨?_,⟨?_,⟨?_,⟨?_,⟨?_,⟨?_,⟨?_,⟨?_,⟨?_,⟨?_,⟨?_,trivial⟩⟩⟩⟩⟩⟩⟩⟩⟩⟩⟩⟩⟩⟩
  ·intro _ b ca _
   iterate 14 intro _
   refine sw<|mw (vs l f.length m) ?_
   exact f1
  ·intro _ b aN _
   have aO:=u.extk aN
   rintro _ rfl;iterate 13 intro _
   refine sw<|ln wN mR (C.from0 aO) ?_
   exact f1
  ·intro _ b cb _
   rintro _ rfl _ rfl _ _ _ _ _ _ _ _ _ _ _ _
   refine sw<|pu (vb (!(decide ((f.length:Int)=32)))) wN ?_
   exact f1
  ·intro _ b cc _
   rintro _ rfl _ rfl _ rfl _ _ _ _ _ _ _ _ _ _ _
   refine sw<|mw (vb (!(decide ((f.length:Int)=32)))) ?_
   exact f1
  ·intro _ b cd _
   rintro _ rfl _ rfl _ rfl _ rfl _ _ _ _ _ _ _ _ _ _
   refine sw<|mv (vs s (nt d a).length t) (wS (cA not i)) ?_
   exact f1
  ·intro _ b aP _
   rintro _ rfl _ rfl _ rfl _ rfl _ rfl _ _ _ _ _ _ _ _ _
   refine sw ?_
   have aQ:=(mz V aP)
   refine ln (wS (cA not i)) mR (Rd.of_own aQ) ?_
   exact f1
  ·intro _ b ce _
   rintro _ rfl _ rfl _ rfl _ rfl _ rfl _ rfl _ _ _ _ _ _ _ _
   refine sw<|pu (vb (decide (((nt d a).length:Int)=0))) (wS (cA not i)) ?_
   exact f1
  ·intro _ b cg _
   iterate 7 rintro _ rfl
   intro _ _ _ _ _ _ _
   refine sw<|pf (vb (decide (((nt d a).length:Int)=0))) wN (cA not i) ?_
   exact f1
  ·intro _ b ci _
   iterate 8 rintro _ rfl
   intro _ _ _ _ _ _
   refine sw<|mw (vb (decide (((nt d a).length:Int)=0))) ?_
   exact f1
  ·intro _ b cj _
   iterate 9 rintro _ rfl
   intro _ _ _ _ _
   refine sw<|pu (vp p 10) (wS g) ?_
   exact f1
  ·intro _ b aR _
   iterate 10 rintro _ rfl
   intro _ _ _ _
   refine sw ?_
   have aS:=((B.kp q).kp aR)
   refine ld (vs H a.Tag.length I) (wS g) nd aS ?_
   exact f1
  ·intro _ b ck _
   iterate 9 rintro _ rfl
   intro _ _ _ _ _
   refine sw<|mv (vs l f.length m) (wS g) ?_
   exact f1
  ·intro _ b cm _
   iterate 9 rintro _ rfl
   intro _ _ _ _ _
   refine sw<|mv (vs s (nt d a).length t) (wS g) ?_
   exact f1
  ·intro _ b aa _
   have aT:=u.extk aa
   iterate 9 rintro _ rfl
   rintro _ _ _ rfl _ rfl _
   refine sw ?_
   have aU:=(mz V aa)
   refine cl (wS g) (Cl b _ f (nH (C.from0 aT) af) _ (nt d a) (nH (Rd.of_own aU) aA)) ?_
   rintro _ K ⟨aV,⟨cn,co,rfl,aW,aX,aY⟩⟩
   have cp:=rL f (nt d a)
   exact nK aV ⟨_,_,rfl,(mO aW aa.size),aX,aY⟩
 ·intro _ b x
  have av:=u.extk x
  iterate 13 rintro _ rfl
  rintro _ ⟨cq,cr,rfl,aZ,ba,cs⟩
  have cu:=rL f (nt d a)
  refine sw<|cl (wS g) (yN b _ a.Tag (nH (am.from0 av) an) _ (si f (nt d a)) (nH (Rd.of_own aZ) ba)) ?_
  rintro _ K ⟨y,rfl⟩
  have ab:=av.extk y
  refine pu (vb (!(qq a.Tag (si f (nt d a))))) (wS g) ?_
  refine pf (vb (!(qq a.Tag (si f (nt d a))))) wN g ?_
  refine n2 ?_
  rcases bf (qq a.Tag (si f (nt d a))) with L|L
  ·refine ct (cA not L)<|sr<|nF wN rfl rfl mR (fun w=>by kernel_rfl) ?_
   intro ax j bb bc
   have bd:=ab.extk bb
   refine aw (vs (some ax) 0 0) ?_
   refine aw vF ?_
   refine n1<|rE (.inl rfl) (vs (some ax) 0 0) vF rfl rfl rfl ?_
   refine ⟨bd.keep0,?_⟩
   simp only [oS,i,g,L,cond_true,cond_false]
   exact ⟨_,_,rfl,(mO bc (z4 J q x y)),(by simp),⟨trivial,trivial⟩⟩
  refine cf (cA not L)<|nm<|mP<|nh<|ob ([(30,[],[],(fun _ v _=>v=(vs l f.length m))),(31,[],[],(fun _ v _=>v=(vi d))),(32,[],[],(fun _ v _=>v=(vp p 3))),(33,[],[2],(fun _ v _=>v=(vs D a.Sn.length E))),(34,[],[],(fun _ v _=>v=(vp p 7))),(35,[],[4],(fun _ v _=>v=(vi a.Epoch))),(36,[],[],(fun _ v _=>v=(vp p 8))),(37,[],[6],(fun _ v _=>v=(vi a.Seq))),(38,[],[1,2,3,4,5,6,7],(fun _ v w=>rr w K.heap.size v (nI d a.Sn a.Epoch a.Seq))),(39,[],[],(fun _ v _=>v=(vp p 9))),(40,[],[9],(fun _ v _=>v=(vs F a.Body.length G)))]:GV) (fun _ o=>Keep K o) [] oM rfl (by kernel_rfl) (by kernel_rfl) ?_ (fun _ _ h=>h) (fun _ _ _ _ h _ k=>h.trans k) trivial ?_ ?_ ?_
  ·exact ⟨hV,hE,⟨hV,hE,⟨hV,hE,⟨hV,hE,⟨hV,hE,⟨hV,hE,⟨hV,hE,⟨hV,hE,⟨(fun e v w T h hk=>by obtain ⟨W,X,he,Y,Z,hap⟩:=h;exact ⟨W,X,he,mz Y hk,Z,hap⟩),hE,⟨hV,hE,⟨hV,hE,trivial⟩⟩⟩⟩⟩⟩⟩⟩⟩⟩⟩
  ·exact trivial
  ·refine ⟨?_,⟨?_,⟨?_,⟨?_,⟨?_,⟨?_,⟨?_,⟨?_,⟨?_,⟨?_,⟨?_,trivial⟩⟩⟩⟩⟩⟩⟩⟩⟩⟩⟩
   ·intro _ j cv _
    rintro _ _ _ _ _ _ _ _ _ _ _
    refine sw<|mw (vs l f.length m) ?_
    exact f1
   ·intro _ j cw _
    rintro _ _ _ _ _ _ _ _ _ _ _
    refine sw<|mw (vi d) ?_
    exact f1
   ·intro _ j cy _
    rintro _ _ _ _ _ _ _ _ _ _ _
    refine sw<|pu (vp p 3) wN ?_
    exact f1
   ·intro _ j be _
    rintro _ _ _ rfl _ _ _ _ _ _ _ _
    refine sw ?_
    have bg:=((((B.kp q).kp x).kp y).kp be)
    refine ld (vs D a.Sn.length E) wN nd bg ?_
    exact f1
   ·intro _ j cz _
    rintro _ _ _ _ _ _ _ _ _ _ _
    refine sw<|pu (vp p 7) wN ?_
    exact f1
   ·intro _ j bh _
    rintro _ _ _ _ _ rfl _ _ _ _ _ _
    refine sw ?_
    have bi:=((((B.kp q).kp x).kp y).kp bh)
    refine ld (vi a.Epoch) wN mT bi ?_
    exact f1
   ·intro _ j c0 _
    rintro _ _ _ _ _ _ _ _ _ _ _
    refine sw<|pu (vp p 8) wN ?_
    exact f1
   ·intro _ j bj _
    rintro _ _ _ _ _ _ _ rfl _ _ _ _
    refine sw ?_
    have bk:=((((B.kp q).kp x).kp y).kp bj)
    refine ld (vi a.Seq) wN mT bk ?_
    exact f1
   ·intro _ j ay _
    have bl:=ab.extk ay
    rintro _
    iterate 7 rintro _ rfl
    intro _ _ _
    refine sw<|cl wN (uQ j d _ a.Sn (nH (ah.from0 bl) ai) a.Epoch a.Seq) ?_
    rintro _ bm ⟨bn,⟨c1,c2,rfl,bo,bp,bq⟩⟩
    have c3:=qb d a.Sn a.Epoch a.Seq
    exact nK bn ⟨_,_,rfl,(mO bo ay.size),bp,bq⟩
   ·intro _ j c4 _
    rintro _ _ _ _ _ _ _ _ _ _ _
    refine sw<|pu (vp p 9) wN ?_
    exact f1
   ·intro _ j br _
    rintro _ _ _ _ _ _ _ _ _ _ rfl _
    refine sw ?_
    have bu:=((((B.kp q).kp x).kp y).kp br)
    refine ld (vs F a.Body.length G) wN nd bu ?_
    exact f1
  ·intro _ j az
   have ac:=ab.extk az
   iterate 8 rintro _ rfl
   rintro _ ⟨c5,c6,rfl,bv,bw,c7⟩
   have c8:=qb d a.Sn a.Epoch a.Seq
   rintro _ rfl _ rfl
   refine sw<|cl wN (Co j _ f (nH (C.from0 ac) af) _ (nI d a.Sn a.Epoch a.Seq) (nH (Rd.of_own bv) bw) _ a.Body (nH (aj.from0 ac) ak)) ?_
   rintro _ bm ⟨bz,⟨a0,a1,rfl,b0,b1,c9⟩⟩
   have b2:=ac.extk bz
   have cC:=tn f (nI d a.Sn a.Epoch a.Seq) a.Body
   refine aw (vs a0 (ri f (nI d a.Sn a.Epoch a.Seq) a.Body).length a1) ?_
   refine aw vT ?_
   refine n3<|rE (.inl rfl) (vs a0 (ri f (nI d a.Sn a.Epoch a.Seq) a.Body).length a1) vT rfl rfl rfl ?_
   refine ⟨b2.keep0,?_⟩
   simp only [oS,i,g,L,cond_true,cond_false]
   exact ⟨_,_,rfl,(mO b0 (z5 J q x y az)),b1,⟨trivial,trivial⟩⟩

def na (a:PEp) (d:Int) (b:PFrame):(PEp)×(List UInt8)×(Int):=bif (px a) then (bif (decide (((nt d b).length:Int)=0)) then (((a),[],1)) else (bif (decide (b.Epoch=a.N)) then (bif (oN a.Win b.Seq) then (bif ((oS a.Key d b).2) then (({(a) with Win:=((qA a.Win b.Seq).1):PEp},(oS a.Key d b).1,0)) else (((a),[],2))) else (((a),[],3))) else (((a),[],1)))) else (((a),[],1))
theorem uR (R:World) (aP:Value) (a:PEp) (b1:xn R aP a) (h:Int) (aQ:Value) (b:PFrame) (b2:vg R aQ b) :Fn Tryz.prog 37 #[aP,(vi h),aQ] R (fun v aR=>Keep R aR∧wa aR R.heap.size v (na a h b)):=by
 obtain ⟨X,Y,S,T,rfl,a9,aA,af,ah⟩:=b1
 obtain ⟨ai,aj,ak,am,an,ao,ap,aq,au,av,ax,ay,rfl,aS,aT,aU,aV,aW,aX,aY,aZ,ba,bb,bc,bd⟩:=b2
 refine nu (n:=64) [(va (oi a X Y S T)),(vi h),(va (oD b ai aj ak am an ao ap aq au av ax ay))] Tryz.func37 rfl rfl ?_
 refine sr<|bx (oi a X Y S T) wN ?_
 intro Z cu cv b3 m b4
 refine bx (oD b ai aj ak am an ao ap aq au av ax ay) wN ?_
 intro az cw cy b5 l b6
 refine al se wN pm ?_
 intro b7 G a0 x p a1
 have aB:=(((Ch.base R).extk m).extk l).extk p
 refine aw (vs none 0 0) ?_
 refine aw (vi 0) ?_
 refine nx ?_
 have be:=((b4.kp l).kp p)
 refine lN (oi a X Y S T) wN nv mY be ?_
 refine cl wN (uM G _ a (qs (a9.from0 aB) aA (af.from0 aB) ah)) ?_
 rintro _ M ⟨j,⟨q,r,A,B,rfl,C,a2,H,aC,aD⟩⟩
 refine al se wN pm ?_
 intro bg cz y bh g b8
 refine sv (oi (a) q r A B) wN mY b8 ?_
 intro b9 d a3 c0
 have a4:=((aB.extk j).extk g).ext d (fun k hk=>by subst hk;exact nT (z4 m l p j) y)
 refine n4<|jT1 [(1,(vi h)),(3,(vp Z 0)),(5,(vp az 0)),(6,(vp b7 0)),(7,(vs none 0 0)),(8,(vi 0)),(9,(vp bg 0))] (na a h b=((a),[],1)) ?_ fun aE=>?_
 ·intro bA bi O c1
  refine sr ?_
  have bB:=(a3.kp O)
  refine lN (oi (a) q r A B) wN nv mY bB ?_
  refine nF wN rfl rfl mR (fun w=>by kernel_rfl) ?_
  intro bj bk aF a5
  have bC:=(((((a1.kp j).kp g).ch d (nN (nL x (nT j.size y)))).kp O).kp aF)
  refine sv (oi (a) q r A B) wN mY bC ?_
  intro bl aG bD c2
  have bE:=((a4.extk O).extk aF).ext aG (fun k hk=>by subst hk;exact nT (z2 m l) a0)
  refine aw (vs (some bj) 0 0) ?_
  refine aw (vi 1) ?_
  refine n1 ?_
  have bm:=fun (E sz n:Nat) (v:Value) (F:List Value) (o:World.ownsRow M G.heap.size E sz v n F) (D:World.ownsRow M G.heap.size E sz v n F)=>(gc (mz (mz (gc (mz o g) d (ne2 D (y))) O) aF) aG (ne1 D (x)))
  have bF:=(bm _ _ _ _ _ C C)
  have bG:=(bm _ _ _ _ _ H H)
  have bH:=(gc a5 aG (ne1 a5 (nL x (z4 j g d O))))
  refine rc3 (oi (a) q r A B) (vs (some bj) 0 0) (vi 1) bD nv mY ?_
  refine ⟨bE.keep0,?_⟩
  rw [bA]
  exact ⟨_,_,_,_,_,_,rfl,(mO bF (z3 m l p)),a2,(mO bG (z3 m l p)),aC,(mO bH (z7 m l p j g d O)),(by simp),⟨⟨(aD.1.1),⟨(Ap.lt C a5 (z3 g d O)),trivial⟩⟩,⟨⟨(Ap.lt H a5 (z3 g d O)),trivial⟩,⟨trivial,trivial⟩⟩⟩⟩
 have bn:=(((be.kp j).kp g).ch d (nN (nL b3 (nT (z3 l p j) y))))
 refine lN (oi a X Y S T) wN nv mY bn ?_
 refine cl wN (wW b9 _ a (qs (a9.from0 a4) aA (af.from0 a4) ah)) ?_
 rintro _ bi ⟨e,rfl⟩
 have P:=a4.extk e
 refine pu (vb (!(px a))) wN ?_
 refine mw (vb (!(px a))) ?_
 rcases bf (px a) with t|t
 ·iterate 5 refine sk (cA not t) ?_
  refine pk vT wN (cA not t) ?_
  refine mw vT ?_
  iterate 5 refine sk T1 ?_
  refine pk vT wN T1 ?_
  refine n2<|ct T1 ?_
  have bI:na a h b=((a),[],1):=by simp only [na,t,cond_true,cond_false]
  exact wj (aE bI _ e)
 have c3:=qV t
 refine mv (vi h) (wS (cA not t)) ?_
 have bo:=(((((b6.kp p).kp j).kp g).ch d (nN (nL b5 (nT (z2 p j) y)))).kp e)
 refine lN (oD b ai aj ak am an ao ap aq au av ax ay) (wS (cA not t)) nk mZ bo ?_
 refine cl (wS (cA not t)) (sX bi h _ b (qI (aS.from0 P) aT (aU.from0 P) aV (aW.from0 P) aX (aY.from0 P) aZ (ba.from0 P) bb (bc.from0 P) bd)) ?_
 rintro _ bk ⟨f,⟨c4,c5,rfl,bJ,_⟩⟩
 have bp:=P.extk f
 refine ln (wS (cA not t)) mR (Rd.of_own bJ) ?_
 refine pu (vb (decide (((nt h b).length:Int)=0))) (wS (cA not t)) ?_
 refine pf (vb (decide (((nt h b).length:Int)=0))) wN (cA not t) ?_
 refine mw (vb (decide (((nt h b).length:Int)=0))) ?_
 rcases bt (decide (((nt h b).length:Int)=0)) with u|u
 ·have c6:=dT u
  iterate 5 refine sk u ?_
  refine pk vT wN u ?_
  refine n2<|ct T1 ?_
  have bK:na a h b=((a),[],1):=by simp only [na,t,u,cond_true,cond_false]
  exact wj (aE bK _ (e.trans f))
 have c7:=dF u
 refine pu (vp az 7) (wS u) ?_
 have aH:=(bo.kp f)
 refine ld (vi b.Epoch) (wS u) mT aH ?_
 refine pu (vp Z 0) (wS u) ?_
 have aI:=((bn.kp e).kp f)
 refine ld (vi a.N) (wS u) mT aI ?_
 refine pu (vb (!(decide (b.Epoch=a.N)))) (wS u) ?_
 refine pf (vb (!(decide (b.Epoch=a.N)))) wN u ?_
 refine n2 ?_
 rcases bf (decide (b.Epoch=a.N)) with I|I
 ·have c8:=dF I
  refine ct (cA not I) ?_
  have bL:na a h b=((a),[],1):=by simp only [na,t,u,I,cond_true,cond_false]
  exact wj (aE bL _ (e.trans f))
 have c9:=dT I
 refine cf (cA not I)<|y2<|pu (vp Z 3) wN ?_
 refine lN (pn a.Win S T) wN nJ ni aI ?_
 refine pu (vp az 8) wN ?_
 refine ld (vi b.Seq) wN mT aH ?_
 refine cl wN (wU bk _ a.Win (qX (af.from0 bp) ah) b.Seq) ?_
 rintro _ bl ⟨i,rfl⟩
 have J:=bp.extk i
 refine pu (vb (!(oN a.Win b.Seq))) wN ?_
 refine n2 ?_
 rcases bf (oN a.Win b.Seq) with Q|Q
 ·refine ct (cA not Q)<|sr ?_
  have bM:=(((a3.kp e).kp f).kp i)
  refine lN (oi (a) q r A B) wN nv mY bM ?_
  refine nF wN rfl rfl mR (fun w=>by kernel_rfl) ?_
  intro bq aJ aK a6
  have bN:=(((((((a1.kp j).kp g).ch d (nN (nL x (nT j.size y)))).kp e).kp f).kp i).kp aK)
  refine sv (oi (a) q r A B) wN mY bN ?_
  intro br aL bO cC
  have bP:=(J.extk aK).ext aL (fun k hk=>by subst hk;exact nT (z2 m l) a0)
  refine aw (vs (some bq) 0 0) ?_
  refine aw (vi 3) ?_
  refine n1 ?_
  have bu:=fun (E sz n:Nat) (v:Value) (F:List Value) (o:World.ownsRow M G.heap.size E sz v n F) (D:World.ownsRow M G.heap.size E sz v n F)=>(gc (mz (mz (mz (mz (gc (mz o g) d (ne2 D (y))) e) f) i) aK) aL (ne1 D (x)))
  have bQ:=(bu _ _ _ _ _ C C)
  have bR:=(bu _ _ _ _ _ H H)
  have bS:=(gc a6 aL (ne1 a6 (nL x (z6 j g d e f i))))
  refine rc3 (oi (a) q r A B) (vs (some bq) 0 0) (vi 3) bO nv mY ?_
  refine ⟨bP.keep0,?_⟩
  simp only [na,t,u,I,Q,cond_true,cond_false]
  exact ⟨_,_,_,_,_,_,rfl,(mO bQ (z3 m l p)),a2,(mO bR (z3 m l p)),aC,(mO bS (z9 m l p j g d e f i)),(by simp),⟨⟨(aD.1.1),⟨(Ap.lt C a6 (z5 g d e f i)),trivial⟩⟩,⟨⟨(Ap.lt H a6 (z5 g d e f i)),trivial⟩,⟨trivial,trivial⟩⟩⟩⟩
 have cD:=rn Q
 refine cf (cA not Q)<|y1<|pu (vp Z 1) wN ?_
 have bv:=(aI.kp i)
 refine ld (vs X a.Key.length Y) wN nd bv ?_
 refine mw (vi h) ?_
 have bw:=(aH.kp i)
 refine lN (oD b ai aj ak am an ao ap aq au av ax ay) wN nk mZ bw ?_
 refine cl wN (Aa bl _ a.Key (nH (a9.from0 J) aA) h _ b (qI (aS.from0 J) aT (aU.from0 J) aV (aW.from0 J) aX (aY.from0 J) aZ (ba.from0 J) bb (bc.from0 J) bd)) ?_
 rintro _ aJ ⟨s,⟨V,W,rfl,aa,bT,cE⟩⟩
 have aM:=J.extk s
 refine mw (.tuple #[(vs V ((oS a.Key h b).1).length W),(vb ((oS a.Key h b).2))]) ?_
 refine pu (vs V ((oS a.Key h b).1).length W) wN ?_
 refine pu (vb ((oS a.Key h b).2)) wN ?_
 refine aw (vs V ((oS a.Key h b).1).length W) ?_
 refine aw (vb ((oS a.Key h b).2)) ?_
 refine n4<|mw (vb ((oS a.Key h b).2)) ?_
 refine pu (vb (!((oS a.Key h b).2))) wN ?_
 refine n2 ?_
 rcases bf ((oS a.Key h b).2) with ab|ab
 ·refine ct (cA not ab)<|sr ?_
  have bU:=((((a3.kp e).kp f).kp i).kp s)
  refine lN (oi (a) q r A B) wN nv mY bU ?_
  refine nF wN rfl rfl mR (fun w=>by kernel_rfl) ?_
  intro bz br aN a7
  have bW:=((((((((a1.kp j).kp g).ch d (nN (nL x (nT j.size y)))).kp e).kp f).kp i).kp s).kp aN)
  refine sv (oi (a) q r A B) wN mY bW ?_
  intro bX aO bY cF
  have bZ:=(aM.extk aN).ext aO (fun k hk=>by subst hk;exact nT (z2 m l) a0)
  refine aw (vs (some bz) 0 0) ?_
  refine aw (vi 2) ?_
  refine n1 ?_
  have b0:=fun (E sz n:Nat) (v:Value) (F:List Value) (o:World.ownsRow M G.heap.size E sz v n F) (D:World.ownsRow M G.heap.size E sz v n F)=>(gc (mz (mz (mz (mz (mz (gc (mz o g) d (ne2 D (y))) e) f) i) s) aN) aO (ne1 D (x)))
  have ca:=(b0 _ _ _ _ _ C C)
  have cb:=(b0 _ _ _ _ _ H H)
  have cc:=(gc a7 aO (ne1 a7 (nL x (z7 j g d e f i s))))
  refine rc3 (oi (a) q r A B) (vs (some bz) 0 0) (vi 2) bY nv mY ?_
  refine ⟨bZ.keep0,?_⟩
  simp only [na,t,u,I,Q,ab,cond_true,cond_false]
  exact ⟨_,_,_,_,_,_,rfl,(mO ca (z3 m l p)),a2,(mO cb (z3 m l p)),aC,(mO cc (z10 m l p j g d e f i s)),(by simp),⟨⟨(aD.1.1),⟨(Ap.lt C a7 (z6 g d e f i s)),trivial⟩⟩,⟨⟨(Ap.lt H a7 (z6 g d e f i s)),trivial⟩,⟨trivial,trivial⟩⟩⟩⟩
 refine cf (cA not ab)<|y1<|pu (vp Z 3) wN ?_
 have cd:=(bv.kp s)
 refine lN (pn a.Win S T) wN nJ ni cd ?_
 refine pu (vp az 8) wN ?_
 have ce:=(bw.kp s)
 refine ld (vi b.Seq) wN mT ce ?_
 refine cl wN (wV aJ _ a.Win (qX (af.from0 aM) ah) b.Seq) ?_
 rintro _ br ⟨ac,⟨K,L,rfl,ad,cg,cG⟩⟩
 refine mw (.tuple #[(va (pn ((qA a.Win b.Seq).1) K L)),(vb ((qA a.Win b.Seq).2))]) ?_
 refine pu (va (pn ((qA a.Win b.Seq).1) K L)) wN ?_
 refine pu (vb ((qA a.Win b.Seq).2)) wN ?_
 refine pu (vp bg 3) wN ?_
 have ci:=(((((a3.kp e).kp f).kp i).kp s).kp ac)
 refine st (va (pn ((qA a.Win b.Seq).1) K L)) (pn ((qA a.Win b.Seq).1) K L) (oi {(a) with Win:=((qA a.Win b.Seq).1):PEp} q r K L) wN ni ci ?_
 intro bX ae cj cH
 have ck:=(aM.extk ac).ext ae (fun k hk=>by subst hk;exact nT (z4 m l p j) y)
 refine nx<|lN (oi {(a) with Win:=((qA a.Win b.Seq).1):PEp} q r K L) wN nv mY cj ?_
 refine mw (vs V ((oS a.Key h b).1).length W) ?_
 have cm:=(((((((((a1.kp j).kp g).ch d (nN (nL x (nT j.size y)))).kp e).kp f).kp i).kp s).kp ac).ch ae (nN (nL x (nT j.size y))))
 refine sv (oi {(a) with Win:=((qA a.Win b.Seq).1):PEp} q r K L) wN mY cm ?_
 intro cI a8 cn cJ
 have co:=ck.ext a8 (fun k hk=>by subst hk;exact nT (z2 m l) a0)
 refine aw (vs V ((oS a.Key h b).1).length W) ?_
 refine aw (vi 0) ?_
 refine n3 ?_
 have cp:=fun (E sz n:Nat) (v:Value) (F:List Value) (o:World.ownsRow M G.heap.size E sz v n F) (D:World.ownsRow M G.heap.size E sz v n F)=>(gc (gc (mz (mz (mz (mz (mz (gc (mz o g) d (ne2 D (y))) e) f) i) s) ac) ae (ne2 D (y))) a8 (ne1 D (x)))
 have cq:=(cp _ _ _ _ _ C C)
 have cr:=(gc (gc ad ae (ne1 ad (nL bh (z5 d e f i s)))) a8 (ne1 ad (nL x (z7 j g d e f i s))))
 have cs:=(gc (gc (mz aa ac) ae (ne1 aa (nL bh (z4 d e f i)))) a8 (ne1 aa (nL x (z6 j g d e f i))))
 refine rc3 (oi {(a) with Win:=((qA a.Win b.Seq).1):PEp} q r K L) (vs V ((oS a.Key h b).1).length W) (vi 0) cn nv mY ?_
 refine ⟨co.keep0,?_⟩
 simp only [na,t,u,I,Q,ab,cond_true,cond_false]
 exact ⟨_,_,_,_,_,_,rfl,(mO cq (z3 m l p)),a2,(mO cr (z10 m l p j g d e f i s)),cg,(mO cs (z9 m l p j g d e f i)),bT,⟨⟨(Ap.lt C ad (z6 g d e f i s)),⟨(Ap.lt C aa (z5 g d e f i)),trivial⟩⟩,⟨⟨(Ap.lt aa ad (Nat.le_refl aJ.heap.size)).symm,trivial⟩,⟨trivial,trivial⟩⟩⟩⟩

def xR (w:World) (lo:Nat) (v:Value) (x:(PEp)×(List UInt8)×(Int)) (k:Option Addr×Nat→Option Addr×Nat→Option Addr×Nat→Prop):Prop:=∃ (a:Option Addr) (b:Nat) (d:Option Addr) (e:Nat) (f:Option Addr) (g:Nat),v=.tuple #[.agg #[.int .i64 x.1.N,.slice a x.1.Key.length b,.int .i64 x.1.Seq,.int .i64 x.1.Win.Top,.slice d x.1.Win.Bits.length e],.slice f x.2.1.length g,.int .i64 x.2.2]∧w.ownsRow lo 5 1 (.slice a x.1.Key.length b) x.1.Key.length (x.1.Key.map bV)∧x.1.Key.length≤1073741824∧w.ownsRow lo 3 1 (.slice d x.1.Win.Bits.length e) x.1.Win.Bits.length (x.1.Win.Bits.map iV)∧x.1.Win.Bits.length≤1073741824∧w.ownsRow lo 5 1 (.slice f x.2.1.length g) x.2.1.length (x.2.1.map bV)∧x.2.1.length≤1073741824∧Aps [(a,b),(d,e),(f,g)]∧k (a,b) (d,e) (f,g)
def oU (a:PChan) (d:Int) (b:PFrame):(PChan)×(List UInt8)×(Int):=bif (decide (0 < (a.Next.length:Int))) then (bif (decide (b.Epoch=(a.Cur.N+1))) then (bif (decide ((na (s_EpNew (a.Cur.N+1) a.Next) (1 - a.Role) b).2.2=0)) then (({Role:=(a).Role,Sn:=(a).Sn,Cur:=((na (s_EpNew (a.Cur.N+1) a.Next) (1 - a.Role) b).1),Old:=((a).Cur),HasOld:=true,Until:=(d+5),Next:=[]:PChan},(na (s_EpNew (a.Cur.N+1) a.Next) (1 - a.Role) b).2.1,0)) else (((a),[],(na (s_EpNew (a.Cur.N+1) a.Next) (1 - a.Role) b).2.2))) else (((a),[],8))) else (((a),[],8))
def pj (a:PChan) (d:Int) (b:PFrame):(PChan)×(List UInt8)×(Int):=bif (decide ((na a.Old (1 - a.Role) b).2.2=0)) then (({(a) with Old:=((na a.Old (1 - a.Role) b).1):PChan},(na a.Old (1 - a.Role) b).2.1,0)) else (((a),[],(na a.Old (1 - a.Role) b).2.2))
def s_ChanOpen (a:PChan) (d:Int) (b:PFrame):(PChan)×(List UInt8)×(Int):=bif (nP a) then (bif (nB d 0 1000000) then (bif (nC b) then (bif (oT b.Kind) then (bif (re b.Sn a.Sn) then (bif (decide (b.Epoch=a.Cur.N)) then (bif (decide ((na a.Cur (1 - a.Role) b).2.2=0)) then (bif a.HasOld then (bif (decide (a.Until=(-1))) then (({(a) with Cur:=((na a.Cur (1 - a.Role) b).1),Until:=(d+5):PChan},(na a.Cur (1 - a.Role) b).2.1,0)) else (({(a) with Cur:=((na a.Cur (1 - a.Role) b).1):PChan},(na a.Cur (1 - a.Role) b).2.1,0))) else (({(a) with Cur:=((na a.Cur (1 - a.Role) b).1):PChan},(na a.Cur (1 - a.Role) b).2.1,0))) else (((a),[],(na a.Cur (1 - a.Role) b).2.2))) else (bif a.HasOld then (bif (decide (b.Epoch=a.Old.N)) then (bif (decide (a.Until=(-1))) then ((pj a d b)) else (bif (decide (a.Until < d)) then (((a),[],9)) else ((pj a d b)))) else ((oU a d b))) else ((oU a d b)))) else (((a),[],8))) else (((a),[],1))) else (((a),[],1))) else (((a),[],1))) else (((a),[],1))
theorem xF (cg:World) (ez:Value) (a:PChan) (fd:zx cg ez a) (A:Int) (e0:Value) (b:PFrame) (fe:vg cg e0 b) :Fn Tryz.prog 8 #[ez,(vi A),e0] cg (fun v bo=>Keep cg bo∧vZ bo cg.heap.size v (s_ChanOpen a A b)):=by
 obtain ⟨c9,cC,cD,cE,cF,cG,cH,cI,cJ,cK,b7,b8,rfl,d0,d1,d2,d3,d4,d5,d6,d7,d8,d9,cZ,dA⟩:=fd
 obtain ⟨b9,bA,bp,bq,bB,bC,bD,bE,bF,bG,bH,bI,rfl,da,db,cL,cM,dc,dd,de,df,dg,dh,di,dj⟩:=fe
 refine nu (n:=174) [(va (oj a c9 cC cD cE cF cG cH cI cJ cK b7 b8)),(vi A),(va (oD b b9 bA bp bq bB bC bD bE bF bG bH bI))] Tryz.func8 rfl rfl ?_
 refine sr<|bx (oj a c9 cC cD cE cF cG cH cI cJ cK b7 b8) wN ?_
 intro aa dk ja dB j ff
 refine bx (oD b b9 bA bp bq bB bC bD bE bF bG bH bI) wN ?_
 intro aY jb jc fg f fh
 refine al tT wN pJ ?_
 intro cN ac aH O s aI
 have bJ:=(((Ch.base cg).extk j).extk f).extk s
 refine aw (vs none 0 0) ?_
 refine aw (vi 0) ?_
 refine nx ?_
 have e1:=((ff.kp f).kp s)
 refine lN (oj a c9 cC cD cE cF cG cH cI cJ cK b7 b8) wN nj mX e1 ?_
 refine cl wN (yL ac _ a (rW (d0.from0 bJ) d1 (d2.from0 bJ) d3 (d4.from0 bJ) d5 (d6.from0 bJ) d7 (d8.from0 bJ) d9 (cZ.from0 bJ) dA)) ?_
 rintro _ af ⟨x,⟨B,C,D,F,G,H,P,Q,R,S,I,J,rfl,M,aJ,V,aZ,W,ba,X,bb,Y,bc,T,aS,d⟩⟩
 refine al tT wN pJ ?_
 intro az jd K aK u fi
 refine sv (oj (a) B C D F G H P Q R S I J) wN mX fi ?_
 intro fj p aT je
 have br:=((bJ.extk x).extk u).ext p (fun k hk=>by subst hk;exact nT (z4 j f s x) K)
 refine n4<|jT1 [(1,(vi A)),(3,(vp aa 0)),(5,(vp aY 0)),(6,(vp cN 0)),(7,(vs none 0 0)),(8,(vi 0)),(9,(vp az 0))] (s_ChanOpen a A b=((a),[],1)) ?_ fun dl=>?_
 ·intro fk e2 a6 jf
  refine sr ?_
  have fl:=(aT.kp a6)
  refine lN (oj (a) B C D F G H P Q R S I J) wN nj mX fl ?_
  refine nF wN rfl rfl mR (fun w=>by kernel_rfl) ?_
  intro e3 e4 dC bu
  have fm:=(((((aI.kp x).kp u).ch p (nN (nL O (nT x.size K)))).kp a6).kp dC)
  refine sv (oj (a) B C D F G H P Q R S I J) wN mX fm ?_
  intro e5 dD fo jg
  have fp:=((br.extk a6).extk dC).ext dD (fun k hk=>by subst hk;exact nT (z2 j f) aH)
  refine aw (vs (some e3) 0 0) ?_
  refine aw (vi 1) ?_
  refine n1 ?_
  have ci:=fun (E sz n:Nat) (v:Value) (L:List Value) (o:World.ownsRow af ac.heap.size E sz v n L) (y:World.ownsRow af ac.heap.size E sz v n L)=>(gc (mz (mz (gc (mz o u) p (ne2 y (K))) a6) dC) dD (ne1 y (O)))
  have fq:=(ci _ _ _ _ _ M M)
  have fr:=(ci _ _ _ _ _ V V)
  have fs:=(ci _ _ _ _ _ W W)
  have ft:=(ci _ _ _ _ _ X X)
  have fu:=(ci _ _ _ _ _ Y Y)
  have fv:=(ci _ _ _ _ _ T T)
  have fw:=(gc bu dD (ne1 bu (nL O (z4 x u p a6))))
  refine rc3 (oj (a) B C D F G H P Q R S I J) (vs (some e3) 0 0) (vi 1) fo nj mX ?_
  refine ⟨fp.keep0,?_⟩
  rw [fk]
  exact ⟨_,_,_,_,_,_,_,_,_,_,_,_,_,_,rfl,(mO fq (z3 j f s)),aJ,(mO fr (z3 j f s)),aZ,(mO fs (z3 j f s)),ba,(mO ft (z3 j f s)),bb,(mO fu (z3 j f s)),bc,(mO fv (z3 j f s)),aS,(mO fw (z7 j f s x u p a6)),(by simp),⟨⟨(d.1.1),⟨(d.1.2.1),⟨(d.1.2.2.1),⟨(d.1.2.2.2.1),⟨(d.1.2.2.2.2.1),⟨(Ap.lt M bu (z3 u p a6)),trivial⟩⟩⟩⟩⟩⟩,⟨⟨(d.2.1.1),⟨(d.2.1.2.1),⟨(d.2.1.2.2.1),⟨(d.2.1.2.2.2.1),⟨(Ap.lt V bu (z3 u p a6)),trivial⟩⟩⟩⟩⟩,⟨⟨(d.2.2.1.1),⟨(d.2.2.1.2.1),⟨(d.2.2.1.2.2.1),⟨(Ap.lt W bu (z3 u p a6)),trivial⟩⟩⟩⟩,⟨⟨(d.2.2.2.1.1),⟨(d.2.2.2.1.2.1),⟨(Ap.lt X bu (z3 u p a6)),trivial⟩⟩⟩,⟨⟨(d.2.2.2.2.1.1),⟨(Ap.lt Y bu (z3 u p a6)),trivial⟩⟩,⟨⟨(Ap.lt T bu (z3 u p a6)),trivial⟩,⟨trivial,trivial⟩⟩⟩⟩⟩⟩⟩⟩
 have e6:=(((e1.kp x).kp u).ch p (nN (nL dB (nT (z3 f s x) K))))
 refine lN (oj a c9 cC cD cE cF cG cH cI cJ cK b7 b8) wN nj mX e6 ?_
 refine cl wN (wZ fj _ a (rW (d0.from0 br) d1 (d2.from0 br) d3 (d4.from0 br) d5 (d6.from0 br) d7 (d8.from0 br) d9 (cZ.from0 br) dA)) ?_
 rintro _ e2 ⟨i,rfl⟩
 refine pu (vb (!(nP a))) wN ?_
 refine mw (vb (!(nP a))) ?_
 rcases bf (nP a) with ah|ah
 ·iterate 3 refine sk (cA not ah) ?_
  refine pk vT wN (cA not ah) ?_
  refine mw vT ?_
  iterate 3 refine sk T1 ?_
  refine pk vT wN T1 ?_
  refine mw vT ?_
  iterate 4 refine sk T1 ?_
  refine pk vT wN T1 ?_
  refine n2<|ct T1 ?_
  have fx:s_ChanOpen a A b=((a),[],1):=by simp only [s_ChanOpen,ah,cond_true,cond_false]
  exact wj (dl fx _ i)
 have jh:=uA ah
 refine mv (vi A) (wS (cA not ah)) ?_
 refine cl (wS (cA not ah)) (pv e2 A 0 1000000) ?_
 rintro _ e4 ⟨l,rfl⟩
 have bK:=(br.extk i).extk l
 refine pu (vb (!(nB A 0 1000000))) (wS (cA not ah)) ?_
 refine pf (vb (!(nB A 0 1000000))) wN (cA not ah) ?_
 refine mw (vb (!(nB A 0 1000000))) ?_
 rcases bf (nB A 0 1000000) with ai|ai
 ·have ji:=og ai
  iterate 3 refine sk (cA not ai) ?_
  refine pk vT wN (cA not ai) ?_
  refine mw vT ?_
  iterate 4 refine sk T1 ?_
  refine pk vT wN T1 ?_
  refine n2<|ct T1 ?_
  have fy:s_ChanOpen a A b=((a),[],1):=by simp only [s_ChanOpen,ah,ai,cond_true,cond_false]
  exact wj (dl fy _ (i.trans l))
 have jj:=nS ai
 have e7:=((((((fh.kp s).kp x).kp u).ch p (nN (nL fg (nT (z2 s x) K)))).kp i).kp l)
 refine lN (oD b b9 bA bp bq bB bC bD bE bF bG bH bI) (wS (cA not ai)) nk mZ e7 ?_
 refine cl (wS (cA not ai)) (vR e4 _ b (qI (da.from0 bK) db (cL.from0 bK) cM (dc.from0 bK) dd (de.from0 bK) df (dg.from0 bK) dh (di.from0 bK) dj)) ?_
 rintro _ e5 ⟨m,rfl⟩
 refine pu (vb (!(nC b))) (wS (cA not ai)) ?_
 refine pf (vb (!(nC b))) wN (cA not ai) ?_
 refine mw (vb (!(nC b))) ?_
 rcases bf (nC b) with aj|aj
 ·iterate 4 refine sk (cA not aj) ?_
  refine pk vT wN (cA not aj) ?_
  refine n2<|ct T1 ?_
  have fz:s_ChanOpen a A b=((a),[],1):=by simp only [s_ChanOpen,ah,ai,aj,cond_true,cond_false]
  exact wj (dl fz _ ((i.trans l).trans m))
 have jk:=vI aj
 refine pu (vp aY 0) (wS (cA not aj)) ?_
 have e8:=(e7.kp m)
 refine ld (vi b.Kind) (wS (cA not aj)) mT e8 ?_
 refine cl (wS (cA not aj)) (tv e5 b.Kind) ?_
 rintro _ f0 ⟨q,rfl⟩
 have dE:=(bK.extk m).extk q
 refine pu (vb (!(oT b.Kind))) (wS (cA not aj)) ?_
 refine pf (vb (!(oT b.Kind))) wN (cA not aj) ?_
 refine n2 ?_
 rcases bf (oT b.Kind) with a0|a0
 ·refine ct (cA not a0) ?_
  have f3:s_ChanOpen a A b=((a),[],1):=by simp only [s_ChanOpen,ah,ai,aj,a0,cond_true,cond_false]
  exact wj (dl f3 _ (((i.trans l).trans m).trans q))
 refine cf (cA not a0)<|y2<|pu (vp aY 3) wN ?_
 have e9:=(e8.kp q)
 refine ld (vs bp b.Sn.length bq) wN nd e9 ?_
 refine pu (vp aa 1) wN ?_
 have eA:=((((e6.kp i).kp l).kp m).kp q)
 refine ld (vs c9 a.Sn.length cC) wN nd eA ?_
 refine cl wN (zY f0 _ b.Sn (nH (cL.from0 dE) cM) _ a.Sn (nH (d0.from0 dE) d1)) ?_
 rintro _ cO ⟨r,rfl⟩
 have a3:=dE.extk r
 refine pu (vb (!(re b.Sn a.Sn))) wN ?_
 refine n2 ?_
 rcases bf (re b.Sn a.Sn) with a4|a4
 ·refine ct (cA not a4)<|sr ?_
  have f4:=(((((aT.kp i).kp l).kp m).kp q).kp r)
  refine lN (oj (a) B C D F G H P Q R S I J) wN nj mX f4 ?_
  refine nF wN rfl rfl mR (fun w=>by kernel_rfl) ?_
  intro eB ak dG bv
  have f5:=(((((((((aI.kp x).kp u).ch p (nN (nL O (nT x.size K)))).kp i).kp l).kp m).kp q).kp r).kp dG)
  refine sv (oj (a) B C D F G H P Q R S I J) wN mX f5 ?_
  intro Z dH f6 jl
  have f7:=(a3.extk dG).ext dH (fun k hk=>by subst hk;exact nT (z2 j f) aH)
  refine aw (vs (some eB) 0 0) ?_
  refine aw (vi 8) ?_
  refine n1 ?_
  have cj:=fun (E sz n:Nat) (v:Value) (L:List Value) (o:World.ownsRow af ac.heap.size E sz v n L) (y:World.ownsRow af ac.heap.size E sz v n L)=>(gc (mz (mz (mz (mz (mz (mz (gc (mz o u) p (ne2 y (K))) i) l) m) q) r) dG) dH (ne1 y (O)))
  have f8:=(cj _ _ _ _ _ M M)
  have f9:=(cj _ _ _ _ _ V V)
  have fA:=(cj _ _ _ _ _ W W)
  have fB:=(cj _ _ _ _ _ X X)
  have fC:=(cj _ _ _ _ _ Y Y)
  have fD:=(cj _ _ _ _ _ T T)
  have fE:=(gc bv dH (ne1 bv (nL O (z8 x u p i l m q r))))
  refine rc3 (oj (a) B C D F G H P Q R S I J) (vs (some eB) 0 0) (vi 8) f6 nj mX ?_
  refine ⟨f7.keep0,?_⟩
  simp only [s_ChanOpen,ah,ai,aj,a0,a4,cond_true,cond_false]
  have ck:=z7 u p i l m q r
  exact ⟨_,_,_,_,_,_,_,_,_,_,_,_,_,_,rfl,(mO f8 (z3 j f s)),aJ,(mO f9 (z3 j f s)),aZ,(mO fA (z3 j f s)),ba,(mO fB (z3 j f s)),bb,(mO fC (z3 j f s)),bc,(mO fD (z3 j f s)),aS,(mO fE (z11 j f s x u p i l m q r)),(by simp),⟨⟨(d.1.1),⟨(d.1.2.1),⟨(d.1.2.2.1),⟨(d.1.2.2.2.1),⟨(d.1.2.2.2.2.1),⟨(Ap.lt M bv ck),trivial⟩⟩⟩⟩⟩⟩,⟨⟨(d.2.1.1),⟨(d.2.1.2.1),⟨(d.2.1.2.2.1),⟨(d.2.1.2.2.2.1),⟨(Ap.lt V bv ck),trivial⟩⟩⟩⟩⟩,⟨⟨(d.2.2.1.1),⟨(d.2.2.1.2.1),⟨(d.2.2.1.2.2.1),⟨(Ap.lt W bv ck),trivial⟩⟩⟩⟩,⟨⟨(d.2.2.2.1.1),⟨(d.2.2.2.1.2.1),⟨(Ap.lt X bv ck),trivial⟩⟩⟩,⟨⟨(d.2.2.2.2.1.1),⟨(Ap.lt Y bv ck),trivial⟩⟩,⟨⟨(Ap.lt T bv ck),trivial⟩,⟨trivial,trivial⟩⟩⟩⟩⟩⟩⟩⟩
 refine cf (cA not a4)<|y1<|pu (vp aa 0) wN ?_
 have aU:=(eA.kp r)
 refine ld (vi a.Role) wN mT aU ?_
 refine ar (1 - a.Role) wN ?_
 refine aw (vi (1 - a.Role)) ?_
 refine n4<|pu (vp aY 7) wN ?_
 have cP:=(e9.kp r)
 refine ld (vi b.Epoch) wN mT cP ?_
 refine pu (vp aa 2) wN ?_
 refine pu (vp aa 2) wN ?_
 refine ld (vi a.Cur.N) wN mT aU ?_
 refine pu (vb (decide (b.Epoch=a.Cur.N))) wN ?_
 refine n2 ?_
 rcases bt (decide (b.Epoch=a.Cur.N)) with a1|a1
 ·have jm:=dT a1
  refine ct a1<|sr<|pu (vp aa 2) wN ?_
  refine lN (oi a.Cur cD cE cF cG) wN nv mY aU ?_
  refine mw (vi (1 - a.Role)) ?_
  refine lN (oD b b9 bA bp bq bB bC bD bE bF bG bH bI) wN nk mZ cP ?_
  refine cl wN (uR cO _ a.Cur (qs (d2.from0 a3) d3 (d4.from0 a3) d5) (1 - a.Role) _ b (qI (da.from0 a3) db (cL.from0 a3) cM (dc.from0 a3) dd (de.from0 a3) df (dg.from0 a3) dh (di.from0 a3) dj)) ?_
  rintro _ ak ⟨ad,⟨ao,ap,aq,au,aV,aW,rfl,a7,eC,a8,eD,a9,eE,cm⟩⟩
  refine mw (.tuple #[(va (oi ((na a.Cur (1 - a.Role) b).1) ao ap aq au)),(vs aV ((na a.Cur (1 - a.Role) b).2.1).length aW),(vi ((na a.Cur (1 - a.Role) b).2.2))]) ?_
  refine pu (va (oi ((na a.Cur (1 - a.Role) b).1) ao ap aq au)) wN ?_
  refine pu (vs aV ((na a.Cur (1 - a.Role) b).2.1).length aW) wN ?_
  refine pu (vi ((na a.Cur (1 - a.Role) b).2.2)) wN ?_
  refine al se wN pm ?_
  intro jn Z aA jo av fF
  refine sv (oi ((na a.Cur (1 - a.Role) b).1) ao ap aq au) wN mY fF ?_
  intro bw ax fG jp
  have eF:=((a3.extk ad).extk av).ext ax (fun k hk=>by subst hk;exact nT (z12 j f s x u p i l m q r ad) aA)
  refine aw (vs aV ((na a.Cur (1 - a.Role) b).2.1).length aW) ?_
  refine aw (vi ((na a.Cur (1 - a.Role) b).2.2)) ?_
  refine n4<|mw (vi ((na a.Cur (1 - a.Role) b).2.2)) ?_
  refine pu (vb (!(decide ((na a.Cur (1 - a.Role) b).2.2=0)))) wN ?_
  refine n2 ?_
  rcases bf (decide ((na a.Cur (1 - a.Role) b).2.2=0)) with bd|bd
  ·have jq:=dF bd
   refine ct (cA not bd)<|sr ?_
   have fH:=((((((((aT.kp i).kp l).kp m).kp q).kp r).kp ad).kp av).ch ax (nN (nL aK (nT (z7 p i l m q r ad) aA))))
   refine lN (oj (a) B C D F G H P Q R S I J) wN nj mX fH ?_
   refine nF wN rfl rfl mR (fun w=>by kernel_rfl) ?_
   intro eG cQ dI bz
   refine mw (vi ((na a.Cur (1 - a.Role) b).2.2)) ?_
   have fI:=((((((((((((aI.kp x).kp u).ch p (nN (nL O (nT x.size K)))).kp i).kp l).kp m).kp q).kp r).kp ad).kp av).ch ax (nN (nL O (nT (z9 x u p i l m q r ad) aA)))).kp dI)
   refine sv (oj (a) B C D F G H P Q R S I J) wN mX fI ?_
   intro cR dJ fJ jr
   have fK:=(eF.extk dI).ext dJ (fun k hk=>by subst hk;exact nT (z2 j f) aH)
   refine aw (vs (some eG) 0 0) ?_
   refine aw (vi ((na a.Cur (1 - a.Role) b).2.2)) ?_
   refine mW<|mP<|oY<|np<|np ?_
   have cn:=fun (E sz n:Nat) (v:Value) (L:List Value) (o:World.ownsRow af ac.heap.size E sz v n L) (y:World.ownsRow af ac.heap.size E sz v n L)=>(gc (mz (gc (mz (mz (mz (mz (mz (mz (mz (gc (mz o u) p (ne2 y (K))) i) l) m) q) r) ad) av) ax (ne2 y (nT (z8 u p i l m q r ad) aA))) dI) dJ (ne1 y (O)))
   have fL:=(cn _ _ _ _ _ M M)
   have fM:=(cn _ _ _ _ _ V V)
   have fN:=(cn _ _ _ _ _ W W)
   have fO:=(cn _ _ _ _ _ X X)
   have fP:=(cn _ _ _ _ _ Y Y)
   have fQ:=(cn _ _ _ _ _ T T)
   have fR:=(gc bz dJ (ne1 bz (nL O (z11 x u p i l m q r ad av ax))))
   refine rc3 (oj (a) B C D F G H P Q R S I J) (vs (some eG) 0 0) (vi ((na a.Cur (1 - a.Role) b).2.2)) fJ nj mX ?_
   refine ⟨fK.keep0,?_⟩
   simp only [s_ChanOpen,ah,ai,aj,a0,a4,a1,bd,cond_true,cond_false]
   have co:=z10 u p i l m q r ad av ax
   exact ⟨_,_,_,_,_,_,_,_,_,_,_,_,_,_,rfl,(mO fL (z3 j f s)),aJ,(mO fM (z3 j f s)),aZ,(mO fN (z3 j f s)),ba,(mO fO (z3 j f s)),bb,(mO fP (z3 j f s)),bc,(mO fQ (z3 j f s)),aS,(mO fR (t3 (z12 j f s x u p i l m q r ad) av.size ax.size)),(by simp),⟨⟨(d.1.1),⟨(d.1.2.1),⟨(d.1.2.2.1),⟨(d.1.2.2.2.1),⟨(d.1.2.2.2.2.1),⟨(Ap.lt M bz co),trivial⟩⟩⟩⟩⟩⟩,⟨⟨(d.2.1.1),⟨(d.2.1.2.1),⟨(d.2.1.2.2.1),⟨(d.2.1.2.2.2.1),⟨(Ap.lt V bz co),trivial⟩⟩⟩⟩⟩,⟨⟨(d.2.2.1.1),⟨(d.2.2.1.2.1),⟨(d.2.2.1.2.2.1),⟨(Ap.lt W bz co),trivial⟩⟩⟩⟩,⟨⟨(d.2.2.2.1.1),⟨(d.2.2.2.1.2.1),⟨(Ap.lt X bz co),trivial⟩⟩⟩,⟨⟨(d.2.2.2.2.1.1),⟨(Ap.lt Y bz co),trivial⟩⟩,⟨⟨(Ap.lt T bz co),trivial⟩,⟨trivial,trivial⟩⟩⟩⟩⟩⟩⟩⟩
  have js:=dT bd
  refine cf (cA not bd)<|y1<|lN (oi ((na a.Cur (1 - a.Role) b).1) ao ap aq au) wN nv mY fG ?_
  refine pu (vp az 2) wN ?_
  have fS:=((((((((aT.kp i).kp l).kp m).kp q).kp r).kp ad).kp av).ch ax (nN (nL aK (nT (z7 p i l m q r ad) aA))))
  refine st (va (oi ((na a.Cur (1 - a.Role) b).1) ao ap aq au)) (oi ((na a.Cur (1 - a.Role) b).1) ao ap aq au) (oj {(a) with Cur:=((na a.Cur (1 - a.Role) b).1):PChan} B C ao ap aq au P Q R S I J) wN mY fS ?_
  intro cQ b0 eH jt
  have eI:=eF.ext b0 (fun k hk=>by subst hk;exact nT (z4 j f s x) K)
  refine n4<|jF1 [(1,(vi A)),(3,(vp aa 0)),(5,(vp aY 0)),(6,(vp cN 0)),(7,(vs none 0 0)),(8,(vi 0)),(9,(vp az 0)),(10,(vi (1 - a.Role))),(12,(vs aV ((na a.Cur (1 - a.Role) b).2.1).length aW))] (s_ChanOpen a A b=({(a) with Cur:=((na a.Cur (1 - a.Role) b).1):PChan},(na a.Cur (1 - a.Role) b).2.1,0)) ?_ fun eJ=>?_
  ·intro fT cR cS ju
   refine y1 ?_
   have fU:=(eH.kp cS)
   refine lN (oj {(a) with Cur:=((na a.Cur (1 - a.Role) b).1):PChan} B C ao ap aq au P Q R S I J) wN nj mX fU ?_
   refine mw (vs aV ((na a.Cur (1 - a.Role) b).2.1).length aW) ?_
   have fV:=(((((((((((((aI.kp x).kp u).ch p (nN (nL O (nT x.size K)))).kp i).kp l).kp m).kp q).kp r).kp ad).kp av).ch ax (nN (nL O (nT (z9 x u p i l m q r ad) aA)))).ch b0 (nN (nL O (nT x.size K)))).kp cS)
   refine sv (oj {(a) with Cur:=((na a.Cur (1 - a.Role) b).1):PChan} B C ao ap aq au P Q R S I J) wN mX fV ?_
   intro dm dK fW jv
   have fX:=(eI.extk cS).ext dK (fun k hk=>by subst hk;exact nT (z2 j f) aH)
   refine aw (vs aV ((na a.Cur (1 - a.Role) b).2.1).length aW) ?_
   refine aw (vi 0) ?_
   refine n1 ?_
   have dn:=fun (E sz n:Nat) (v:Value) (L:List Value) (o:World.ownsRow af ac.heap.size E sz v n L) (y:World.ownsRow af ac.heap.size E sz v n L)=>(gc (mz (gc (gc (mz (mz (mz (mz (mz (mz (mz (gc (mz o u) p (ne2 y (K))) i) l) m) q) r) ad) av) ax (ne2 y (nT (z8 u p i l m q r ad) aA))) b0 (ne2 y (K))) cS) dK (ne1 y (O)))
   have fY:=(dn _ _ _ _ _ M M)
   have dL:=fun (E sz n:Nat) (v:Value) (L:List Value) (o:World.ownsRow ak cO.heap.size E sz v n L) (y:World.ownsRow ak cO.heap.size E sz v n L)=>(gc (mz (gc (gc (mz o av) ax (ne2 y (aA))) b0 (ne1 y (nL aK (z6 p i l m q r)))) cS) dK (ne1 y (nL O (z8 x u p i l m q r))))
   have fZ:=(dL _ _ _ _ _ a7 a7)
   have ga:=(dL _ _ _ _ _ a8 a8)
   have gb:=(dn _ _ _ _ _ X X)
   have gd:=(dn _ _ _ _ _ Y Y)
   have ge:=(dn _ _ _ _ _ T T)
   have gf:=(dL _ _ _ _ _ a9 a9)
   refine rc3 (oj {(a) with Cur:=((na a.Cur (1 - a.Role) b).1):PChan} B C ao ap aq au P Q R S I J) (vs aV ((na a.Cur (1 - a.Role) b).2.1).length aW) (vi 0) fW nj mX ?_
   refine ⟨fX.keep0,?_⟩
   rw [fT]
   have dM:=z11 j f s x u p i l m q r
   have aB:=z7 u p i l m q r
   exact ⟨_,_,_,_,_,_,_,_,_,_,_,_,_,_,rfl,(mO fY (z3 j f s)),aJ,(mO fZ dM),eC,(mO ga dM),eD,(mO gb (z3 j f s)),bb,(mO gd (z3 j f s)),bc,(mO ge (z3 j f s)),aS,(mO gf dM),eE,⟨⟨(Ap.lt M a7 aB),⟨(Ap.lt M a8 aB),⟨(d.1.2.2.1),⟨(d.1.2.2.2.1),⟨(d.1.2.2.2.2.1),⟨(Ap.lt M a9 aB),trivial⟩⟩⟩⟩⟩⟩,⟨⟨(cm.1.1),⟨(Ap.lt X a7 aB).symm,⟨(Ap.lt Y a7 aB).symm,⟨(Ap.lt T a7 aB).symm,⟨(cm.1.2.1),trivial⟩⟩⟩⟩⟩,⟨⟨(Ap.lt X a8 aB).symm,⟨(Ap.lt Y a8 aB).symm,⟨(Ap.lt T a8 aB).symm,⟨(cm.2.1.1),trivial⟩⟩⟩⟩,⟨⟨(d.2.2.2.1.1),⟨(d.2.2.2.1.2.1),⟨(Ap.lt X a9 aB),trivial⟩⟩⟩,⟨⟨(d.2.2.2.2.1.1),⟨(Ap.lt Y a9 aB),trivial⟩⟩,⟨⟨(Ap.lt T a9 aB),trivial⟩,⟨trivial,trivial⟩⟩⟩⟩⟩⟩⟩⟩
  refine pu (vp aa 12) wN ?_
  have eK:=((((aU.kp ad).kp av).ch ax (nN (nL dB (nT (z11 f s x u p i l m q r ad) aA)))).ch b0 (nN (nL dB (nT (z3 f s x) K))))
  refine ld (vb a.HasOld) wN qC eK ?_
  refine mw (vb a.HasOld) ?_
  rcases bf a.HasOld with aX|aX
  ·iterate 3 refine sk aX ?_
   refine pf vF wN aX ?_
   refine n2<|cf F1 ?_
   have gg:s_ChanOpen a A b=({(a) with Cur:=((na a.Cur (1 - a.Role) b).1):PChan},(na a.Cur (1 - a.Role) b).2.1,0):=by simp only [s_ChanOpen,ah,ai,aj,a0,a4,a1,bd,aX,cond_true,cond_false]
   exact wj (eJ gg _ (Ch.refl _ _))
  refine pu (vp aa 13) (wS aX) ?_
  refine ld (vi a.Until) (wS aX) mT eK ?_
  refine pu (vb (decide (a.Until=(-1)))) (wS aX) ?_
  refine pk (vb (decide (a.Until=(-1)))) wN aX ?_
  refine n2 ?_
  rcases bf (decide (a.Until=(-1))) with bL|bL
  ·have jw:=dF bL
   refine cf bL ?_
   have gh:s_ChanOpen a A b=({(a) with Cur:=((na a.Cur (1 - a.Role) b).1):PChan},(na a.Cur (1 - a.Role) b).2.1,0):=by simp only [s_ChanOpen,ah,ai,aj,a0,a4,a1,bd,aX,bL,cond_true,cond_false]
   exact wj (eJ gh _ (Ch.refl _ _))
  have jx:=dT bL
  refine ct bL<|mV ?_
  refine mw (vi A) ?_
  refine ar (A+5) wN ?_
  refine pu (vp az 13) wN ?_
  refine sf (vi (A+5)) wN nV eH ?_
  intro cR dp gi jy
  have gj:=eI.ext dp (fun k hk=>by subst hk;exact nT (z4 j f s x) K)
  refine nx<|lN (oj {(a) with Cur:=((na a.Cur (1 - a.Role) b).1),Until:=(A+5):PChan} B C ao ap aq au P Q R S I J) wN nj mX gi ?_
  refine mw (vs aV ((na a.Cur (1 - a.Role) b).2.1).length aW) ?_
  have dN:=nL O (nT x.size K)
  have gk:=(((((((((((((aI.kp x).kp u).ch p (nN dN)).kp i).kp l).kp m).kp q).kp r).kp ad).kp av).ch ax (nN (nL O (nT (z9 x u p i l m q r ad) aA)))).ch b0 (nN dN)).ch dp (nN dN))
  refine sv (oj {(a) with Cur:=((na a.Cur (1 - a.Role) b).1),Until:=(A+5):PChan} B C ao ap aq au P Q R S I J) wN mX gk ?_
  intro dm dO gl jz
  have gm:=gj.ext dO (fun k hk=>by subst hk;exact nT (z2 j f) aH)
  refine aw (vs aV ((na a.Cur (1 - a.Role) b).2.1).length aW) ?_
  refine aw (vi 0) ?_
  refine n1 ?_
  have dq:=fun (E sz n:Nat) (v:Value) (L:List Value) (o:World.ownsRow af ac.heap.size E sz v n L) (y:World.ownsRow af ac.heap.size E sz v n L)=>(gc (gc (gc (gc (mz (mz (mz (mz (mz (mz (mz (gc (mz o u) p (ne2 y (K))) i) l) m) q) r) ad) av) ax (ne2 y (nT (z8 u p i l m q r ad) aA))) b0 (ne2 y (K))) dp (ne2 y (K))) dO (ne1 y (O)))
  have gn:=(dq _ _ _ _ _ M M)
  have dP:=fun (E sz n:Nat) (v:Value) (L:List Value) (o:World.ownsRow ak cO.heap.size E sz v n L) (y:World.ownsRow ak cO.heap.size E sz v n L)=>(gc (gc (gc (gc (mz o av) ax (ne2 y (aA))) b0 (ne1 y (nL aK (z6 p i l m q r)))) dp (ne1 y (nL aK (z6 p i l m q r)))) dO (ne1 y (nL O (z8 x u p i l m q r))))
  have gp:=(dP _ _ _ _ _ a7 a7)
  have gq:=(dP _ _ _ _ _ a8 a8)
  have gr:=(dq _ _ _ _ _ X X)
  have gs:=(dq _ _ _ _ _ Y Y)
  have gu:=(dq _ _ _ _ _ T T)
  have gv:=(dP _ _ _ _ _ a9 a9)
  refine rc3 (oj {(a) with Cur:=((na a.Cur (1 - a.Role) b).1),Until:=(A+5):PChan} B C ao ap aq au P Q R S I J) (vs aV ((na a.Cur (1 - a.Role) b).2.1).length aW) (vi 0) gl nj mX ?_
  refine ⟨gm.keep0,?_⟩
  simp only [s_ChanOpen,ah,ai,aj,a0,a4,a1,bd,aX,bL,cond_true,cond_false]
  have dQ:=z11 j f s x u p i l m q r
  have aC:=z7 u p i l m q r
  exact ⟨_,_,_,_,_,_,_,_,_,_,_,_,_,_,rfl,(mO gn (z3 j f s)),aJ,(mO gp dQ),eC,(mO gq dQ),eD,(mO gr (z3 j f s)),bb,(mO gs (z3 j f s)),bc,(mO gu (z3 j f s)),aS,(mO gv dQ),eE,⟨⟨(Ap.lt M a7 aC),⟨(Ap.lt M a8 aC),⟨(d.1.2.2.1),⟨(d.1.2.2.2.1),⟨(d.1.2.2.2.2.1),⟨(Ap.lt M a9 aC),trivial⟩⟩⟩⟩⟩⟩,⟨⟨(cm.1.1),⟨(Ap.lt X a7 aC).symm,⟨(Ap.lt Y a7 aC).symm,⟨(Ap.lt T a7 aC).symm,⟨(cm.1.2.1),trivial⟩⟩⟩⟩⟩,⟨⟨(Ap.lt X a8 aC).symm,⟨(Ap.lt Y a8 aC).symm,⟨(Ap.lt T a8 aC).symm,⟨(cm.2.1.1),trivial⟩⟩⟩⟩,⟨⟨(d.2.2.2.1.1),⟨(d.2.2.2.1.2.1),⟨(Ap.lt X a9 aC),trivial⟩⟩⟩,⟨⟨(d.2.2.2.2.1.1),⟨(Ap.lt Y a9 aC),trivial⟩⟩,⟨⟨(Ap.lt T a9 aC),trivial⟩,⟨trivial,trivial⟩⟩⟩⟩⟩⟩⟩⟩
 have j0:=dF a1
 refine cf a1<|y2<|jF1 [(1,(vi A)),(3,(vp aa 0)),(5,(vp aY 0)),(6,(vp cN 0)),(7,(vs none 0 0)),(8,(vi 0)),(9,(vp az 0)),(10,(vi (1 - a.Role)))] (s_ChanOpen a A b=(oU a A b)) ?_ fun eL=>?_
 ·intro dr ak ab j1
  have cT:=a3.extk ab
  refine y2<|jF1 [(6,(vp cN 0)),(7,(vs none 0 0)),(8,(vi 0)),(9,(vp az 0))] (s_ChanOpen a A b=((a),[],8)) ?_ fun eM=>?_
  ·intro gw Z bM j2
   refine y1 ?_
   have gx:=(((((((aT.kp i).kp l).kp m).kp q).kp r).kp ab).kp bM)
   refine lN (oj (a) B C D F G H P Q R S I J) wN nj mX gx ?_
   refine nF wN rfl rfl mR (fun w=>by kernel_rfl) ?_
   intro eN bw dR b1
   have gy:=(((((((((((aI.kp x).kp u).ch p (nN (nL O (nT x.size K)))).kp i).kp l).kp m).kp q).kp r).kp ab).kp bM).kp dR)
   refine sv (oj (a) B C D F G H P Q R S I J) wN mX gy ?_
   intro cQ dS gz j3
   have g0:=((cT.extk bM).extk dR).ext dS (fun k hk=>by subst hk;exact nT (z2 j f) aH)
   refine aw (vs (some eN) 0 0) ?_
   refine aw (vi 8) ?_
   refine n3 ?_
   have cp:=fun (E sz n:Nat) (v:Value) (L:List Value) (o:World.ownsRow af ac.heap.size E sz v n L) (y:World.ownsRow af ac.heap.size E sz v n L)=>(gc (mz (mz (mz (mz (mz (mz (mz (mz (gc (mz o u) p (ne2 y (K))) i) l) m) q) r) ab) bM) dR) dS (ne1 y (O)))
   have g1:=(cp _ _ _ _ _ M M)
   have g2:=(cp _ _ _ _ _ V V)
   have g3:=(cp _ _ _ _ _ W W)
   have g4:=(cp _ _ _ _ _ X X)
   have g5:=(cp _ _ _ _ _ Y Y)
   have g6:=(cp _ _ _ _ _ T T)
   have g7:=(gc b1 dS (ne1 b1 (nL O (z10 x u p i l m q r ab bM))))
   refine rc3 (oj (a) B C D F G H P Q R S I J) (vs (some eN) 0 0) (vi 8) gz nj mX ?_
   refine ⟨g0.keep0,?_⟩
   rw [gw]
   have cq:=z9 u p i l m q r ab bM
   exact ⟨_,_,_,_,_,_,_,_,_,_,_,_,_,_,rfl,(mO g1 (z3 j f s)),aJ,(mO g2 (z3 j f s)),aZ,(mO g3 (z3 j f s)),ba,(mO g4 (z3 j f s)),bb,(mO g5 (z3 j f s)),bc,(mO g6 (z3 j f s)),aS,(mO g7 (nT (z12 j f s x u p i l m q r ab) bM.size)),(by simp),⟨⟨(d.1.1),⟨(d.1.2.1),⟨(d.1.2.2.1),⟨(d.1.2.2.2.1),⟨(d.1.2.2.2.2.1),⟨(Ap.lt M b1 cq),trivial⟩⟩⟩⟩⟩⟩,⟨⟨(d.2.1.1),⟨(d.2.1.2.1),⟨(d.2.1.2.2.1),⟨(d.2.1.2.2.2.1),⟨(Ap.lt V b1 cq),trivial⟩⟩⟩⟩⟩,⟨⟨(d.2.2.1.1),⟨(d.2.2.1.2.1),⟨(d.2.2.1.2.2.1),⟨(Ap.lt W b1 cq),trivial⟩⟩⟩⟩,⟨⟨(d.2.2.2.1.1),⟨(d.2.2.2.1.2.1),⟨(Ap.lt X b1 cq),trivial⟩⟩⟩,⟨⟨(d.2.2.2.2.1.1),⟨(Ap.lt Y b1 cq),trivial⟩⟩,⟨⟨(Ap.lt T b1 cq),trivial⟩,⟨trivial,trivial⟩⟩⟩⟩⟩⟩⟩⟩
  refine pu (vp aa 14) wN ?_
  have ds:=(aU.kp ab)
  refine ld (vs b7 a.Next.length b8) wN nd ds ?_
  refine ln wN mR (cZ.from0 cT) ?_
  refine pu (vb (decide (0 < (a.Next.length:Int)))) wN ?_
  refine mw (vb (decide (0 < (a.Next.length:Int)))) ?_
  rcases bf (decide (0 < (a.Next.length:Int))) with am|am
  ·have j4:=dF am
   iterate 7 refine sk am ?_
   refine pf vF wN am ?_
   refine n2<|cf F1 ?_
   have g8:s_ChanOpen a A b=((a),[],8):=by rw [dr];simp only [oU,am,cond_true,cond_false]
   exact wj (eM g8 _ (Ch.refl _ _))
  have j5:=dT am
  refine pu (vp aY 7) (wS am) ?_
  have eO:=(cP.kp ab)
  refine ld (vi b.Epoch) (wS am) mT eO ?_
  refine pu (vp aa 2) (wS am) ?_
  refine pu (vp aa 2) (wS am) ?_
  refine ld (vi a.Cur.N) (wS am) mT ds ?_
  refine ar (a.Cur.N+1) (wS am) ?_
  refine pu (vb (decide (b.Epoch=(a.Cur.N+1)))) (wS am) ?_
  refine pk (vb (decide (b.Epoch=(a.Cur.N+1)))) wN am ?_
  refine n2 ?_
  rcases bf (decide (b.Epoch=(a.Cur.N+1))) with b2|b2
  ·have j6:=dF b2
   refine cf b2 ?_
   have g9:s_ChanOpen a A b=((a),[],8):=by rw [dr];simp only [oU,am,b2,cond_true,cond_false]
   exact wj (eM g9 _ (Ch.refl _ _))
  have j7:=dT b2
  refine ct b2<|nh<|ob ([(141,[],[],(fun _ v _=>v=(vp aa 2))),(142,[],[0],(fun _ v _=>v=(vp aa 2))),(143,[],[0,1],(fun _ v _=>v=(vi a.Cur.N))),(144,[],[0,1,2],(fun _ v _=>v=(vi (a.Cur.N+1)))),(145,[],[],(fun _ v _=>v=(vp aa 14))),(146,[],[4],(fun _ v _=>v=(vs b7 a.Next.length b8))),(147,[],[0,1,2,3,4,5],(fun _ v w=>Ar w ak.heap.size v (s_EpNew (a.Cur.N+1) a.Next))),(148,[],[],(fun _ v _=>v=(vi (1 - a.Role)))),(149,[],[],(fun _ v _=>v=(va (oD b b9 bA bp bq bB bC bD bE bF bG bH bI)))),(150,[147],[0,1,2,3,4,5,6,7,8],(fun e v w=>xR w ak.heap.size v (na (s_EpNew (a.Cur.N+1) a.Next) (1 - a.Role) b) (fun eP eQ eR=>Ap (sp (pr (e 147) 1)) eP∧Ap (sp (pr (e 147) 1)) eQ∧Ap (sp (pr (e 147) 1)) eR∧Ap (sp (pr (e 147) 4)) eP∧Ap (sp (pr (e 147) 4)) eQ∧Ap (sp (pr (e 147) 4)) eR))),(140,[150],[0,1,2,3,4,5,6,7,8,9],(fun e v _=>v=(.tuple #[(.agg #[(vi (((na (s_EpNew (a.Cur.N+1) a.Next) (1 - a.Role) b).1).N)),(pr (qZ (e 150) 0) 1),(vi (((na (s_EpNew (a.Cur.N+1) a.Next) (1 - a.Role) b).1).Seq)),(vi ((((na (s_EpNew (a.Cur.N+1) a.Next) (1 - a.Role) b).1).Win).Top)),(pr (qZ (e 150) 0) 4)]),(qZ (e 150) 1),(vi ((na (s_EpNew (a.Cur.N+1) a.Next) (1 - a.Role) b).2.2))]))),(151,[150],[0,1,2,3,4,5,6,7,8,9,10],(fun e v _=>v=(.agg #[(vi (((na (s_EpNew (a.Cur.N+1) a.Next) (1 - a.Role) b).1).N)),(pr (qZ (e 150) 0) 1),(vi (((na (s_EpNew (a.Cur.N+1) a.Next) (1 - a.Role) b).1).Seq)),(vi ((((na (s_EpNew (a.Cur.N+1) a.Next) (1 - a.Role) b).1).Win).Top)),(pr (qZ (e 150) 0) 4)]))),(152,[150],[0,1,2,3,4,5,6,7,8,9,10],(fun e v _=>v=(qZ (e 150) 1))),(153,[],[0,1,2,3,4,5,6,7,8,9,10],(fun _ v _=>v=(vi ((na (s_EpNew (a.Cur.N+1) a.Next) (1 - a.Role) b).2.2)))),(17,[],[],(fun _ v w=>∃ (g:Nat) (bN bO bP bQ bR:Value),v=vp g 0∧ak.heap.size≤g∧Blk w g 36 [bN,bO,bP,bQ,bR])),(189,[17,150],[0,1,2,3,4,5,6,7,8,9,10,11,14],(fun e _ w=>∃ g:Nat,e 17=vp g 0∧ak.heap.size≤g∧Blk w g 36 [(vi (((na (s_EpNew (a.Cur.N+1) a.Next) (1 - a.Role) b).1).N)),(pr (qZ (e 150) 0) 1),(vi (((na (s_EpNew (a.Cur.N+1) a.Next) (1 - a.Role) b).1).Seq)),(vi ((((na (s_EpNew (a.Cur.N+1) a.Next) (1 - a.Role) b).1).Win).Top)),(pr (qZ (e 150) 0) 4)])),(18,[150],[0,1,2,3,4,5,6,7,8,9,10,11,12,14,15],(fun e v _=>v=(qZ (e 150) 1)))]:GV) (fun _ bo=>Keep ak bo) [(15,fun w bo=>∃ g:Nat,ak.heap.size≤g∧(∃ bN bO bP bQ bR:Value,Blk w g 36 [bN,bO,bP,bQ,bR])∧Ch (fun k=>k=g) w bo∧∃ bN bO bP bQ bR:Value,Blk bo g 36 [bN,bO,bP,bQ,bR])] oM rfl (by kernel_rfl) (by kernel_rfl) ?_ (fun _ _ h=>h) (fun _ _ _ _ h _ k=>h.trans k) ⟨(fun _ _ w bo h _ _ t=>by obtain ⟨g,hle,-,gA,-⟩:=t;exact h.new gA (fun k hk=>by have j8:k=g:=hk;omega)),trivial⟩ ?_ ?_ ?_
  ·exact ⟨hV,hE,⟨hV,hE,⟨hV,hE,⟨hV,hE,⟨hV,hE,⟨hV,hE,⟨(fun e v w dk h hk=>by obtain ⟨bS,bT,bU,bW,he,bX,bY,bZ,ca,hap⟩:=h;exact ⟨bS,bT,bU,bW,he,mz bX hk,bY,mz bZ hk,ca,hap⟩),hE,⟨hV,hE,⟨hV,hE,⟨(fun e v w dk h hk=>by obtain ⟨bS,bT,bU,bW,dU,dV,he,bX,bY,bZ,ca,dW,dX,hap,hx⟩:=h;exact ⟨bS,bT,bU,bW,dU,dV,he,mz bX hk,bY,mz bZ hk,ca,mz dW hk,dX,hap,hx⟩),(fun cU cV v w hx h=>by have gB:=hx 147 (by simp);simp only [gB] at h;exact h),⟨hV,(fun cU cV v w hx h=>by have be:=hx 150 (by simp);simp only [be] at h;exact h),⟨hV,(fun cU cV v w hx h=>by have be:=hx 150 (by simp);simp only [be] at h;exact h),⟨hV,(fun cU cV v w hx h=>by have be:=hx 150 (by simp);simp only [be] at h;exact h),⟨hV,hE,⟨(fun e v w dk h hk=>by obtain ⟨g,bN,bO,bP,bQ,bR,he,hle,hb⟩:=h;exact ⟨g,_,_,_,_,_,he,hle,hb.kp hk⟩),hE,⟨(fun e v w dk h hk=>by obtain ⟨g,he,hle,hb⟩:=h;exact ⟨g,he,hle,hb.kp hk⟩),(fun cU cV v w hx h=>by have gC:=hx 17 (by simp);have be:=hx 150 (by simp);simp only [gC,be] at h;exact h),⟨hV,(fun cU cV v w hx h=>by have be:=hx 150 (by simp);simp only [be] at h;exact h),trivial⟩⟩⟩⟩⟩⟩⟩⟩⟩⟩⟩⟩⟩⟩⟩⟩⟩
  ·exact ⟨⟨.inr hV,⟨.inr hV,⟨.inr hV,⟨.inr hV,⟨.inr hV,⟨.inr hV,⟨.inr (fun e v wX wY h ht=>by obtain ⟨bS,bT,bU,bW,he,bX,bY,bZ,ca,hap⟩:=h;obtain ⟨gt,hlt,⟨_,_,_,_,_,hbt⟩,hct,⟨_,_,_,_,_,dY⟩⟩:=ht;exact ⟨bS,bT,bU,bW,he,ny bX hbt (by decide) hct,bY,ny bZ hbt (by decide) hct,ca,hap⟩),⟨.inr hV,⟨.inr hV,⟨.inr (fun e v wX wY h ht=>by obtain ⟨bS,bT,bU,bW,dU,dV,he,bX,bY,bZ,ca,dW,dX,hap,hx⟩:=h;obtain ⟨gt,hlt,⟨_,_,_,_,_,hbt⟩,hct,⟨_,_,_,_,_,dY⟩⟩:=ht;exact ⟨bS,bT,bU,bW,dU,dV,he,ny bX hbt (by decide) hct,bY,ny bZ hbt (by decide) hct,ca,ny dW hbt (by decide) hct,dX,hap,hx⟩),⟨.inr hV,⟨.inr hV,⟨.inr hV,⟨.inr hV,⟨.inr (fun e v wX wY h ht=>by obtain ⟨g,bN,bO,bP,bQ,bR,he,hle,hb⟩:=h;obtain ⟨gt,hlt,⟨_,_,_,_,_,hbt⟩,hct,⟨_,_,_,_,_,dY⟩⟩:=ht;by_cases hg:g=gt;(· subst hg;exact ⟨g,_,_,_,_,_,he,hle,dY⟩);(· exact ⟨g,_,_,_,_,_,he,hle,hb.ch hct hg⟩)),⟨.inl rfl,⟨.inr hV,trivial⟩⟩⟩⟩⟩⟩⟩⟩⟩⟩⟩⟩⟩⟩⟩⟩⟩,trivial⟩
  ·refine ⟨?_,⟨?_,⟨?_,⟨?_,⟨?_,⟨?_,⟨?_,⟨?_,⟨?_,⟨?_,⟨?_,⟨?_,⟨?_,⟨?_,⟨?_,⟨?_,⟨?_,trivial⟩⟩⟩⟩⟩⟩⟩⟩⟩⟩⟩⟩⟩⟩⟩⟩⟩
   ·intro _ Z j9 _
    iterate 17 intro _
    refine sw<|pu (vp aa 2) wN ?_
    exact f1
   ·intro _ Z jA _
    rintro _ rfl;iterate 16 intro _
    refine sw<|pu (vp aa 2) wN ?_
    exact f1
   ·intro _ Z gD _
    rintro _ rfl _ rfl;iterate 15 intro _
    refine sw ?_
    have gE:=(ds.kp gD)
    refine ld (vi a.Cur.N) wN mT gE ?_
    exact f1
   ·intro _ Z jC _
    rintro _ rfl _ rfl _ rfl;iterate 14 intro _
    refine sw<|ar (a.Cur.N+1) wN ?_
    exact f1
   ·intro _ Z jD _
    iterate 17 intro _
    refine sw<|pu (vp aa 14) wN ?_
    exact f1
   ·intro _ Z gF _
    rintro _ _ _ _ _ rfl _ _ _ _ _ _ _ _ _ _ _ _
    refine sw ?_
    have gG:=(ds.kp gF)
    refine ld (vs b7 a.Next.length b8) wN nd gG ?_
    exact f1
   ·intro _ Z dZ _
    have gH:=cT.extk dZ
    rintro _ rfl _ rfl _ rfl _ rfl _ rfl _ rfl _ _ _ _ _ _ _ _ _ _ _
    refine sw<|cl wN (tM Z (a.Cur.N+1) _ a.Next (nH (cZ.from0 gH) dA)) ?_
    rintro _ bw ⟨gI,⟨jE,jF,jG,jH,rfl,gJ,gK,gL,gM,gN⟩⟩
    exact nK gI ⟨_,_,_,_,rfl,(mO gJ dZ.size),gK,(mO gL dZ.size),gM,gN⟩
   ·intro _ Z jI _
    iterate 17 intro _
    refine sw<|mw (vi (1 - a.Role)) ?_
    exact f1
   ·intro _ Z gO _
    iterate 17 intro _
    refine sw ?_
    have gP:=(eO.kp gO)
    refine lN (oD b b9 bA bp bq bB bC bD bE bF bG bH bI) wN nk mZ gP ?_
    exact f1
   ·intro _ Z dt _
    have cr:=cT.extk dt
    rintro _ rfl _ rfl _ rfl _ rfl _ rfl _ rfl _ ⟨jJ,jK,jL,jM,rfl,du,gQ,dv,gR,jN⟩ _ rfl _ rfl _ _ _ _ _ _ _ _
    refine sw<|cl wN (uR Z _ (s_EpNew (a.Cur.N+1) a.Next) (qs (Rd.of_own du) gQ (Rd.of_own dv) gR) (1 - a.Role) _ b (qI (da.from0 cr) db (cL.from0 cr) cM (dc.from0 cr) dd (de.from0 cr) df (dg.from0 cr) dh (di.from0 cr) dj)) ?_
    rintro _ bw ⟨gS,⟨jO,jP,jQ,jR,jS,jT,rfl,ea,gT,ec,gU,ed,gV,gW⟩⟩
    exact nK gS ⟨_,_,_,_,_,_,rfl,(mO ea dt.size),gT,(mO ec dt.size),gU,(mO ed dt.size),gV,gW,⟨(Ap.lt du ea (Nat.le_refl _)),(Ap.lt du ec (Nat.le_refl _)),(Ap.lt du ed (Nat.le_refl _)),(Ap.lt dv ea (Nat.le_refl _)),(Ap.lt dv ec (Nat.le_refl _)),(Ap.lt dv ed (Nat.le_refl _))⟩⟩
   ·intro _ Z jU _
    rintro _ rfl _ rfl _ rfl _ rfl _ rfl _ rfl _ ⟨jV,jW,jX,jY,rfl,_⟩ _ rfl _ rfl _ ⟨gX,gY,gZ,ha,hc,hd,rfl,_⟩ _ _ _ _ _ _ _
    refine sw<|mw (.tuple #[(va (oi ((na (s_EpNew (a.Cur.N+1) a.Next) (1 - a.Role) b).1) gX gY gZ ha)),(vs hc ((na (s_EpNew (a.Cur.N+1) a.Next) (1 - a.Role) b).2.1).length hd),(vi ((na (s_EpNew (a.Cur.N+1) a.Next) (1 - a.Role) b).2.2))]) ?_
    exact f1
   ·intro _ Z jZ _
    rintro _ rfl _ rfl _ rfl _ rfl _ rfl _ rfl _ ⟨ka,kb,kc,kd,rfl,_⟩ _ rfl _ rfl _ ⟨hf,hh,hi,hj,ke,kf,rfl,_⟩ _ rfl _ _ _ _ _ _
    refine sw<|pu (va (oi ((na (s_EpNew (a.Cur.N+1) a.Next) (1 - a.Role) b).1) hf hh hi hj)) wN ?_
    exact f1
   ·intro _ Z kg _
    rintro _ rfl _ rfl _ rfl _ rfl _ rfl _ rfl _ ⟨kh,ki,kj,kk,rfl,_⟩ _ rfl _ rfl _ ⟨kl,km,kn,ko,hl,hm,rfl,_⟩ _ rfl _ _ _ _ _ _
    refine sw<|pu (vs hl ((na (s_EpNew (a.Cur.N+1) a.Next) (1 - a.Role) b).2.1).length hm) wN ?_
    exact f1
   ·intro _ Z kq _
    rintro _ rfl _ rfl _ rfl _ rfl _ rfl _ rfl _ ⟨kr,ks,kt,ku,rfl,_⟩ _ rfl _ rfl _ ⟨kv,kx,ky,kz,k1,k2,rfl,_⟩ _ rfl _ _ _ _ _ _
    refine sw<|pu (vi ((na (s_EpNew (a.Cur.N+1) a.Next) (1 - a.Role) b).2.2)) wN ?_
    exact f1
   ·intro _ Z hn _
    iterate 17 intro _
    refine sw<|al se wN pm ?_
    intro k3 bw ho k4 hp hq
    exact nK hp ⟨_,_,_,_,_,_,rfl,(nT hn.size ho),hq⟩
   ·intro _ Z k5 _
    rintro _ rfl _ rfl _ rfl _ rfl _ rfl _ rfl _ ⟨k6,k7,k8,k9,rfl,_⟩ _ rfl _ rfl _ ⟨hr,hs,hu,hv,kA,kB,rfl,_⟩ _ rfl _ rfl _ _ _ ⟨kC,kD,kE,kF,kG,kH,rfl,eS,eT⟩ _ _
    refine sw<|sv (oi ((na (s_EpNew (a.Cur.N+1) a.Next) (1 - a.Role) b).1) hr hs hu hv) wN mY eT ?_
    intro bw hw eU kI
    exact ya (by decide) ⟨_,eS,⟨_,_,_,_,_,eT⟩,hw,⟨_,_,_,_,_,eU⟩⟩ ⟨_,rfl,eS,eU⟩
   ·intro _ Z kJ _
    rintro _ rfl _ rfl _ rfl _ rfl _ rfl _ rfl _ ⟨kK,kL,kM,kN,rfl,_⟩ _ rfl _ rfl _ ⟨kO,kP,kQ,kR,hy,h0,rfl,_⟩ _ rfl _ rfl _ rfl _ _ ⟨kS,kT,kU,kV,kW,kX,rfl,kY,kZ⟩ _ ⟨h1,h2,-,la⟩
    have hz:=Av h2
    subst h1
    intro _
    refine sw<|aw (vs hy ((na (s_EpNew (a.Cur.N+1) a.Next) (1 - a.Role) b).2.1).length h0) ?_
    exact f1
  ·intro _ Z a2
   have eV:=cT.extk a2
   rintro _ rfl _ rfl _ rfl _ rfl _ rfl _ rfl _ ⟨lb,lc,lf,lg,rfl,_⟩ _ rfl _ rfl _ ⟨bg,bh,bi,bj,ee,ef,rfl,cs,h3,cu,h4,cv,h5,eg,lh⟩ _ rfl _ rfl _ rfl _ rfl _ ⟨li,lj,lk,ll,lm,lo,rfl,h6,lp⟩ _ ⟨h7,h8,-,h9⟩
   have hz:=Av h8
   subst h7
   rintro _ rfl
   refine sw<|aw (vi ((na (s_EpNew (a.Cur.N+1) a.Next) (1 - a.Role) b).2.2)) ?_
   refine n4<|mw (vi ((na (s_EpNew (a.Cur.N+1) a.Next) (1 - a.Role) b).2.2)) ?_
   refine pu (vb (!(decide ((na (s_EpNew (a.Cur.N+1) a.Next) (1 - a.Role) b).2.2=0)))) wN ?_
   refine n2 ?_
   rcases bf (decide ((na (s_EpNew (a.Cur.N+1) a.Next) (1 - a.Role) b).2.2=0)) with cb|cb
   ·have lq:=dF cb
    refine ct (cA not cb)<|sr ?_
    have hA:=(((((((aT.kp i).kp l).kp m).kp q).kp r).kp ab).kp a2)
    refine lN (oj (a) B C D F G H P Q R S I J) wN nj mX hA ?_
    refine nF wN rfl rfl mR (fun w=>by kernel_rfl) ?_
    intro eW bw eh b3
    refine mw (vi ((na (s_EpNew (a.Cur.N+1) a.Next) (1 - a.Role) b).2.2)) ?_
    have hB:=(((((((((((aI.kp x).kp u).ch p (nN (nL O (nT x.size K)))).kp i).kp l).kp m).kp q).kp r).kp ab).kp a2).kp eh)
    refine sv (oj (a) B C D F G H P Q R S I J) wN mX hB ?_
    intro cQ ej hC lr
    have hD:=(eV.extk eh).ext ej (fun k hk=>by subst hk;exact nT (z2 j f) aH)
    refine aw (vs (some eW) 0 0) ?_
    refine aw (vi ((na (s_EpNew (a.Cur.N+1) a.Next) (1 - a.Role) b).2.2)) ?_
    refine mW<|mP<|oY<|np<|np ?_
    have cw:=fun (E sz n:Nat) (v:Value) (L:List Value) (o:World.ownsRow af ac.heap.size E sz v n L) (y:World.ownsRow af ac.heap.size E sz v n L)=>(gc (mz (mz (mz (mz (mz (mz (mz (mz (gc (mz o u) p (ne2 y (K))) i) l) m) q) r) ab) a2) eh) ej (ne1 y (O)))
    have hF:=(cw _ _ _ _ _ M M)
    have hG:=(cw _ _ _ _ _ V V)
    have hH:=(cw _ _ _ _ _ W W)
    have hI:=(cw _ _ _ _ _ X X)
    have hJ:=(cw _ _ _ _ _ Y Y)
    have hK:=(cw _ _ _ _ _ T T)
    have hL:=(gc b3 ej (ne1 b3 (nL O (z10 x u p i l m q r ab a2))))
    refine rc3 (oj (a) B C D F G H P Q R S I J) (vs (some eW) 0 0) (vi ((na (s_EpNew (a.Cur.N+1) a.Next) (1 - a.Role) b).2.2)) hC nj mX ?_
    refine ⟨hD.keep0,?_⟩
    rw [dr];simp only [oU,am,b2,cb,cond_true,cond_false]
    have cy:=z9 u p i l m q r ab a2
    exact ⟨_,_,_,_,_,_,_,_,_,_,_,_,_,_,rfl,(mO hF (z3 j f s)),aJ,(mO hG (z3 j f s)),aZ,(mO hH (z3 j f s)),ba,(mO hI (z3 j f s)),bb,(mO hJ (z3 j f s)),bc,(mO hK (z3 j f s)),aS,(mO hL (nT (z12 j f s x u p i l m q r ab) a2.size)),(by simp),⟨⟨(d.1.1),⟨(d.1.2.1),⟨(d.1.2.2.1),⟨(d.1.2.2.2.1),⟨(d.1.2.2.2.2.1),⟨(Ap.lt M b3 cy),trivial⟩⟩⟩⟩⟩⟩,⟨⟨(d.2.1.1),⟨(d.2.1.2.1),⟨(d.2.1.2.2.1),⟨(d.2.1.2.2.2.1),⟨(Ap.lt V b3 cy),trivial⟩⟩⟩⟩⟩,⟨⟨(d.2.2.1.1),⟨(d.2.2.1.2.1),⟨(d.2.2.1.2.2.1),⟨(Ap.lt W b3 cy),trivial⟩⟩⟩⟩,⟨⟨(d.2.2.2.1.1),⟨(d.2.2.2.1.2.1),⟨(Ap.lt X b3 cy),trivial⟩⟩⟩,⟨⟨(d.2.2.2.2.1.1),⟨(Ap.lt Y b3 cy),trivial⟩⟩,⟨⟨(Ap.lt T b3 cy),trivial⟩,⟨trivial,trivial⟩⟩⟩⟩⟩⟩⟩⟩
   have ls:=dT cb
   refine cf (cA not cb)<|y1<|pu (vp az 2) wN ?_
   have eX:=(((((((aT.kp i).kp l).kp m).kp q).kp r).kp ab).kp a2)
   refine lN (oi ((a).Cur) D F G H) wN nv mY eX ?_
   refine pu (vp az 7) wN ?_
   refine st (va (oi ((a).Cur) D F G H)) (oi ((a).Cur) D F G H) (oj {(a) with Old:=((a).Cur):PChan} B C D F G H D F G H I J) wN mY eX ?_
   intro bw aD hM lu
   have hN:=eV.ext aD (fun k hk=>by subst hk;exact nT (z4 j f s x) K)
   refine nx<|pu (vp az 12) wN ?_
   refine sf (vb true) wN sj hM ?_
   intro cQ aE hO lv
   have hP:=hN.ext aE (fun k hk=>by subst hk;exact nT (z4 j f s x) K)
   refine nx<|mw (vi A) ?_
   refine ar (A+5) wN ?_
   refine pu (vp az 13) wN ?_
   refine sf (vi (A+5)) wN nV hO ?_
   intro cR aF hQ lw
   have hR:=hP.ext aF (fun k hk=>by subst hk;exact nT (z4 j f s x) K)
   refine nx ?_
   have ek:=nL aK (nT (z7 p i l m q r ab) h6)
   have hS:=(((h9.ch aD (Ne.symm (nN ek))).ch aE (Ne.symm (nN ek))).ch aF (Ne.symm (nN ek)))
   refine lN (oi ((na (s_EpNew (a.Cur.N+1) a.Next) (1 - a.Role) b).1) bg bh bi bj) wN nv mY hS ?_
   refine pu (vp az 2) wN ?_
   refine st (va (oi ((na (s_EpNew (a.Cur.N+1) a.Next) (1 - a.Role) b).1) bg bh bi bj)) (oi ((na (s_EpNew (a.Cur.N+1) a.Next) (1 - a.Role) b).1) bg bh bi bj) [(vi ((a).Role)),(vs B ((a).Sn).length C),(vi (((na (s_EpNew (a.Cur.N+1) a.Next) (1 - a.Role) b).1).N)),(vs bg (((na (s_EpNew (a.Cur.N+1) a.Next) (1 - a.Role) b).1).Key).length bh),(vi (((na (s_EpNew (a.Cur.N+1) a.Next) (1 - a.Role) b).1).Seq)),(vi ((((na (s_EpNew (a.Cur.N+1) a.Next) (1 - a.Role) b).1).Win).Top)),(vs bi ((((na (s_EpNew (a.Cur.N+1) a.Next) (1 - a.Role) b).1).Win).Bits).length bj),(vi (((a).Cur).N)),(vs D (((a).Cur).Key).length F),(vi (((a).Cur).Seq)),(vi ((((a).Cur).Win).Top)),(vs G ((((a).Cur).Win).Bits).length H),vT,(vi (A+5)),(vs I ((a).Next).length J)] wN mY hQ ?_
   intro dm aL hT lx
   have hU:=hR.ext aL (fun k hk=>by subst hk;exact nT (z4 j f s x) K)
   refine nx<|nF wN rfl rfl mR (fun w=>by kernel_rfl) ?_
   intro cc ly cW bk
   refine pu (vp az 14) wN ?_
   have hW:=(hT.kp cW)
   refine sf (vs (some cc) 0 0) wN nG hW ?_
   intro lz cX hX l0
   have hY:=(hU.extk cW).ext cX (fun k hk=>by subst hk;exact nT (z4 j f s x) K)
   refine nx<|lN [(vi ((a).Role)),(vs B ((a).Sn).length C),(vi (((na (s_EpNew (a.Cur.N+1) a.Next) (1 - a.Role) b).1).N)),(vs bg (((na (s_EpNew (a.Cur.N+1) a.Next) (1 - a.Role) b).1).Key).length bh),(vi (((na (s_EpNew (a.Cur.N+1) a.Next) (1 - a.Role) b).1).Seq)),(vi ((((na (s_EpNew (a.Cur.N+1) a.Next) (1 - a.Role) b).1).Win).Top)),(vs bi ((((na (s_EpNew (a.Cur.N+1) a.Next) (1 - a.Role) b).1).Win).Bits).length bj),(vi (((a).Cur).N)),(vs D (((a).Cur).Key).length F),(vi (((a).Cur).Seq)),(vi ((((a).Cur).Win).Top)),(vs G ((((a).Cur).Win).Bits).length H),vT,(vi (A+5)),(vs (some cc) 0 0)] wN nj mX hX ?_
   refine mw (vs ee ((na (s_EpNew (a.Cur.N+1) a.Next) (1 - a.Role) b).2.1).length ef) ?_
   have cz:=nL O (nT x.size K)
   have hZ:=((((((((((((((((aI.kp x).kp u).ch p (nN cz)).kp i).kp l).kp m).kp q).kp r).kp ab).kp a2).ch aD (nN cz)).ch aE (nN cz)).ch aF (nN cz)).ch aL (nN cz)).kp cW).ch cX (nN cz))
   refine sv [(vi ((a).Role)),(vs B ((a).Sn).length C),(vi (((na (s_EpNew (a.Cur.N+1) a.Next) (1 - a.Role) b).1).N)),(vs bg (((na (s_EpNew (a.Cur.N+1) a.Next) (1 - a.Role) b).1).Key).length bh),(vi (((na (s_EpNew (a.Cur.N+1) a.Next) (1 - a.Role) b).1).Seq)),(vi ((((na (s_EpNew (a.Cur.N+1) a.Next) (1 - a.Role) b).1).Win).Top)),(vs bi ((((na (s_EpNew (a.Cur.N+1) a.Next) (1 - a.Role) b).1).Win).Bits).length bj),(vi (((a).Cur).N)),(vs D (((a).Cur).Key).length F),(vi (((a).Cur).Seq)),(vi ((((a).Cur).Win).Top)),(vs G ((((a).Cur).Win).Bits).length H),vT,(vi (A+5)),(vs (some cc) 0 0)] wN mX hZ ?_
   intro l1 dw ia l2
   have ib:=hY.ext dw (fun k hk=>by subst hk;exact nT (z2 j f) aH)
   refine aw (vs ee ((na (s_EpNew (a.Cur.N+1) a.Next) (1 - a.Role) b).2.1).length ef) ?_
   refine aw (vi 0) ?_
   refine n1 ?_
   have em:=fun (E sz n:Nat) (v:Value) (L:List Value) (o:World.ownsRow af ac.heap.size E sz v n L) (y:World.ownsRow af ac.heap.size E sz v n L)=>(gc (gc (mz (gc (gc (gc (gc (mz (mz (mz (mz (mz (mz (mz (gc (mz o u) p (ne2 y (K))) i) l) m) q) r) ab) a2) aD (ne2 y (K))) aE (ne2 y (K))) aF (ne2 y (K))) aL (ne2 y (K))) cW) cX (ne2 y (K))) dw (ne1 y (O)))
   have ic:=(em _ _ _ _ _ M M)
   have cY:=nL aK (z7 p i l m q r ab)
   have en:=fun (E sz n:Nat) (v:Value) (L:List Value) (o:World.ownsRow Z ak.heap.size E sz v n L) (y:World.ownsRow Z ak.heap.size E sz v n L)=>(gc (gc (mz (gc (gc (gc (gc o aD (ne1 y cY)) aE (ne1 y cY)) aF (ne1 y cY)) aL (ne1 y cY)) cW) cX (ne1 y cY)) dw (ne1 y (nL O (z9 x u p i l m q r ab))))
   have ie:=(en _ _ _ _ _ cs cs)
   have ig:=(en _ _ _ _ _ cu cu)
   have ih:=(em _ _ _ _ _ V V)
   have ii:=(em _ _ _ _ _ W W)
   have ij:=(gc (gc bk cX (ne1 bk (nL aK (z12 p i l m q r ab a2 aD aE aF aL)))) dw (ne1 bk (nL O (t3 (z12 x u p i l m q r ab a2 aD aE) aF.size aL.size))))
   have ik:=(en _ _ _ _ _ cv cv)
   refine rc3 [(vi ((a).Role)),(vs B ((a).Sn).length C),(vi (((na (s_EpNew (a.Cur.N+1) a.Next) (1 - a.Role) b).1).N)),(vs bg (((na (s_EpNew (a.Cur.N+1) a.Next) (1 - a.Role) b).1).Key).length bh),(vi (((na (s_EpNew (a.Cur.N+1) a.Next) (1 - a.Role) b).1).Seq)),(vi ((((na (s_EpNew (a.Cur.N+1) a.Next) (1 - a.Role) b).1).Win).Top)),(vs bi ((((na (s_EpNew (a.Cur.N+1) a.Next) (1 - a.Role) b).1).Win).Bits).length bj),(vi (((a).Cur).N)),(vs D (((a).Cur).Key).length F),(vi (((a).Cur).Seq)),(vi ((((a).Cur).Win).Top)),(vs G ((((a).Cur).Win).Bits).length H),(vb true),(vi (A+5)),(vs (some cc) 0 0)] (vs ee ((na (s_EpNew (a.Cur.N+1) a.Next) (1 - a.Role) b).2.1).length ef) (vi 0) ia nj mX ?_
   refine ⟨ib.keep0,?_⟩
   rw [dr];simp only [oU,am,b2,cb,cond_true,cond_false]
   have eo:=nT (z12 u p i l m q r ab a2 aD aE aF) aL.size
   have dx:=z12 j f s x u p i l m q r ab
   have bl:=z8 u p i l m q r ab
   exact ⟨_,_,_,_,_,_,_,_,_,_,_,_,_,_,rfl,(mO ic (z3 j f s)),aJ,(mO ie dx),h3,(mO ig dx),h4,(mO ih (z3 j f s)),aZ,(mO ii (z3 j f s)),ba,(mO ij (t6 dx a2.size aD.size aE.size aF.size aL.size)),(by simp),(mO ik dx),h5,⟨⟨(Ap.lt M cs bl),⟨(Ap.lt M cu bl),⟨(d.1.1),⟨(d.1.2.1),⟨(Ap.lt M bk eo),⟨(Ap.lt M cv bl),trivial⟩⟩⟩⟩⟩⟩,⟨⟨(eg.1.1),⟨(Ap.lt V cs bl).symm,⟨(Ap.lt W cs bl).symm,⟨(Ap.lt cs bk (z4 aD aE aF aL)),⟨(eg.1.2.1),trivial⟩⟩⟩⟩⟩,⟨⟨(Ap.lt V cu bl).symm,⟨(Ap.lt W cu bl).symm,⟨(Ap.lt cu bk (z4 aD aE aF aL)),⟨(eg.2.1.1),trivial⟩⟩⟩⟩,⟨⟨(d.2.1.1),⟨(Ap.lt V bk eo),⟨(Ap.lt V cv bl),trivial⟩⟩⟩,⟨⟨(Ap.lt W bk eo),⟨(Ap.lt W cv bl),trivial⟩⟩,⟨⟨(Ap.lt cv bk (z4 aD aE aF aL)).symm,trivial⟩,⟨trivial,trivial⟩⟩⟩⟩⟩⟩⟩⟩
 refine pu (vp aa 12) wN ?_
 refine ld (vb a.HasOld) wN qC aU ?_
 refine mw (vb a.HasOld) ?_
 rcases bf a.HasOld with ay|ay
 ·iterate 6 refine sk ay ?_
  refine pf vF wN ay ?_
  refine n2<|cf F1 ?_
  have il:s_ChanOpen a A b=(oU a A b):=by simp only [s_ChanOpen,ah,ai,aj,a0,a4,a1,ay,cond_true,cond_false]
  exact wj (eL il _ (Ch.refl _ _))
 refine pu (vp aY 7) (wS ay) ?_
 refine ld (vi b.Epoch) (wS ay) mT cP ?_
 refine pu (vp aa 7) (wS ay) ?_
 refine pu (vp aa 7) (wS ay) ?_
 refine ld (vi a.Old.N) (wS ay) mT aU ?_
 refine pu (vb (decide (b.Epoch=a.Old.N))) (wS ay) ?_
 refine pk (vb (decide (b.Epoch=a.Old.N))) wN ay ?_
 refine n2 ?_
 rcases bf (decide (b.Epoch=a.Old.N)) with bm|bm
 ·have l3:=dF bm
  refine cf bm ?_
  have im:s_ChanOpen a A b=(oU a A b):=by simp only [s_ChanOpen,ah,ai,aj,a0,a4,a1,ay,bm,cond_true,cond_false]
  exact wj (eL im _ (Ch.refl _ _))
 have l4:=dT bm
 refine ct bm<|nh<|sr<|jF1 [(1,(vi A)),(3,(vp aa 0)),(5,(vp aY 0)),(6,(vp cN 0)),(7,(vs none 0 0)),(8,(vi 0)),(9,(vp az 0)),(10,(vi (1 - a.Role)))] (s_ChanOpen a A b=(pj a A b)) ?_ fun eY=>?_
 ·intro eZ ak ae l5
  have bn:=a3.extk ae
  refine y1<|pu (vp aa 7) wN ?_
  have io:=(aU.kp ae)
  refine lN (oi a.Old cH cI cJ cK) wN nv mY io ?_
  refine mw (vi (1 - a.Role)) ?_
  have ip:=(cP.kp ae)
  refine lN (oD b b9 bA bp bq bB bC bD bE bF bG bH bI) wN nk mZ ip ?_
  refine cl wN (uR ak _ a.Old (qs (d6.from0 bn) d7 (d8.from0 bn) d9) (1 - a.Role) _ b (qI (da.from0 bn) db (cL.from0 bn) cM (dc.from0 bn) dd (de.from0 bn) df (dg.from0 bn) dh (di.from0 bn) dj)) ?_
  rintro _ Z ⟨an,⟨aM,aN,aO,aP,c0,c1,rfl,c2,iq,c3,ir,c4,it,ep⟩⟩
  refine mw (.tuple #[(va (oi ((na a.Old (1 - a.Role) b).1) aM aN aO aP)),(vs c0 ((na a.Old (1 - a.Role) b).2.1).length c1),(vi ((na a.Old (1 - a.Role) b).2.2))]) ?_
  refine pu (va (oi ((na a.Old (1 - a.Role) b).1) aM aN aO aP)) wN ?_
  refine pu (vs c0 ((na a.Old (1 - a.Role) b).2.1).length c1) wN ?_
  refine pu (vi ((na a.Old (1 - a.Role) b).2.2)) wN ?_
  refine al se wN pm ?_
  intro l6 bw b4 l7 aQ iu
  refine sv (oi ((na a.Old (1 - a.Role) b).1) aM aN aO aP) wN mY iu ?_
  intro cQ aR iv l8
  have fa:=((bn.extk an).extk aQ).ext aR (fun k hk=>by subst hk;exact nT (nT (z12 j f s x u p i l m q r ae) an.size) b4)
  refine aw (vs c0 ((na a.Old (1 - a.Role) b).2.1).length c1) ?_
  refine aw (vi ((na a.Old (1 - a.Role) b).2.2)) ?_
  refine n4<|mw (vi ((na a.Old (1 - a.Role) b).2.2)) ?_
  refine pu (vb (!(decide ((na a.Old (1 - a.Role) b).2.2=0)))) wN ?_
  refine n2 ?_
  rcases bf (decide ((na a.Old (1 - a.Role) b).2.2=0)) with cd|cd
  ·have l9:=dF cd
   refine ct (cA not cd)<|sr ?_
   have iw:=(((((((((aT.kp i).kp l).kp m).kp q).kp r).kp ae).kp an).kp aQ).ch aR (nN (nL aK (nT (z8 p i l m q r ae an) b4))))
   refine lN (oj (a) B C D F G H P Q R S I J) wN nj mX iw ?_
   refine nF wN rfl rfl mR (fun w=>by kernel_rfl) ?_
   intro fb cR er b5
   refine mw (vi ((na a.Old (1 - a.Role) b).2.2)) ?_
   have iy:=(((((((((((((aI.kp x).kp u).ch p (nN (nL O (nT x.size K)))).kp i).kp l).kp m).kp q).kp r).kp ae).kp an).kp aQ).ch aR (nN (nL O (nT (z10 x u p i l m q r ae an) b4)))).kp er)
   refine sv (oj (a) B C D F G H P Q R S I J) wN mX iy ?_
   intro dm es iz lA
   have i0:=(fa.extk er).ext es (fun k hk=>by subst hk;exact nT (z2 j f) aH)
   refine aw (vs (some fb) 0 0) ?_
   refine aw (vi ((na a.Old (1 - a.Role) b).2.2)) ?_
   refine mW<|mP<|oY<|np<|np ?_
   have c5:=fun (E sz n:Nat) (v:Value) (L:List Value) (o:World.ownsRow af ac.heap.size E sz v n L) (y:World.ownsRow af ac.heap.size E sz v n L)=>(gc (mz (gc (mz (mz (mz (mz (mz (mz (mz (mz (gc (mz o u) p (ne2 y (K))) i) l) m) q) r) ae) an) aQ) aR (ne2 y (nT (z9 u p i l m q r ae an) b4))) er) es (ne1 y (O)))
   have i1:=(c5 _ _ _ _ _ M M)
   have i2:=(c5 _ _ _ _ _ V V)
   have i3:=(c5 _ _ _ _ _ W W)
   have i4:=(c5 _ _ _ _ _ X X)
   have i5:=(c5 _ _ _ _ _ Y Y)
   have i6:=(c5 _ _ _ _ _ T T)
   have i7:=(gc b5 es (ne1 b5 (nL O (z12 x u p i l m q r ae an aQ aR))))
   refine rc3 (oj (a) B C D F G H P Q R S I J) (vs (some fb) 0 0) (vi ((na a.Old (1 - a.Role) b).2.2)) iz nj mX ?_
   refine ⟨i0.keep0,?_⟩
   rw [eZ];simp only [pj,cd,cond_true,cond_false]
   have c6:=z11 u p i l m q r ae an aQ aR
   exact ⟨_,_,_,_,_,_,_,_,_,_,_,_,_,_,rfl,(mO i1 (z3 j f s)),aJ,(mO i2 (z3 j f s)),aZ,(mO i3 (z3 j f s)),ba,(mO i4 (z3 j f s)),bb,(mO i5 (z3 j f s)),bc,(mO i6 (z3 j f s)),aS,(mO i7 (t4 (z12 j f s x u p i l m q r ae) an.size aQ.size aR.size)),(by simp),⟨⟨(d.1.1),⟨(d.1.2.1),⟨(d.1.2.2.1),⟨(d.1.2.2.2.1),⟨(d.1.2.2.2.2.1),⟨(Ap.lt M b5 c6),trivial⟩⟩⟩⟩⟩⟩,⟨⟨(d.2.1.1),⟨(d.2.1.2.1),⟨(d.2.1.2.2.1),⟨(d.2.1.2.2.2.1),⟨(Ap.lt V b5 c6),trivial⟩⟩⟩⟩⟩,⟨⟨(d.2.2.1.1),⟨(d.2.2.1.2.1),⟨(d.2.2.1.2.2.1),⟨(Ap.lt W b5 c6),trivial⟩⟩⟩⟩,⟨⟨(d.2.2.2.1.1),⟨(d.2.2.2.1.2.1),⟨(Ap.lt X b5 c6),trivial⟩⟩⟩,⟨⟨(d.2.2.2.2.1.1),⟨(Ap.lt Y b5 c6),trivial⟩⟩,⟨⟨(Ap.lt T b5 c6),trivial⟩,⟨trivial,trivial⟩⟩⟩⟩⟩⟩⟩⟩
  have lB:=dT cd
  refine cf (cA not cd)<|y1<|lN (oi ((na a.Old (1 - a.Role) b).1) aM aN aO aP) wN nv mY iv ?_
  refine pu (vp az 7) wN ?_
  have i8:=(((((((((aT.kp i).kp l).kp m).kp q).kp r).kp ae).kp an).kp aQ).ch aR (nN (nL aK (nT (z8 p i l m q r ae an) b4))))
  refine st (va (oi ((na a.Old (1 - a.Role) b).1) aM aN aO aP)) (oi ((na a.Old (1 - a.Role) b).1) aM aN aO aP) (oj {(a) with Old:=((na a.Old (1 - a.Role) b).1):PChan} B C D F G H aM aN aO aP I J) wN mY i8 ?_
  intro cR dy i9 lC
  have iA:=fa.ext dy (fun k hk=>by subst hk;exact nT (z4 j f s x) K)
  refine nx<|lN (oj {(a) with Old:=((na a.Old (1 - a.Role) b).1):PChan} B C D F G H aM aN aO aP I J) wN nj mX i9 ?_
  refine mw (vs c0 ((na a.Old (1 - a.Role) b).2.1).length c1) ?_
  have iB:=(((((((((((((aI.kp x).kp u).ch p (nN (nL O (nT x.size K)))).kp i).kp l).kp m).kp q).kp r).kp ae).kp an).kp aQ).ch aR (nN (nL O (nT (z10 x u p i l m q r ae an) b4)))).ch dy (nN (nL O (nT x.size K))))
  refine sv (oj {(a) with Old:=((na a.Old (1 - a.Role) b).1):PChan} B C D F G H aM aN aO aP I J) wN mX iB ?_
  intro dm et iC lD
  have iD:=iA.ext et (fun k hk=>by subst hk;exact nT (z2 j f) aH)
  refine aw (vs c0 ((na a.Old (1 - a.Role) b).2.1).length c1) ?_
  refine aw (vi 0) ?_
  refine n1 ?_
  have dz:=fun (E sz n:Nat) (v:Value) (L:List Value) (o:World.ownsRow af ac.heap.size E sz v n L) (y:World.ownsRow af ac.heap.size E sz v n L)=>(gc (gc (gc (mz (mz (mz (mz (mz (mz (mz (mz (gc (mz o u) p (ne2 y (K))) i) l) m) q) r) ae) an) aQ) aR (ne2 y (nT (z9 u p i l m q r ae an) b4))) dy (ne2 y (K))) et (ne1 y (O)))
  have iE:=(dz _ _ _ _ _ M M)
  have iF:=(dz _ _ _ _ _ V V)
  have iG:=(dz _ _ _ _ _ W W)
  have eu:=fun (E sz n:Nat) (v:Value) (L:List Value) (o:World.ownsRow Z ak.heap.size E sz v n L) (y:World.ownsRow Z ak.heap.size E sz v n L)=>(gc (gc (gc (mz o aQ) aR (ne2 y (b4))) dy (ne1 y (nL aK (z7 p i l m q r ae)))) et (ne1 y (nL O (z9 x u p i l m q r ae))))
  have iH:=(eu _ _ _ _ _ c2 c2)
  have iI:=(eu _ _ _ _ _ c3 c3)
  have iJ:=(dz _ _ _ _ _ T T)
  have iK:=(eu _ _ _ _ _ c4 c4)
  refine rc3 (oj {(a) with Old:=((na a.Old (1 - a.Role) b).1):PChan} B C D F G H aM aN aO aP I J) (vs c0 ((na a.Old (1 - a.Role) b).2.1).length c1) (vi 0) iC nj mX ?_
  refine ⟨iD.keep0,?_⟩
  rw [eZ];simp only [pj,cd,cond_true,cond_false]
  have ew:=z12 j f s x u p i l m q r ae
  have aG:=z8 u p i l m q r ae
  exact ⟨_,_,_,_,_,_,_,_,_,_,_,_,_,_,rfl,(mO iE (z3 j f s)),aJ,(mO iF (z3 j f s)),aZ,(mO iG (z3 j f s)),ba,(mO iH ew),iq,(mO iI ew),ir,(mO iJ (z3 j f s)),aS,(mO iK ew),it,⟨⟨(d.1.1),⟨(d.1.2.1),⟨(Ap.lt M c2 aG),⟨(Ap.lt M c3 aG),⟨(d.1.2.2.2.2.1),⟨(Ap.lt M c4 aG),trivial⟩⟩⟩⟩⟩⟩,⟨⟨(d.2.1.1),⟨(Ap.lt V c2 aG),⟨(Ap.lt V c3 aG),⟨(d.2.1.2.2.2.1),⟨(Ap.lt V c4 aG),trivial⟩⟩⟩⟩⟩,⟨⟨(Ap.lt W c2 aG),⟨(Ap.lt W c3 aG),⟨(d.2.2.1.2.2.1),⟨(Ap.lt W c4 aG),trivial⟩⟩⟩⟩,⟨⟨(ep.1.1),⟨(Ap.lt T c2 aG).symm,⟨(ep.1.2.1),trivial⟩⟩⟩,⟨⟨(Ap.lt T c3 aG).symm,⟨(ep.2.1.1),trivial⟩⟩,⟨⟨(Ap.lt T c4 aG),trivial⟩,⟨trivial,trivial⟩⟩⟩⟩⟩⟩⟩⟩
 refine pu (vp aa 13) wN ?_
 refine ld (vi a.Until) wN mT aU ?_
 refine pu (vb (!(decide (a.Until=(-1))))) wN ?_
 refine mw (vb (!(decide (a.Until=(-1))))) ?_
 rcases bt (decide (a.Until=(-1))) with a5|a5
 ·have lE:=dT a5
  iterate 4 refine sk (cA not a5) ?_
  refine pf vF wN (cA not a5) ?_
  refine n2<|cf F1 ?_
  have iM:s_ChanOpen a A b=(pj a A b):=by simp only [s_ChanOpen,ah,ai,aj,a0,a4,a1,ay,bm,a5,cond_true,cond_false]
  exact wj (eY iM _ (Ch.refl _ _))
 have lF:=dF a5
 refine mv (vi A) (wS (cA not a5)) ?_
 refine pu (vp aa 13) (wS (cA not a5)) ?_
 refine ld (vi a.Until) (wS (cA not a5)) mT aU ?_
 refine pu (vb (decide (a.Until < A))) (wS (cA not a5)) ?_
 refine pk (vb (decide (a.Until < A))) wN (cA not a5) ?_
 refine n2 ?_
 rcases bf (decide (a.Until < A)) with ce|ce
 ·have lG:=dF ce
  refine cf ce ?_
  have iN:s_ChanOpen a A b=(pj a A b):=by simp only [s_ChanOpen,ah,ai,aj,a0,a4,a1,ay,bm,a5,ce,cond_true,cond_false]
  exact wj (eY iN _ (Ch.refl _ _))
 have lH:=dT ce
 refine ct ce<|sr ?_
 have iO:=(((((aT.kp i).kp l).kp m).kp q).kp r)
 refine lN (oj (a) B C D F G H P Q R S I J) wN nj mX iO ?_
 refine nF wN rfl rfl mR (fun w=>by kernel_rfl) ?_
 intro fc ak ex b6
 have iP:=(((((((((aI.kp x).kp u).ch p (nN (nL O (nT x.size K)))).kp i).kp l).kp m).kp q).kp r).kp ex)
 refine sv (oj (a) B C D F G H P Q R S I J) wN mX iP ?_
 intro Z ey iQ lI
 have iR:=(a3.extk ex).ext ey (fun k hk=>by subst hk;exact nT (z2 j f) aH)
 refine aw (vs (some fc) 0 0) ?_
 refine aw (vi 9) ?_
 refine mW<|mP<|oY<|np<|np ?_
 have c7:=fun (E sz n:Nat) (v:Value) (L:List Value) (o:World.ownsRow af ac.heap.size E sz v n L) (y:World.ownsRow af ac.heap.size E sz v n L)=>(gc (mz (mz (mz (mz (mz (mz (gc (mz o u) p (ne2 y (K))) i) l) m) q) r) ex) ey (ne1 y (O)))
 have iS:=(c7 _ _ _ _ _ M M)
 have iT:=(c7 _ _ _ _ _ V V)
 have iU:=(c7 _ _ _ _ _ W W)
 have iW:=(c7 _ _ _ _ _ X X)
 have iX:=(c7 _ _ _ _ _ Y Y)
 have iY:=(c7 _ _ _ _ _ T T)
 have iZ:=(gc b6 ey (ne1 b6 (nL O (z8 x u p i l m q r))))
 refine rc3 (oj (a) B C D F G H P Q R S I J) (vs (some fc) 0 0) (vi 9) iQ nj mX ?_
 refine ⟨iR.keep0,?_⟩
 simp only [s_ChanOpen,ah,ai,aj,a0,a4,a1,ay,bm,a5,ce,cond_true,cond_false]
 have c8:=z7 u p i l m q r
 exact ⟨_,_,_,_,_,_,_,_,_,_,_,_,_,_,rfl,(mO iS (z3 j f s)),aJ,(mO iT (z3 j f s)),aZ,(mO iU (z3 j f s)),ba,(mO iW (z3 j f s)),bb,(mO iX (z3 j f s)),bc,(mO iY (z3 j f s)),aS,(mO iZ (z11 j f s x u p i l m q r)),(by simp),⟨⟨(d.1.1),⟨(d.1.2.1),⟨(d.1.2.2.1),⟨(d.1.2.2.2.1),⟨(d.1.2.2.2.2.1),⟨(Ap.lt M b6 c8),trivial⟩⟩⟩⟩⟩⟩,⟨⟨(d.2.1.1),⟨(d.2.1.2.1),⟨(d.2.1.2.2.1),⟨(d.2.1.2.2.2.1),⟨(Ap.lt V b6 c8),trivial⟩⟩⟩⟩⟩,⟨⟨(d.2.2.1.1),⟨(d.2.2.1.2.1),⟨(d.2.2.1.2.2.1),⟨(Ap.lt W b6 c8),trivial⟩⟩⟩⟩,⟨⟨(d.2.2.2.1.1),⟨(d.2.2.2.1.2.1),⟨(Ap.lt X b6 c8),trivial⟩⟩⟩,⟨⟨(d.2.2.2.2.1.1),⟨(Ap.lt Y b6 c8),trivial⟩⟩,⟨⟨(Ap.lt T b6 c8),trivial⟩,⟨trivial,trivial⟩⟩⟩⟩⟩⟩⟩⟩

def pz (a:List UInt8) (b:List UInt8):(Bool):=(eqS (ByteArray.mk a.toArray) (ByteArray.mk b.toArray))
theorem xb (d:World) (e:Value) (a:List UInt8) (l:pI d e a) (f:Value) (b:List UInt8) (m:pI d f b) :Fn Tryz.prog 28 #[e,f] d (fun v g=>Keep d g∧O_4 g d.heap.size v (pz a b)):=by
 obtain ⟨h,i,rfl,o,r⟩:=l
 obtain ⟨j,k,rfl,p,s⟩:=m
 refine nu (n:=10) [(vs h a.length i),(vs j b.length k)] Tryz.func28 rfl rfl ?_
 refine sr<|aw vF ?_
 refine nx<|mw (vs h a.length i) ?_
 refine ug a wN rfl rfl rfl rfl Tryz.underlying22 Tryz.underlying5 Tryz.underlying9 o ?_
 refine mw (vs j b.length k) ?_
 refine ug b wN rfl rfl rfl rfl Tryz.underlying22 Tryz.underlying5 Tryz.underlying9 p ?_
 refine pu (vb (eqS (ByteArray.mk a.toArray) (ByteArray.mk b.toArray))) wN ?_
 refine aw (vb (eqS (ByteArray.mk a.toArray) (ByteArray.mk b.toArray))) ?_
 refine n3<|rt (vb (eqS (ByteArray.mk a.toArray) (ByteArray.mk b.toArray))) ?_
 refine ⟨Ch.refl _ _,?_⟩
 have q:pz a b=(eqS (ByteArray.mk a.toArray) (ByteArray.mk b.toArray)):=by rfl
 rw [q]
 exact rfl

theorem xI (d:World) (t:Value) (a:List Int) (D:xQ d t a) (w:Value) (b:List Int) (E:xQ d w b) :Fn Tryz.prog 142 #[t,w] d (fun v l=>Keep d l∧O_4 l d.heap.size v (eqI a b)):=by
 obtain ⟨e,f,rfl,r,R⟩:=D
 obtain ⟨g,i,rfl,s,S⟩:=E
 refine nu (n:=26) [(vs e a.length f),(vs g b.length i)] Tryz.func142 rfl rfl ?_
 refine sr<|aw vF ?_
 refine n4<|mw (vs e a.length f) ?_
 refine ln wN nf r ?_
 refine mw (vs g b.length i) ?_
 refine ln wN nf s ?_
 refine pu (vb (!(decide ((a.length:Int)=(b.length:Int))))) wN ?_
 refine n2 ?_
 rcases bf (decide ((a.length:Int)=(b.length:Int))) with o|o
 ·have T:=dF o
  refine ct (cA not o)<|sr<|aw vF ?_
  refine n1<|rt vF ?_
  refine ⟨Ch.refl _ _,?_⟩
  have F:eqI a b=false:=by first|exact sT (by assumption)|exact uq (by assumption)|exact sU (by assumption) (by omega) (by omega)
  rw [F]
  exact rfl
 have V:=dT o
 refine cf (cA not o)<|y2<|aw (vi 0) ?_
 refine mW<|mP<|ng<|oa [(0,(vs e a.length f)),(1,(vs g b.length i)),(5,(vi ((0:Nat):Int)))] ⟨rfl,rfl,(cA (Value.int .i64) (show (0:Int)=((0:Nat):Int) by omega)),trivial⟩ (fun e' l=>∃ (k:Nat) (y:Env),e'=pt y [(0,(vs e a.length f)),(1,(vs g b.length i)),(5,(vi ((k:Nat):Int)))]∧Ch (fun k=>d.heap.size≤k) d l∧Ch (fun k=>d.heap.size≤k) d l∧k≤a.length∧a.take k=b.take k) (fun e' _=>a.length - ((intOf (e' 5))).toNat) ?_ ?_
 ·exact fun u=>⟨0,u,rfl,(Ch.base d),(Ch.refl (fun k=>d.heap.size≤k) d),(by omega),(by first|rfl|exact tu (by assumption) (by omega) (by omega) (by assumption))⟩
 ·rintro _ A ⟨k,y,rfl,m,G,W,X⟩
  refine nh<|sr<|mw (vi ((k:Nat):Int)) ?_
  refine mw (vs e a.length f) ?_
  refine ln wN nf (r.from0 m) ?_
  refine pu (vb (decide (((k:Nat):Int) < (a.length:Int)))) wN ?_
  refine n2 ?_
  rcases bf (decide (((k:Nat):Int) < (a.length:Int))) with p|p
  ·have Y:=dF p
   refine cf p<|oh<|mU<|mU<|nq<|mP<|sr<|aw vT ?_
   refine n3<|rt vT ?_
   refine ⟨m.keep0,?_⟩
   have H:eqI a b=true:=by first|exact sT (by assumption)|exact uq (by assumption)|exact sU (by assumption) (by omega) (by omega)
   rw [H]
   exact rfl
  have Z:=dT p
  refine ct p<|nm<|mP<|nh<|ng<|nh<|ob ([(17,[],[],(fun _ v _=>v=(vs e a.length f))),(18,[],[],(fun _ v _=>v=(vi ((k:Nat):Int)))),(19,[],[0,1],(fun _ v _=>v=(ve (vs e a.length f) ((((k:Nat):Int)).toNat*1)))),(20,[],[0,1,2],(fun _ v _=>v=(vi (a.getD k 0)))),(21,[],[],(fun _ v _=>v=(vs g b.length i))),(22,[],[],(fun _ v _=>v=(vi ((k:Nat):Int)))),(23,[],[4,5],(fun _ v _=>v=(ve (vs g b.length i) ((((k:Nat):Int)).toNat*1)))),(24,[],[4,5,6],(fun _ v _=>v=(vi (b.getD k 0))))]:GV) (fun _ l=>Keep A l) [] oM rfl (by kernel_rfl) (by kernel_rfl) ?_ (fun _ _ h=>h) (fun _ _ _ _ h _ k=>h.trans k) trivial ?_ ?_ ?_
  ·exact ⟨hV,hE,⟨hV,hE,⟨hV,hE,⟨hV,hE,⟨hV,hE,⟨hV,hE,⟨hV,hE,⟨hV,hE,trivial⟩⟩⟩⟩⟩⟩⟩⟩
  ·exact trivial
  ·refine ⟨?_,⟨?_,⟨?_,⟨?_,⟨?_,⟨?_,⟨?_,⟨?_,trivial⟩⟩⟩⟩⟩⟩⟩⟩
   ·intro _ j aa _
    rintro _ _ _ _ _ _ _ _
    refine sw<|mw (vs e a.length f) ?_
    exact f1
   ·intro _ j ab _
    rintro _ _ _ _ _ _ _ _
    refine sw<|mw (vi ((k:Nat):Int)) ?_
    exact f1
   ·intro _ j I _
    have J:=m.extk I
    rintro _ rfl _ rfl _ _ _ _ _ _
    refine sw<|ix wN ((k:Nat):Int) nf (r.from0 J) ?_
    exact f1
   ·intro _ j K _
    have L:=m.extk K
    rintro _ rfl _ rfl _ rfl _ _ _ _ _
    refine sw<|ei (x:=a) k wN mT (r.from0 L) ?_
    exact f1
   ·intro _ j ac _
    rintro _ _ _ _ _ _ _ _
    refine sw<|mw (vs g b.length i) ?_
    exact f1
   ·intro _ j ad _
    rintro _ _ _ _ _ _ _ _
    refine sw<|mw (vi ((k:Nat):Int)) ?_
    exact f1
   ·intro _ j M _
    have N:=m.extk M
    rintro _ _ _ _ _ rfl _ rfl _ _
    refine sw<|ix wN ((k:Nat):Int) nf (s.from0 N) ?_
    exact f1
   ·intro _ j O _
    have P:=m.extk O
    rintro _ _ _ _ _ rfl _ rfl _ rfl _
    refine sw<|ei (x:=b) k wN mT (s.from0 P) ?_
    exact f1
  ·intro _ j B
   have C:=m.extk B
   iterate 8 rintro _ rfl
   refine sw<|pu (vb (!(decide ((a.getD k 0)=(b.getD k 0))))) wN ?_
   refine n2 ?_
   rcases bf (decide ((a.getD k 0)=(b.getD k 0))) with q|q
   ·have ae:=dF q
    refine ct (cA not q)<|sr<|aw vF ?_
    refine mW<|mP<|oY<|nR<|np<|np<|nR<|np<|rt vF ?_
    refine ⟨C.keep0,?_⟩
    have Q:eqI a b=false:=by first|exact sT (by assumption)|exact uq (by assumption)|exact sU (by assumption) (by omega) (by omega)
    rw [Q]
    exact rfl
   have af:=dT q
   refine cf (cA not q)<|nm<|mQ<|mP<|mV ?_
   refine mw (vi ((k:Nat):Int)) ?_
   refine ar (((k:Nat):Int)+1) wN ?_
   refine aw (vi (((k:Nat):Int)+1)) ?_
   refine mW<|nX (w0:=A) [(0,(vs e a.length f)),(1,(vs g b.length i)),(5,(vi (((k+1):Nat):Int)))] ?_ ?_ ?_
   · exact ⟨rfl,rfl,(cA (Value.int .i64) (show ((((k:Nat):Int)+1):Int)=(((k+1):Nat):Int) by omega)),trivial⟩
   · exact fun u=>⟨(k+1),u,rfl,C,(((Ch.refl (fun k=>d.heap.size≤k) d).ext G (fun k hk=>hk)).extk B),(by omega),(by first|rfl|exact tu (by assumption) (by omega) (by omega) (by assumption))⟩
   · show a.length - ((((k+1):Nat):Int)).toNat < a.length - (((k:Nat):Int)).toNat;omega

def qt (a:PWin) (b:PWin):(Bool):=bif (decide (a.Top=b.Top)) then ((eqI a.Bits b.Bits)) else (false)
theorem yT (e:World) (k:Value) (a:PWin) (t:xP e k a) (l:Value) (b:PWin) (u:xP e l b) :Fn Tryz.prog 105 #[k,l] e (fun v m=>Keep e m∧O_4 m e.heap.size v (qt a b)):=by
 obtain ⟨g,h,rfl,w,x⟩:=t
 obtain ⟨i,j,rfl,y,A⟩:=u
 refine nu (n:=17) [(va (pn a g h)),(va (pn b i j))] Tryz.func105 rfl rfl ?_
 refine sr<|bx (pn a g h) wN ?_
 intro o G H I B C
 refine bx (pn b i j) wN ?_
 intro p D J K q r
 have f:=((Ch.base e).extk B).extk q
 refine aw vF ?_
 refine nx<|pu (vp o 0) wN ?_
 have s:=(C.kp q)
 refine ld (vi a.Top) wN mT s ?_
 refine pu (vp p 0) wN ?_
 refine ld (vi b.Top) wN mT r ?_
 refine pu (vb (decide (a.Top=b.Top))) wN ?_
 refine mw (vb (decide (a.Top=b.Top))) ?_
 rcases bf (decide (a.Top=b.Top)) with d|d
 ·have L:=dF d
  iterate 5 refine sk d ?_
  refine pf vF wN d ?_
  refine aw vF ?_
  refine n3<|rt vF ?_
  refine ⟨f.keep0,?_⟩
  simp only [qt,d,cond_true,cond_false]
  exact rfl
 have M:=dT d
 refine pu (vp o 1) (wS d) ?_
 refine ld (vs g a.Bits.length h) (wS d) oA s ?_
 refine pu (vp p 1) (wS d) ?_
 refine ld (vs i b.Bits.length j) (wS d) oA r ?_
 refine cl (wS d) (xI D _ a.Bits (rX (w.from0 f) x) _ b.Bits (rX (y.from0 f) A)) ?_
 rintro _ N ⟨E,rfl⟩
 have F:=f.extk E
 refine pk (vb (eqI a.Bits b.Bits)) wN d ?_
 refine aw (vb (eqI a.Bits b.Bits)) ?_
 refine n3<|rt (vb (eqI a.Bits b.Bits)) ?_
 refine ⟨F.keep0,?_⟩
 simp only [qt,d,cond_true,cond_false]
 exact rfl

def pF (a:PEp) (b:PEp):(Bool):=bif (decide (a.N=b.N)) then (bif (pz a.Key b.Key) then (bif (decide (a.Seq=b.Seq)) then ((qt a.Win b.Win)) else (false)) else (false)) else (false)
theorem xa (g:World) (y:Value) (a:PEp) (F:xn g y a) (A:Value) (b:PEp) (G:xn g A b) :Fn Tryz.prog 67 #[y,A] g (fun v B=>Keep g B∧O_4 B g.heap.size v (pF a b)):=by
 obtain ⟨l,m,o,p,rfl,H,I,J,K⟩:=F
 obtain ⟨q,r,s,t,rfl,L,M,O,P⟩:=G
 refine nu (n:=31) [(va (oi a l m o p)),(va (oi b q r s t))] Tryz.func67 rfl rfl ?_
 refine sr<|bx (oi a l m o p) wN ?_
 intro i X Y Z Q R
 refine bx (oi b q r s t) wN ?_
 intro j S aa ab C u
 have k:=((Ch.base g).extk Q).extk C
 refine aw vF ?_
 refine nx<|pu (vp i 0) wN ?_
 have w:=(R.kp C)
 refine ld (vi a.N) wN mT w ?_
 refine pu (vp j 0) wN ?_
 refine ld (vi b.N) wN mT u ?_
 refine pu (vb (decide (a.N=b.N))) wN ?_
 refine mw (vb (decide (a.N=b.N))) ?_
 rcases bf (decide (a.N=b.N)) with d|d
 ·have ac:=dF d
  iterate 5 refine sk d ?_
  refine pf vF wN d ?_
  refine mw vF ?_
  iterate 5 refine sk F1 ?_
  refine pf vF wN F1 ?_
  refine mw vF ?_
  iterate 5 refine sk F1 ?_
  refine pf vF wN F1 ?_
  refine aw vF ?_
  refine n3<|rt vF ?_
  refine ⟨k.keep0,?_⟩
  simp only [pF,d,cond_true,cond_false]
  exact rfl
 have ad:=dT d
 refine pu (vp i 1) (wS d) ?_
 refine ld (vs l a.Key.length m) (wS d) nd w ?_
 refine pu (vp j 1) (wS d) ?_
 refine ld (vs q b.Key.length r) (wS d) nd u ?_
 refine cl (wS d) (xb S _ a.Key (nH (H.from0 k) I) _ b.Key (nH (L.from0 k) M)) ?_
 rintro _ T ⟨x,rfl⟩
 have h:=k.extk x
 refine pk (vb (pz a.Key b.Key)) wN d ?_
 refine mw (vb (pz a.Key b.Key)) ?_
 rcases bf (pz a.Key b.Key) with f|f
 ·iterate 5 refine sk f ?_
  refine pf vF wN f ?_
  refine mw vF ?_
  iterate 5 refine sk F1 ?_
  refine pf vF wN F1 ?_
  refine aw vF ?_
  refine n3<|rt vF ?_
  refine ⟨h.keep0,?_⟩
  simp only [pF,d,f,cond_true,cond_false]
  exact rfl
 refine pu (vp i 2) (wS f) ?_
 have D:=(w.kp x)
 refine ld (vi a.Seq) (wS f) mT D ?_
 refine pu (vp j 2) (wS f) ?_
 have E:=(u.kp x)
 refine ld (vi b.Seq) (wS f) mT E ?_
 refine pu (vb (decide (a.Seq=b.Seq))) (wS f) ?_
 refine pk (vb (decide (a.Seq=b.Seq))) wN f ?_
 refine mw (vb (decide (a.Seq=b.Seq))) ?_
 rcases bf (decide (a.Seq=b.Seq)) with e|e
 ·have ae:=dF e
  iterate 5 refine sk e ?_
  refine pf vF wN e ?_
  refine aw vF ?_
  refine n3<|rt vF ?_
  refine ⟨h.keep0,?_⟩
  simp only [pF,d,f,e,cond_true,cond_false]
  exact rfl
 have af:=dT e
 refine pu (vp i 3) (wS e) ?_
 refine lN (pn a.Win o p) (wS e) nJ ni D ?_
 refine pu (vp j 3) (wS e) ?_
 refine lN (pn b.Win s t) (wS e) nJ ni E ?_
 refine cl (wS e) (yT T _ a.Win (qX (J.from0 h) K) _ b.Win (qX (O.from0 h) P)) ?_
 rintro _ ah ⟨V,rfl⟩
 have W:=h.extk V
 refine pk (vb (qt a.Win b.Win)) wN e ?_
 refine aw (vb (qt a.Win b.Win)) ?_
 refine n3<|rt (vb (qt a.Win b.Win)) ?_
 refine ⟨W.keep0,?_⟩
 simp only [pF,d,f,e,cond_true,cond_false]
 exact rfl

def oJ (a:PChan) (b:PChan):(Bool):=bif (decide (a.Role=b.Role)) then (bif (pz a.Sn b.Sn) then (bif (pF a.Cur b.Cur) then (bif (pF a.Old b.Old) then (bif (a.HasOld == b.HasOld) then (bif (decide (a.Until=b.Until)) then ((pz a.Next b.Next)) else (false)) else (false)) else (false)) else (false)) else (false)) else (false)
theorem uu (l:World) (Z:Value) (a:PChan) (ai:zx l Z a) (aa:Value) (b:PChan) (aj:zx l aa b) :Fn Tryz.prog 29 #[Z,aa] l (fun v ab=>Keep l ab∧O_4 ab l.heap.size v (oJ a b)):=by
 obtain ⟨r,s,t,u,w,x,y,A,B,C,D,E,rfl,ak,am,an,ao,ap,aq,au,av,ax,ay,az,a0⟩:=ai
 obtain ⟨F,G,H,I,J,K,L,M,N,O,P,Q,rfl,a1,a2,a3,a4,a5,a6,a7,a8,a9,aA,aB,aC⟩:=aj
 refine nu (n:=52) [(va (oj a r s t u w x y A B C D E)),(va (oj b F G H I J K L M N O P Q))] Tryz.func29 rfl rfl ?_
 refine sr<|bx (oj a r s t u w x y A B C D E) wN ?_
 intro j aL aM aN aD aE
 refine bx (oj b F G H I J K L M N O P Q) wN ?_
 intro k aF aO aP ac R
 have q:=((Ch.base l).extk aD).extk ac
 refine aw vF ?_
 refine nx<|pu (vp j 0) wN ?_
 have S:=(aE.kp ac)
 refine ld (vi a.Role) wN mT S ?_
 refine pu (vp k 0) wN ?_
 refine ld (vi b.Role) wN mT R ?_
 refine pu (vb (decide (a.Role=b.Role))) wN ?_
 refine mw (vb (decide (a.Role=b.Role))) ?_
 rcases bf (decide (a.Role=b.Role)) with d|d
 ·have aQ:=dF d
  iterate 5 refine sk d ?_
  refine pf vF wN d ?_
  refine mw vF ?_
  iterate 5 refine sk F1 ?_
  refine pf vF wN F1 ?_
  refine mw vF ?_
  iterate 5 refine sk F1 ?_
  refine pf vF wN F1 ?_
  refine mw vF ?_
  iterate 5 refine sk F1 ?_
  refine pf vF wN F1 ?_
  refine mw vF ?_
  iterate 5 refine sk F1 ?_
  refine pf vF wN F1 ?_
  refine mw vF ?_
  iterate 5 refine sk F1 ?_
  refine pf vF wN F1 ?_
  refine aw vF ?_
  refine n3<|rt vF ?_
  refine ⟨q.keep0,?_⟩
  simp only [oJ,d,cond_true,cond_false]
  exact rfl
 have aR:=dT d
 refine pu (vp j 1) (wS d) ?_
 refine ld (vs r a.Sn.length s) (wS d) nd S ?_
 refine pu (vp k 1) (wS d) ?_
 refine ld (vs F b.Sn.length G) (wS d) nd R ?_
 refine cl (wS d) (xb aF _ a.Sn (nH (ak.from0 q) am) _ b.Sn (nH (a1.from0 q) a2)) ?_
 rintro _ aG ⟨T,rfl⟩
 have m:=q.extk T
 refine pk (vb (pz a.Sn b.Sn)) wN d ?_
 refine mw (vb (pz a.Sn b.Sn)) ?_
 rcases bf (pz a.Sn b.Sn) with e|e
 ·iterate 5 refine sk e ?_
  refine pf vF wN e ?_
  refine mw vF ?_
  iterate 5 refine sk F1 ?_
  refine pf vF wN F1 ?_
  refine mw vF ?_
  iterate 5 refine sk F1 ?_
  refine pf vF wN F1 ?_
  refine mw vF ?_
  iterate 5 refine sk F1 ?_
  refine pf vF wN F1 ?_
  refine mw vF ?_
  iterate 5 refine sk F1 ?_
  refine pf vF wN F1 ?_
  refine aw vF ?_
  refine n3<|rt vF ?_
  refine ⟨m.keep0,?_⟩
  simp only [oJ,d,e,cond_true,cond_false]
  exact rfl
 refine pu (vp j 2) (wS e) ?_
 have ad:=(S.kp T)
 refine lN (oi a.Cur t u w x) (wS e) nv mY ad ?_
 refine pu (vp k 2) (wS e) ?_
 have ae:=(R.kp T)
 refine lN (oi b.Cur H I J K) (wS e) nv mY ae ?_
 refine cl (wS e) (xa aG _ a.Cur (qs (an.from0 m) ao (ap.from0 m) aq) _ b.Cur (qs (a3.from0 m) a4 (a5.from0 m) a6)) ?_
 rintro _ aH ⟨V,rfl⟩
 have o:=m.extk V
 refine pk (vb (pF a.Cur b.Cur)) wN e ?_
 refine mw (vb (pF a.Cur b.Cur)) ?_
 rcases bf (pF a.Cur b.Cur) with f|f
 ·iterate 5 refine sk f ?_
  refine pf vF wN f ?_
  refine mw vF ?_
  iterate 5 refine sk F1 ?_
  refine pf vF wN F1 ?_
  refine mw vF ?_
  iterate 5 refine sk F1 ?_
  refine pf vF wN F1 ?_
  refine mw vF ?_
  iterate 5 refine sk F1 ?_
  refine pf vF wN F1 ?_
  refine aw vF ?_
  refine n3<|rt vF ?_
  refine ⟨o.keep0,?_⟩
  simp only [oJ,d,e,f,cond_true,cond_false]
  exact rfl
 refine pu (vp j 7) (wS f) ?_
 have af:=(ad.kp V)
 refine lN (oi a.Old y A B C) (wS f) nv mY af ?_
 refine pu (vp k 7) (wS f) ?_
 have ah:=(ae.kp V)
 refine lN (oi b.Old L M N O) (wS f) nv mY ah ?_
 refine cl (wS f) (xa aH _ a.Old (qs (au.from0 o) av (ax.from0 o) ay) _ b.Old (qs (a7.from0 o) a8 (a9.from0 o) aA)) ?_
 rintro _ aI ⟨W,rfl⟩
 have p:=o.extk W
 refine pk (vb (pF a.Old b.Old)) wN f ?_
 refine mw (vb (pF a.Old b.Old)) ?_
 rcases bf (pF a.Old b.Old) with g|g
 ·iterate 5 refine sk g ?_
  refine pf vF wN g ?_
  refine mw vF ?_
  iterate 5 refine sk F1 ?_
  refine pf vF wN F1 ?_
  refine mw vF ?_
  iterate 5 refine sk F1 ?_
  refine pf vF wN F1 ?_
  refine aw vF ?_
  refine n3<|rt vF ?_
  refine ⟨p.keep0,?_⟩
  simp only [oJ,d,e,f,g,cond_true,cond_false]
  exact rfl
 refine pu (vp j 12) (wS g) ?_
 have X:=(af.kp W)
 refine ld (vb a.HasOld) (wS g) qC X ?_
 refine pu (vp k 12) (wS g) ?_
 have Y:=(ah.kp W)
 refine ld (vb b.HasOld) (wS g) qC Y ?_
 refine pu (vb (a.HasOld == b.HasOld)) (wS g) ?_
 refine pk (vb (a.HasOld == b.HasOld)) wN g ?_
 refine mw (vb (a.HasOld == b.HasOld)) ?_
 rcases bf (a.HasOld == b.HasOld) with i|i
 ·iterate 5 refine sk i ?_
  refine pf vF wN i ?_
  refine mw vF ?_
  iterate 5 refine sk F1 ?_
  refine pf vF wN F1 ?_
  refine aw vF ?_
  refine n3<|rt vF ?_
  refine ⟨p.keep0,?_⟩
  simp only [oJ,d,e,f,g,i,cond_true,cond_false]
  exact rfl
 refine pu (vp j 13) (wS i) ?_
 refine ld (vi a.Until) (wS i) mT X ?_
 refine pu (vp k 13) (wS i) ?_
 refine ld (vi b.Until) (wS i) mT Y ?_
 refine pu (vb (decide (a.Until=b.Until))) (wS i) ?_
 refine pk (vb (decide (a.Until=b.Until))) wN i ?_
 refine mw (vb (decide (a.Until=b.Until))) ?_
 rcases bf (decide (a.Until=b.Until)) with h|h
 ·have aS:=dF h
  iterate 5 refine sk h ?_
  refine pf vF wN h ?_
  refine aw vF ?_
  refine n3<|rt vF ?_
  refine ⟨p.keep0,?_⟩
  simp only [oJ,d,e,f,g,i,h,cond_true,cond_false]
  exact rfl
 have aT:=dT h
 refine pu (vp j 14) (wS h) ?_
 refine ld (vs D a.Next.length E) (wS h) nd X ?_
 refine pu (vp k 14) (wS h) ?_
 refine ld (vs P b.Next.length Q) (wS h) nd Y ?_
 refine cl (wS h) (xb aI _ a.Next (nH (az.from0 p) a0) _ b.Next (nH (aB.from0 p) aC)) ?_
 rintro _ aU ⟨aJ,rfl⟩
 have aK:=p.extk aJ
 refine pk (vb (pz a.Next b.Next)) wN h ?_
 refine aw (vb (pz a.Next b.Next)) ?_
 refine n3<|rt (vb (pz a.Next b.Next)) ?_
 refine ⟨aK.keep0,?_⟩
 simp only [oJ,d,e,f,g,i,h,cond_true,cond_false]
 exact rfl
end Go.Proofs.YtacoceibbheccaaGreat.K
