import Derived.Test.YtacoceibbheccaaGreatWb2
namespace Go.Proofs.YtacoceibbheccaaGreat.K
open Go.RowKit
set_option linter.unusedVariables false
set_option linter.unusedSimpArgs false
set_option maxRecDepth 100000
set_option maxHeartbeats 4000000
theorem yG (Q:World) (g:Nat) (ca:Option Addr) (cc:Nat) (cb:List UInt8) (aQ:ph Q g 110 ca cc cb) :Fn Tryz.prog 99 #[(vp g 0)] Q (fun v ay=>∃ x:(PEp),Ch (fun k=>k=g) Q ay∧ph ay g 110 ca cc cb∧Ar ay Q.heap.size v x∧(True)):=by
 obtain ⟨ci,chh,hcb,hcr,hcl,hci,hcn⟩:=aQ
 have hgl:=Blk.lt hcb
 refine nu (n:=34) [(vp g 0)] Tryz.func99 rfl rfl ?_
 refine sr<|al se wN pm ?_
 intro cd w i s a R
 have a5:=ChG.extk (Ch.refl (fun k=>k=g) Q) a
 refine nx<|mw (vp g 0) ?_
 have aR:=(hcb.kp a)
 refine cl wN (Ck w g ca cc cb (cx aR hcr a5 hcl hcn)) ?_
 rintro _ y ⟨e,b,⟨ce,cg,aS,cj,ck,cm,cn⟩,⟨m,p,q,r,rfl,C,ad,D,ae,az⟩,co⟩
 have aT:=ChG.ext a5 b iL
 refine al se wN pm ?_
 intro af cp d a6 l aU
 have aV:=ChG.extk aT l
 refine sv (oi (e) m p q r) wN mY aU ?_
 intro aW j S cq
 have a7:=ChG.ext aV j (fun k hk=>.inr (by subst hk;exact nT (z2 a b) d))
 refine n4<|mw (vp g 0) ?_
 have aX:=((aS.kp l).ch j (nN (nL hgl (nT (z2 a b) d))))
 refine cl wN (ow aW g ca cc cb (cx aX hcr a7 hcl hcn) 14) ?_
 rintro _ aY ⟨u,h,⟨cr,cs,T,cu,cv,cw,cy⟩,rfl,cz⟩
 have P:=ChG.ext a7 h iL
 refine mW<|mP<|ng<|sr<|pu (vb (decide ((u)=0))) wN ?_
 refine aw (vb (decide ((u)=0))) ?_
 refine n2 ?_
 rcases bt (decide ((u)=0)) with V|V
 ·have c0:=dT V
  refine ct V<|mV ?_
  refine mw (vp g 0) ?_
  refine ltI ([(-1),4294967296]:List Int) wN nf ?_
  intro c1 c2 J W a8
  have a9:=ChG.extk P W
  have aZ:=(T.kp W)
  refine cl wN (oz J g ca cc cb (cx aZ hcr a9 hcl hcn) _ ([(-1),4294967296]:List Int) ⟨_,_,rfl,(Rd.of_own a8),(by simp),(fun _ z hz=>by have aA:=(nb a8 z.block (by rw [hz];rfl)).1;have aB:=nL hgl (z5 a b l j h);omega)⟩ (by simp)) ?_
  rintro _ ah ⟨A,ai,⟨c3,c4,ba,c5,c6,c7,c8⟩,rfl,bb⟩
  have bc:=ChG.ext a9 ai iL
  have q63m:A=(-1)∨A=4294967296:=by simpa using bb
  refine pu (vp af 0) wN ?_
  have bd:=(((S.ch h (Ne.symm (nN (nL hgl (nT (z2 a b) d))))).kp W).ch ai (Ne.symm (nN (nL hgl (nT (z2 a b) d)))))
  refine sf (vi (A)) wN nV bd ?_
  intro a0 aj be c9
  have bg:=ChG.ext bc aj (fun k hk=>.inr (by subst hk;exact nT (z2 a b) d))
  refine mW<|mQ<|mP<|sr ?_
  refine lN (oi {(e) with N:=(A):PEp} m p q r) wN nv mY be ?_
  have bh:=(((((((R.ch b (Ne.symm (nN (nL hgl (i))))).kp l).ch j (nN (nL s (nT b.size d)))).ch h (Ne.symm (nN (nL hgl (i))))).kp W).ch ai (Ne.symm (nN (nL hgl (i))))).ch aj (nN (nL s (nT b.size d))))
  refine sv (oi {(e) with N:=(A):PEp} m p q r) wN mY bh ?_
  intro aC a1 bi cC
  have aD:=ChG.ext bg a1 (fun k hk=>.inr (by subst hk;exact i))
  refine n3 ?_
  have aE:=fun (E sz n:Nat) (v:Value) (t:List Value) (o:World.ownsRow y w.heap.size E sz v n t) (f:World.ownsRow y w.heap.size E sz v n t)=>(gc (gc (gc (mz (gc (gc (mz o l) j (ne2 f (d))) h (ne1 f (nL hgl a.size))) W) ai (ne1 f (nL hgl a.size))) aj (ne2 f (d))) a1 (ne1 f (s)))
  have bj:=(aE _ _ _ _ _ C C)
  have bk:=(aE _ _ _ _ _ D D)
  refine rc (oi {(e) with N:=(A):PEp} m p q r) bi nv mY ?_
  have bl:=((ba.ch aj (nN (nL hgl (nT (z2 a b) d)))).ch a1 (nN (nL hgl (i))))
  exact ⟨{(e) with N:=(A):PEp},aD,(cx bl hcr aD hcl hcn),⟨_,_,_,_,rfl,(mO bj a.size),ad,(mO bk a.size),ae,⟨⟨(az.1.1),trivial⟩,⟨trivial,trivial⟩⟩⟩,trivial⟩
 have cD:=dF V
 refine cf V<|sr<|pu (vb (decide ((u)=1))) wN ?_
 refine aw (vb (decide ((u)=1))) ?_
 refine n2 ?_
 rcases bt (decide ((u)=1)) with X|X
 ·have cE:=dT X
  refine ct X<|mV ?_
  refine mw (vp g 0) ?_
  refine mw (vp g 0) ?_
  refine ltI ([0,31,33]:List Int) wN nf ?_
  intro cF cG J F aF
  have aG:=ChG.extk P F
  have bm:=(T.kp F)
  refine cl wN (oz J g ca cc cb (cx bm hcr aG hcl hcn) _ ([0,31,33]:List Int) ⟨_,_,rfl,(Rd.of_own aF),(by simp),(fun _ z hz=>by have aA:=(nb aF z.block (by rw [hz];rfl)).1;have aB:=nL hgl (z5 a b l j h);omega)⟩ (by simp)) ?_
  rintro _ ah ⟨ak,G,⟨cH,cI,bn,cJ,cK,cL,cM⟩,rfl,bo⟩
  have aH:=ChG.ext aG G iL
  have q98m:ak=0∨ak=31∨ak=33:=by simpa using bo
  refine cl wN (oC ah g ca cc cb (cx bn hcr aH hcl hcn) (ak) (by omega)) ?_
  rintro _ a0 ⟨H,am,⟨cN,cO,bp,cP,cQ,cR,cS⟩,⟨K,L,rfl,an,bq,cT⟩,cU⟩
  have br:=ChG.ext aH am iL
  refine pu (vp af 1) wN ?_
  have a2:=nT (z2 a b) d
  have bu:=((((S.ch h (Ne.symm (nN (nL hgl a2)))).kp F).ch G (Ne.symm (nN (nL hgl a2)))).ch am (Ne.symm (nN (nL hgl a2))))
  refine sf (vs K (H).length L) wN nG bu ?_
  intro aC Y bv cV
  have bw:=ChG.ext br Y (fun k hk=>.inr (by subst hk;exact nT (z2 a b) d))
  refine mW<|mQ<|mP<|sr ?_
  refine lN (oi {(e) with Key:=(H):PEp} K L q r) wN nv mY bv ?_
  have bz:=((((((((R.ch b (Ne.symm (nN (nL hgl (i))))).kp l).ch j (nN (nL s (nT b.size d)))).ch h (Ne.symm (nN (nL hgl (i))))).kp F).ch G (Ne.symm (nN (nL hgl (i))))).ch am (Ne.symm (nN (nL hgl (i))))).ch Y (nN (nL s (nT b.size d))))
  refine sv (oi {(e) with Key:=(H):PEp} K L q r) wN mY bz ?_
  intro cW ao b0 cX
  have aI:=ChG.ext bw ao (fun k hk=>.inr (by subst hk;exact i))
  refine n3 ?_
  have b1:=(gc (gc an Y (ne1 an (nL a6 (z4 j h F G)))) ao (ne1 an (nL s (z6 b l j h F G))))
  have b2:=fun (E sz n:Nat) (v:Value) (t:List Value) (o:World.ownsRow y w.heap.size E sz v n t) (f:World.ownsRow y w.heap.size E sz v n t)=>(gc (gc (gc (gc (mz (gc (gc (mz o l) j (ne2 f (d))) h (ne1 f (nL hgl a.size))) F) G (ne1 f (nL hgl a.size))) am (ne1 f (nL hgl a.size))) Y (ne2 f (d))) ao (ne1 f (s)))
  have b3:=(b2 _ _ _ _ _ D D)
  refine rc (oi {(e) with Key:=(H):PEp} K L q r) b0 nv mY ?_
  have b4:=((bp.ch Y (nN (nL hgl (nT (z2 a b) d)))).ch ao (nN (nL hgl (i))))
  exact ⟨{(e) with Key:=(H):PEp},aI,(cx b4 hcr aI hcl hcn),⟨_,_,_,_,rfl,(mO b1 (z7 a b l j h F G)),bq,(mO b3 a.size),ae,⟨⟨(Ap.lt D an (z5 l j h F G)).symm,trivial⟩,⟨trivial,trivial⟩⟩⟩,trivial⟩
 have cY:=dF X
 refine cf X<|sr<|pu (vb (decide ((u)=2))) wN ?_
 refine aw (vb (decide ((u)=2))) ?_
 refine n2 ?_
 rcases bt (decide ((u)=2)) with Z|Z
 ·have cZ:=dT Z
  refine ct Z<|mV ?_
  refine mw (vp g 0) ?_
  refine ltI ([(-1),281474976710657]:List Int) wN nf ?_
  intro da db J aa aJ
  have aK:=ChG.extk P aa
  have b5:=(T.kp aa)
  refine cl wN (oz J g ca cc cb (cx b5 hcr aK hcl hcn) _ ([(-1),281474976710657]:List Int) ⟨_,_,rfl,(Rd.of_own aJ),(by simp),(fun _ z hz=>by have aA:=(nb aJ z.block (by rw [hz];rfl)).1;have aB:=nL hgl (z5 a b l j h);omega)⟩ (by simp)) ?_
  rintro _ ah ⟨B,ap,⟨dc,dd,b6,de,df,dg,dh⟩,rfl,b7⟩
  have b8:=ChG.ext aK ap iL
  have q150m:B=(-1)∨B=281474976710657:=by simpa using b7
  refine pu (vp af 2) wN ?_
  have b9:=(((S.ch h (Ne.symm (nN (nL hgl (nT (z2 a b) d))))).kp aa).ch ap (Ne.symm (nN (nL hgl (nT (z2 a b) d)))))
  refine sf (vi (B)) wN nV b9 ?_
  intro a0 aq bA di
  have bB:=ChG.ext b8 aq (fun k hk=>.inr (by subst hk;exact nT (z2 a b) d))
  refine mW<|mQ<|mP<|sr ?_
  refine lN (oi {(e) with Seq:=(B):PEp} m p q r) wN nv mY bA ?_
  have bC:=(((((((R.ch b (Ne.symm (nN (nL hgl (i))))).kp l).ch j (nN (nL s (nT b.size d)))).ch h (Ne.symm (nN (nL hgl (i))))).kp aa).ch ap (Ne.symm (nN (nL hgl (i))))).ch aq (nN (nL s (nT b.size d))))
  refine sv (oi {(e) with Seq:=(B):PEp} m p q r) wN mY bC ?_
  intro aC a3 bD dj
  have aL:=ChG.ext bB a3 (fun k hk=>.inr (by subst hk;exact i))
  refine n3 ?_
  have aM:=fun (E sz n:Nat) (v:Value) (t:List Value) (o:World.ownsRow y w.heap.size E sz v n t) (f:World.ownsRow y w.heap.size E sz v n t)=>(gc (gc (gc (mz (gc (gc (mz o l) j (ne2 f (d))) h (ne1 f (nL hgl a.size))) aa) ap (ne1 f (nL hgl a.size))) aq (ne2 f (d))) a3 (ne1 f (s)))
  have bE:=(aM _ _ _ _ _ C C)
  have bF:=(aM _ _ _ _ _ D D)
  refine rc (oi {(e) with Seq:=(B):PEp} m p q r) bD nv mY ?_
  have bG:=((b6.ch aq (nN (nL hgl (nT (z2 a b) d)))).ch a3 (nN (nL hgl (i))))
  exact ⟨{(e) with Seq:=(B):PEp},aL,(cx bG hcr aL hcl hcn),⟨_,_,_,_,rfl,(mO bE a.size),ad,(mO bF a.size),ae,⟨⟨(az.1.1),trivial⟩,⟨trivial,trivial⟩⟩⟩,trivial⟩
 have dk:=dF Z
 refine cf Z<|sr<|pu (vb (decide ((u)=3))) wN ?_
 refine aw (vb (decide ((u)=3))) ?_
 refine n2 ?_
 rcases bf (decide ((u)=3)) with ab|ab
 ·have dl:=dF ab
  refine cf ab<|nm<|mQ<|mP<|sr ?_
  have bH:=(S.ch h (Ne.symm (nN (nL hgl (nT (z2 a b) d)))))
  refine lN (oi (e) m p q r) wN nv mY bH ?_
  have bI:=((((R.ch b (Ne.symm (nN (nL hgl (i))))).kp l).ch j (nN (nL s (nT b.size d)))).ch h (Ne.symm (nN (nL hgl (i)))))
  refine sv (oi (e) m p q r) wN mY bI ?_
  intro J a4 bJ dm
  have aN:=ChG.ext P a4 (fun k hk=>.inr (by subst hk;exact i))
  refine n3 ?_
  have aO:=fun (E sz n:Nat) (v:Value) (t:List Value) (o:World.ownsRow y w.heap.size E sz v n t) (f:World.ownsRow y w.heap.size E sz v n t)=>(gc (gc (gc (mz o l) j (ne2 f (d))) h (ne1 f (nL hgl a.size))) a4 (ne1 f (s)))
  have bK:=(aO _ _ _ _ _ C C)
  have bL:=(aO _ _ _ _ _ D D)
  refine rc (oi (e) m p q r) bJ nv mY ?_
  have bM:=(T.ch a4 (nN (nL hgl (i))))
  exact ⟨(e),aN,(cx bM hcr aN hcl hcn),⟨_,_,_,_,rfl,(mO bK a.size),ad,(mO bL a.size),ae,⟨⟨(az.1.1),trivial⟩,⟨trivial,trivial⟩⟩⟩,trivial⟩
 have dn:=dT ab
 refine ct ab<|mV ?_
 refine mw (vp g 0) ?_
 refine cl wN (Bl aY g ca cc cb (cx T hcr P hcl hcn)) ?_
 rintro _ J ⟨I,au,⟨dp,dq,bN,dr,ds,dt,du⟩,⟨M,O,rfl,av,bO,dv⟩,dw⟩
 have bP:=ChG.ext P au iL
 refine pu (vp af 3) wN ?_
 have bQ:=((S.ch h (Ne.symm (nN (nL hgl (nT (z2 a b) d))))).ch au (Ne.symm (nN (nL hgl (nT (z2 a b) d)))))
 refine st (va (pn (I) M O)) (pn (I) M O) (oi {(e) with Win:=(I):PEp} m p M O) wN ni bQ ?_
 intro ah ac bR dx
 have bS:=ChG.ext bP ac (fun k hk=>.inr (by subst hk;exact nT (z2 a b) d))
 refine mW<|mQ<|mP<|sr ?_
 refine lN (oi {(e) with Win:=(I):PEp} m p M O) wN nv mY bR ?_
 have bT:=((((((R.ch b (Ne.symm (nN (nL hgl (i))))).kp l).ch j (nN (nL s (nT b.size d)))).ch h (Ne.symm (nN (nL hgl (i))))).ch au (Ne.symm (nN (nL hgl (i))))).ch ac (nN (nL s (nT b.size d))))
 refine sv (oi {(e) with Win:=(I):PEp} m p M O) wN mY bT ?_
 intro a0 ax bU dy
 have aP:=ChG.ext bS ax (fun k hk=>.inr (by subst hk;exact i))
 refine n3 ?_
 have bW:=fun (E sz n:Nat) (v:Value) (t:List Value) (o:World.ownsRow y w.heap.size E sz v n t) (f:World.ownsRow y w.heap.size E sz v n t)=>(gc (gc (gc (gc (gc (mz o l) j (ne2 f (d))) h (ne1 f (nL hgl a.size))) au (ne1 f (nL hgl a.size))) ac (ne2 f (d))) ax (ne1 f (s)))
 have bX:=(bW _ _ _ _ _ C C)
 have bY:=(gc (gc av ac (ne1 av (nL a6 (z2 j h)))) ax (ne1 av (nL s (z4 b l j h))))
 refine rc (oi {(e) with Win:=(I):PEp} m p M O) bU nv mY ?_
 have bZ:=((bN.ch ac (nN (nL hgl (nT (z2 a b) d)))).ch ax (nN (nL hgl (i))))
 exact ⟨{(e) with Win:=(I):PEp},aP,(cx bZ hcr aP hcl hcn),⟨_,_,_,_,rfl,(mO bX a.size),ad,(mO bY (z5 a b l j h)),bO,⟨⟨(Ap.lt C av (z3 l j h)),trivial⟩,⟨trivial,trivial⟩⟩⟩,trivial⟩

theorem qC:∀ w,(isAgg 4).run Tryz.prog w=.ok false w:=fun w=>by kernel_rfl
theorem zZ (aG:World) (g:Nat) (ca:Option Addr) (cc:Nat) (cb:List UInt8) (bO:ph aG g 110 ca cc cb) :Fn Tryz.prog 60 #[(vp g 0)] aG (fun v bq=>∃ x:(PChan),Ch (fun k=>k=g) aG bq∧ph bq g 110 ca cc cb∧CF bq aG.heap.size v x∧(x.Sn.length≤12)):=by
 obtain ⟨ci,chh,hcb,hcr,hcl,hci,hcn⟩:=bO
 have hgl:=Blk.lt hcb
 refine nu (n:=52) [(vp g 0)] Tryz.func60 rfl rfl ?_
 refine sr<|al tT wN pJ ?_
 intro en bP p H b X
 have b0:=ChG.extk (Ch.refl (fun k=>k=g) aG) b
 refine nx<|mw (vp g 0) ?_
 refine mw (vp g 0) ?_
 have bQ:=(hcb.kp b)
 refine cl wN (ow bP g ca cc cb (cx bQ hcr b0 hcl hcn) 2) ?_
 rintro _ P ⟨bR,a,⟨eo,ep,bS,er,es,et,eu⟩,rfl,ew⟩
 have b1:=ChG.ext b0 a iL
 refine cl wN (yK P g ca cc cb (cx bS hcr b1 hcl hcn) (bR)) ?_
 rintro _ Q ⟨i,e,⟨ex,ey,bT,ez,e0,e1,e2⟩,⟨q,r,s,t,u,w,y,A,B,C,D,F,rfl,J,aj,L,ak,M,am,N,an,O,ao,K,ap,d⟩,e3⟩
 have bU:=ChG.ext b1 e iL
 refine al tT wN pJ ?_
 intro Y e4 h aY l bW
 have bX:=ChG.extk bU l
 refine sv (oj (i) q r s t u w y A B C D F) wN mX bW ?_
 intro bY j Z e5
 have b2:=ChG.ext bX j (fun k hk=>.inr (by subst hk;exact nT (z3 b a e) h))
 refine n4<|mw (vp g 0) ?_
 have bZ:=((bT.kp l).ch j (nN (nL hgl (nT (z3 b a e) h))))
 refine cl wN (ow bY g ca cc cb (cx bZ hcr b2 hcl hcn) 20) ?_
 rintro _ aq ⟨I,f,⟨e6,e7,aa,e8,e9,eA,eB⟩,rfl,eC⟩
 have V:=ChG.ext b2 f iL
 refine mW<|mP<|ng<|sr<|pu (vb (decide ((I)=0))) wN ?_
 refine aw (vb (decide ((I)=0))) ?_
 refine n2 ?_
 rcases bt (decide ((I)=0)) with aH|aH
 ·have eD:=dT aH
  refine ct aH<|mV ?_
  refine mw (vp g 0) ?_
  refine ltI ([(-1),0,1,2]:List Int) wN nf ?_
  intro eE eF R aI b3
  have b4:=ChG.extk V aI
  have cd:=(aa.kp aI)
  refine cl wN (oz R g ca cc cb (cx cd hcr b4 hcl hcn) _ ([(-1),0,1,2]:List Int) ⟨_,_,rfl,(Rd.of_own b3),(by simp),(fun _ z hz=>by have b5:=(nb b3 z.block (by rw [hz];rfl)).1;have b6:=nL hgl (z6 b a e l j f);omega)⟩ (by simp)) ?_
  rintro _ au ⟨S,aZ,⟨eG,eH,ce,eI,eJ,eK,eL⟩,rfl,cg⟩
  have cj:=ChG.ext b4 aZ iL
  have q94m:S=(-1)∨S=0∨S=1∨S=2:=by simpa using cg
  refine pu (vp Y 0) wN ?_
  have ck:=(((Z.ch f (Ne.symm (nN (nL hgl (nT (z3 b a e) h))))).kp aI).ch aZ (Ne.symm (nN (nL hgl (nT (z3 b a e) h)))))
  refine sf (vi (S)) wN nV ck ?_
  intro aJ ba cm eM
  have cn:=ChG.ext cj ba (fun k hk=>.inr (by subst hk;exact nT (z3 b a e) h))
  refine mW<|mQ<|mP<|sr ?_
  refine lN (oj {(i) with Role:=(S):PChan} q r s t u w y A B C D F) wN nj mX cm ?_
  have co:=((((((((X.ch a (Ne.symm (nN (nL hgl (p))))).ch e (Ne.symm (nN (nL hgl (p))))).kp l).ch j (nN (nL H (nT (z2 a e) h)))).ch f (Ne.symm (nN (nL hgl (p))))).kp aI).ch aZ (Ne.symm (nN (nL hgl (p))))).ch ba (nN (nL H (nT (z2 a e) h))))
  refine sv (oj {(i) with Role:=(S):PChan} q r s t u w y A B C D F) wN mX co ?_
  intro b7 br cp eN
  have b8:=ChG.ext cn br (fun k hk=>.inr (by subst hk;exact p))
  refine n3 ?_
  have a8:=fun (E sz n:Nat) (v:Value) (G:List Value) (o:World.ownsRow Q P.heap.size E sz v n G) (m:World.ownsRow Q P.heap.size E sz v n G)=>(gc (gc (gc (mz (gc (gc (mz o l) j (ne2 m (h))) f (ne1 m (nL hgl (z2 b a)))) aI) aZ (ne1 m (nL hgl (z2 b a)))) ba (ne2 m (h))) br (ne1 m (nL H a.size)))
  have cq:=(a8 _ _ _ _ _ J J)
  have cr:=(a8 _ _ _ _ _ L L)
  have cs:=(a8 _ _ _ _ _ M M)
  have cu:=(a8 _ _ _ _ _ N N)
  have cv:=(a8 _ _ _ _ _ O O)
  have cw:=(a8 _ _ _ _ _ K K)
  refine rc (oj {(i) with Role:=(S):PChan} q r s t u w y A B C D F) cp nj mX ?_
  have cy:=((ce.ch ba (nN (nL hgl (nT (z3 b a e) h)))).ch br (nN (nL hgl (p))))
  exact ⟨{(i) with Role:=(S):PChan},b8,(cx cy hcr b8 hcl hcn),⟨_,_,_,_,_,_,_,_,_,_,_,_,rfl,(mO cq (z2 b a)),aj,(mO cr (z2 b a)),ak,(mO cs (z2 b a)),am,(mO cu (z2 b a)),an,(mO cv (z2 b a)),ao,(mO cw (z2 b a)),ap,⟨⟨(d.1.1),⟨(d.1.2.1),⟨(d.1.2.2.1),⟨(d.1.2.2.2.1),⟨(d.1.2.2.2.2.1),trivial⟩⟩⟩⟩⟩,⟨⟨(d.2.1.1),⟨(d.2.1.2.1),⟨(d.2.1.2.2.1),⟨(d.2.1.2.2.2.1),trivial⟩⟩⟩⟩,⟨⟨(d.2.2.1.1),⟨(d.2.2.1.2.1),⟨(d.2.2.1.2.2.1),trivial⟩⟩⟩,⟨⟨(d.2.2.2.1.1),⟨(d.2.2.2.1.2.1),trivial⟩⟩,⟨⟨(d.2.2.2.2.1.1),trivial⟩,⟨trivial,trivial⟩⟩⟩⟩⟩⟩⟩,(by first|assumption|omega|(dsimp only;omega))⟩
 have eO:=dF aH
 refine cf aH<|sr<|pu (vb (decide ((I)=1))) wN ?_
 refine aw (vb (decide ((I)=1))) ?_
 refine n2 ?_
 rcases bt (decide ((I)=1)) with aK|aK
 ·have eP:=dT aK
  refine ct aK<|mV ?_
  refine mw (vp g 0) ?_
  refine cl wN (oC aq g ca cc cb (cx aa hcr V hcl hcn) 11 (by omega)) ?_
  rintro _ R ⟨ab,bb,⟨eQ,eR,cz,eS,eT,eU,eV⟩,⟨av,ax,rfl,ac,c0,eW⟩,eX⟩
  have c1:=ChG.ext V bb iL
  refine pu (vp Y 1) wN ?_
  have c2:=((Z.ch f (Ne.symm (nN (nL hgl (nT (z3 b a e) h))))).ch bb (Ne.symm (nN (nL hgl (nT (z3 b a e) h)))))
  refine sf (vs av (ab).length ax) wN nG c2 ?_
  intro au aL c3 eY
  have c4:=ChG.ext c1 aL (fun k hk=>.inr (by subst hk;exact nT (z3 b a e) h))
  refine mW<|mQ<|mP<|sr ?_
  refine lN (oj {(i) with Sn:=(ab):PChan} av ax s t u w y A B C D F) wN nj mX c3 ?_
  have c5:=(((((((X.ch a (Ne.symm (nN (nL hgl (p))))).ch e (Ne.symm (nN (nL hgl (p))))).kp l).ch j (nN (nL H (nT (z2 a e) h)))).ch f (Ne.symm (nN (nL hgl (p))))).ch bb (Ne.symm (nN (nL hgl (p))))).ch aL (nN (nL H (nT (z2 a e) h))))
  refine sv (oj {(i) with Sn:=(ab):PChan} av ax s t u w y A B C D F) wN mX c5 ?_
  intro aJ bc c6 eZ
  have b9:=ChG.ext c4 bc (fun k hk=>.inr (by subst hk;exact p))
  refine n3 ?_
  have c7:=(gc (gc ac aL (ne1 ac (nL aY (z2 j f)))) bc (ne1 ac (nL H (z5 a e l j f))))
  have aM:=fun (E sz n:Nat) (v:Value) (G:List Value) (o:World.ownsRow Q P.heap.size E sz v n G) (m:World.ownsRow Q P.heap.size E sz v n G)=>(gc (gc (gc (gc (gc (mz o l) j (ne2 m (h))) f (ne1 m (nL hgl (z2 b a)))) bb (ne1 m (nL hgl (z2 b a)))) aL (ne2 m (h))) bc (ne1 m (nL H a.size)))
  have c8:=(aM _ _ _ _ _ L L)
  have c9:=(aM _ _ _ _ _ M M)
  have cC:=(aM _ _ _ _ _ N N)
  have cD:=(aM _ _ _ _ _ O O)
  have cE:=(aM _ _ _ _ _ K K)
  refine rc (oj {(i) with Sn:=(ab):PChan} av ax s t u w y A B C D F) c6 nj mX ?_
  have cF:=((cz.ch aL (nN (nL hgl (nT (z3 b a e) h)))).ch bc (nN (nL hgl (p))))
  exact ⟨{(i) with Sn:=(ab):PChan},b9,(cx cF hcr b9 hcl hcn),⟨_,_,_,_,_,_,_,_,_,_,_,_,rfl,(mO c7 (z6 b a e l j f)),c0,(mO c8 (z2 b a)),ak,(mO c9 (z2 b a)),am,(mO cC (z2 b a)),an,(mO cD (z2 b a)),ao,(mO cE (z2 b a)),ap,⟨⟨(Ap.lt L ac (z3 l j f)).symm,⟨(Ap.lt M ac (z3 l j f)).symm,⟨(Ap.lt N ac (z3 l j f)).symm,⟨(Ap.lt O ac (z3 l j f)).symm,⟨(Ap.lt K ac (z3 l j f)).symm,trivial⟩⟩⟩⟩⟩,⟨⟨(d.2.1.1),⟨(d.2.1.2.1),⟨(d.2.1.2.2.1),⟨(d.2.1.2.2.2.1),trivial⟩⟩⟩⟩,⟨⟨(d.2.2.1.1),⟨(d.2.2.1.2.1),⟨(d.2.2.1.2.2.1),trivial⟩⟩⟩,⟨⟨(d.2.2.2.1.1),⟨(d.2.2.2.1.2.1),trivial⟩⟩,⟨⟨(d.2.2.2.2.1.1),trivial⟩,⟨trivial,trivial⟩⟩⟩⟩⟩⟩⟩,(by first|assumption|omega|(dsimp only;omega))⟩
 have fa:=dF aK
 refine cf aK<|sr<|pu (vb (decide ((I)=2))) wN ?_
 refine aw (vb (decide ((I)=2))) ?_
 refine n2 ?_
 rcases bt (decide ((I)=2)) with aN|aN
 ·have fb:=dT aN
  refine ct aN<|mV ?_
  refine mw (vp g 0) ?_
  refine cl wN (yG aq g ca cc cb (cx aa hcr V hcl hcn)) ?_
  rintro _ R ⟨ad,bd,⟨fc,fd,cG,fe,ff,fg,fh⟩,⟨ay,az,a0,a1,rfl,a9,cH,aA,cI,cJ⟩,fi⟩
  have cK:=ChG.ext V bd iL
  refine pu (vp Y 2) wN ?_
  have cL:=((Z.ch f (Ne.symm (nN (nL hgl (nT (z3 b a e) h))))).ch bd (Ne.symm (nN (nL hgl (nT (z3 b a e) h)))))
  refine st (va (oi (ad) ay az a0 a1)) (oi (ad) ay az a0 a1) (oj {(i) with Cur:=(ad):PChan} q r ay az a0 a1 y A B C D F) wN mY cL ?_
  intro au aO cM fj
  have cN:=ChG.ext cK aO (fun k hk=>.inr (by subst hk;exact nT (z3 b a e) h))
  refine mW<|mQ<|mP<|sr ?_
  refine lN (oj {(i) with Cur:=(ad):PChan} q r ay az a0 a1 y A B C D F) wN nj mX cM ?_
  have cO:=(((((((X.ch a (Ne.symm (nN (nL hgl (p))))).ch e (Ne.symm (nN (nL hgl (p))))).kp l).ch j (nN (nL H (nT (z2 a e) h)))).ch f (Ne.symm (nN (nL hgl (p))))).ch bd (Ne.symm (nN (nL hgl (p))))).ch aO (nN (nL H (nT (z2 a e) h))))
  refine sv (oj {(i) with Cur:=(ad):PChan} q r ay az a0 a1 y A B C D F) wN mX cO ?_
  intro aJ be cP fk
  have bA:=ChG.ext cN be (fun k hk=>.inr (by subst hk;exact p))
  refine n3 ?_
  have bg:=fun (E sz n:Nat) (v:Value) (G:List Value) (o:World.ownsRow Q P.heap.size E sz v n G) (m:World.ownsRow Q P.heap.size E sz v n G)=>(gc (gc (gc (gc (gc (mz o l) j (ne2 m (h))) f (ne1 m (nL hgl (z2 b a)))) bd (ne1 m (nL hgl (z2 b a)))) aO (ne2 m (h))) be (ne1 m (nL H a.size)))
  have cQ:=(bg _ _ _ _ _ J J)
  have bB:=fun (E sz n:Nat) (v:Value) (G:List Value) (o:World.ownsRow R aq.heap.size E sz v n G) (m:World.ownsRow R aq.heap.size E sz v n G)=>(gc (gc o aO (ne1 m (nL aY (z2 j f)))) be (ne1 m (nL H (z5 a e l j f))))
  have cR:=(bB _ _ _ _ _ a9 a9)
  have cS:=(bB _ _ _ _ _ aA aA)
  have cT:=(bg _ _ _ _ _ N N)
  have cU:=(bg _ _ _ _ _ O O)
  have cV:=(bg _ _ _ _ _ K K)
  refine rc (oj {(i) with Cur:=(ad):PChan} q r ay az a0 a1 y A B C D F) cP nj mX ?_
  have cW:=((cG.ch aO (nN (nL hgl (nT (z3 b a e) h)))).ch be (nN (nL hgl (p))))
  exact ⟨{(i) with Cur:=(ad):PChan},bA,(cx cW hcr bA hcl hcn),⟨_,_,_,_,_,_,_,_,_,_,_,_,rfl,(mO cQ (z2 b a)),aj,(mO cR (z6 b a e l j f)),cH,(mO cS (z6 b a e l j f)),cI,(mO cT (z2 b a)),an,(mO cU (z2 b a)),ao,(mO cV (z2 b a)),ap,⟨⟨(Ap.lt J a9 (z3 l j f)),⟨(Ap.lt J aA (z3 l j f)),⟨(d.1.2.2.1),⟨(d.1.2.2.2.1),⟨(d.1.2.2.2.2.1),trivial⟩⟩⟩⟩⟩,⟨⟨(cJ.1.1),⟨(Ap.lt N a9 (z3 l j f)).symm,⟨(Ap.lt O a9 (z3 l j f)).symm,⟨(Ap.lt K a9 (z3 l j f)).symm,trivial⟩⟩⟩⟩,⟨⟨(Ap.lt N aA (z3 l j f)).symm,⟨(Ap.lt O aA (z3 l j f)).symm,⟨(Ap.lt K aA (z3 l j f)).symm,trivial⟩⟩⟩,⟨⟨(d.2.2.2.1.1),⟨(d.2.2.2.1.2.1),trivial⟩⟩,⟨⟨(d.2.2.2.2.1.1),trivial⟩,⟨trivial,trivial⟩⟩⟩⟩⟩⟩⟩,(by first|assumption|omega|(dsimp only;omega))⟩
 have fl:=dF aN
 refine cf aN<|sr<|pu (vb (decide ((I)=3))) wN ?_
 refine aw (vb (decide ((I)=3))) ?_
 refine n2 ?_
 rcases bt (decide ((I)=3)) with aP|aP
 ·have fm:=dT aP
  refine ct aP<|mV ?_
  refine mw (vp g 0) ?_
  refine cl wN (yG aq g ca cc cb (cx aa hcr V hcl hcn)) ?_
  rintro _ R ⟨ae,bh,⟨fo,fp,cX,fq,fr,fs,ft⟩,⟨a2,a3,a4,a5,rfl,aB,cY,aC,cZ,da⟩,fu⟩
  have db:=ChG.ext V bh iL
  refine pu (vp Y 7) wN ?_
  have dc:=((Z.ch f (Ne.symm (nN (nL hgl (nT (z3 b a e) h))))).ch bh (Ne.symm (nN (nL hgl (nT (z3 b a e) h)))))
  refine st (va (oi (ae) a2 a3 a4 a5)) (oi (ae) a2 a3 a4 a5) (oj {(i) with Old:=(ae):PChan} q r s t u w a2 a3 a4 a5 D F) wN mY dc ?_
  intro au aQ dd fv
  have de:=ChG.ext db aQ (fun k hk=>.inr (by subst hk;exact nT (z3 b a e) h))
  refine mW<|mQ<|mP<|sr ?_
  refine lN (oj {(i) with Old:=(ae):PChan} q r s t u w a2 a3 a4 a5 D F) wN nj mX dd ?_
  have df:=(((((((X.ch a (Ne.symm (nN (nL hgl (p))))).ch e (Ne.symm (nN (nL hgl (p))))).kp l).ch j (nN (nL H (nT (z2 a e) h)))).ch f (Ne.symm (nN (nL hgl (p))))).ch bh (Ne.symm (nN (nL hgl (p))))).ch aQ (nN (nL H (nT (z2 a e) h))))
  refine sv (oj {(i) with Old:=(ae):PChan} q r s t u w a2 a3 a4 a5 D F) wN mX df ?_
  intro aJ bi dg fw
  have bC:=ChG.ext de bi (fun k hk=>.inr (by subst hk;exact p))
  refine n3 ?_
  have bj:=fun (E sz n:Nat) (v:Value) (G:List Value) (o:World.ownsRow Q P.heap.size E sz v n G) (m:World.ownsRow Q P.heap.size E sz v n G)=>(gc (gc (gc (gc (gc (mz o l) j (ne2 m (h))) f (ne1 m (nL hgl (z2 b a)))) bh (ne1 m (nL hgl (z2 b a)))) aQ (ne2 m (h))) bi (ne1 m (nL H a.size)))
  have dh:=(bj _ _ _ _ _ J J)
  have di:=(bj _ _ _ _ _ L L)
  have dj:=(bj _ _ _ _ _ M M)
  have bD:=fun (E sz n:Nat) (v:Value) (G:List Value) (o:World.ownsRow R aq.heap.size E sz v n G) (m:World.ownsRow R aq.heap.size E sz v n G)=>(gc (gc o aQ (ne1 m (nL aY (z2 j f)))) bi (ne1 m (nL H (z5 a e l j f))))
  have dk:=(bD _ _ _ _ _ aB aB)
  have dl:=(bD _ _ _ _ _ aC aC)
  have dm:=(bj _ _ _ _ _ K K)
  refine rc (oj {(i) with Old:=(ae):PChan} q r s t u w a2 a3 a4 a5 D F) dg nj mX ?_
  have dn:=((cX.ch aQ (nN (nL hgl (nT (z3 b a e) h)))).ch bi (nN (nL hgl (p))))
  exact ⟨{(i) with Old:=(ae):PChan},bC,(cx dn hcr bC hcl hcn),⟨_,_,_,_,_,_,_,_,_,_,_,_,rfl,(mO dh (z2 b a)),aj,(mO di (z2 b a)),ak,(mO dj (z2 b a)),am,(mO dk (z6 b a e l j f)),cY,(mO dl (z6 b a e l j f)),cZ,(mO dm (z2 b a)),ap,⟨⟨(d.1.1),⟨(d.1.2.1),⟨(Ap.lt J aB (z3 l j f)),⟨(Ap.lt J aC (z3 l j f)),⟨(d.1.2.2.2.2.1),trivial⟩⟩⟩⟩⟩,⟨⟨(d.2.1.1),⟨(Ap.lt L aB (z3 l j f)),⟨(Ap.lt L aC (z3 l j f)),⟨(d.2.1.2.2.2.1),trivial⟩⟩⟩⟩,⟨⟨(Ap.lt M aB (z3 l j f)),⟨(Ap.lt M aC (z3 l j f)),⟨(d.2.2.1.2.2.1),trivial⟩⟩⟩,⟨⟨(da.1.1),⟨(Ap.lt K aB (z3 l j f)).symm,trivial⟩⟩,⟨⟨(Ap.lt K aC (z3 l j f)).symm,trivial⟩,⟨trivial,trivial⟩⟩⟩⟩⟩⟩⟩,(by first|assumption|omega|(dsimp only;omega))⟩
 have fx:=dF aP
 refine cf aP<|sr<|pu (vb (decide ((I)=4))) wN ?_
 refine aw (vb (decide ((I)=4))) ?_
 refine n2 ?_
 rcases bt (decide ((I)=4)) with aR|aR
 ·have fy:=dT aR
  refine ct aR<|mV ?_
  refine pu (vp Y 12) wN ?_
  have bE:=(Z.ch f (Ne.symm (nN (nL hgl (nT (z3 b a e) h)))))
  refine ld (vb ((i).HasOld)) wN qC bE ?_
  refine pu (vb (!((i).HasOld))) wN ?_
  refine pu (vp Y 12) wN ?_
  refine sf (vb (!((i).HasOld))) wN sj bE ?_
  intro R bk dp fz
  have dq:=ChG.ext V bk (fun k hk=>.inr (by subst hk;exact nT (z3 b a e) h))
  refine mW<|mQ<|mP<|sr ?_
  refine lN (oj {(i) with HasOld:=!((i).HasOld):PChan} q r s t u w y A B C D F) wN nj mX dp ?_
  have dr:=((((((X.ch a (Ne.symm (nN (nL hgl (p))))).ch e (Ne.symm (nN (nL hgl (p))))).kp l).ch j (nN (nL H (nT (z2 a e) h)))).ch f (Ne.symm (nN (nL hgl (p))))).ch bk (nN (nL H (nT (z2 a e) h))))
  refine sv (oj {(i) with HasOld:=!((i).HasOld):PChan} q r s t u w y A B C D F) wN mX dr ?_
  intro au bu ds f0
  have bF:=ChG.ext dq bu (fun k hk=>.inr (by subst hk;exact p))
  refine n3 ?_
  have aD:=fun (E sz n:Nat) (v:Value) (G:List Value) (o:World.ownsRow Q P.heap.size E sz v n G) (m:World.ownsRow Q P.heap.size E sz v n G)=>(gc (gc (gc (gc (mz o l) j (ne2 m (h))) f (ne1 m (nL hgl (z2 b a)))) bk (ne2 m (h))) bu (ne1 m (nL H a.size)))
  have dt:=(aD _ _ _ _ _ J J)
  have du:=(aD _ _ _ _ _ L L)
  have dv:=(aD _ _ _ _ _ M M)
  have dw:=(aD _ _ _ _ _ N N)
  have dx:=(aD _ _ _ _ _ O O)
  have dy:=(aD _ _ _ _ _ K K)
  refine rc (oj {(i) with HasOld:=!((i).HasOld):PChan} q r s t u w y A B C D F) ds nj mX ?_
  have dz:=((aa.ch bk (nN (nL hgl (nT (z3 b a e) h)))).ch bu (nN (nL hgl (p))))
  exact ⟨{(i) with HasOld:=!((i).HasOld):PChan},bF,(cx dz hcr bF hcl hcn),⟨_,_,_,_,_,_,_,_,_,_,_,_,rfl,(mO dt (z2 b a)),aj,(mO du (z2 b a)),ak,(mO dv (z2 b a)),am,(mO dw (z2 b a)),an,(mO dx (z2 b a)),ao,(mO dy (z2 b a)),ap,⟨⟨(d.1.1),⟨(d.1.2.1),⟨(d.1.2.2.1),⟨(d.1.2.2.2.1),⟨(d.1.2.2.2.2.1),trivial⟩⟩⟩⟩⟩,⟨⟨(d.2.1.1),⟨(d.2.1.2.1),⟨(d.2.1.2.2.1),⟨(d.2.1.2.2.2.1),trivial⟩⟩⟩⟩,⟨⟨(d.2.2.1.1),⟨(d.2.2.1.2.1),⟨(d.2.2.1.2.2.1),trivial⟩⟩⟩,⟨⟨(d.2.2.2.1.1),⟨(d.2.2.2.1.2.1),trivial⟩⟩,⟨⟨(d.2.2.2.2.1.1),trivial⟩,⟨trivial,trivial⟩⟩⟩⟩⟩⟩⟩,(by first|assumption|omega|(dsimp only;omega))⟩
 have f3:=dF aR
 refine cf aR<|sr<|pu (vb (decide ((I)=5))) wN ?_
 refine aw (vb (decide ((I)=5))) ?_
 refine n2 ?_
 rcases bt (decide ((I)=5)) with aS|aS
 ·have f4:=dT aS
  refine ct aS<|mV ?_
  refine mw (vp g 0) ?_
  refine ltI ([(-2),(-1),1,1000006]:List Int) wN nf ?_
  intro f5 f6 R aT bG
  have bH:=ChG.extk V aT
  have d0:=(aa.kp aT)
  refine cl wN (oz R g ca cc cb (cx d0 hcr bH hcl hcn) _ ([(-2),(-1),1,1000006]:List Int) ⟨_,_,rfl,(Rd.of_own bG),(by simp),(fun _ z hz=>by have b5:=(nb bG z.block (by rw [hz];rfl)).1;have b6:=nL hgl (z6 b a e l j f);omega)⟩ (by simp)) ?_
  rintro _ au ⟨T,bl,⟨f7,f8,d1,f9,fA,fB,fC⟩,rfl,d2⟩
  have d3:=ChG.ext bH bl iL
  have q280m:T=(-2)∨T=(-1)∨T=1∨T=1000006:=by simpa using d2
  refine pu (vp Y 13) wN ?_
  have d4:=(((Z.ch f (Ne.symm (nN (nL hgl (nT (z3 b a e) h))))).kp aT).ch bl (Ne.symm (nN (nL hgl (nT (z3 b a e) h)))))
  refine sf (vi (T)) wN nV d4 ?_
  intro aJ bm d5 fD
  have d6:=ChG.ext d3 bm (fun k hk=>.inr (by subst hk;exact nT (z3 b a e) h))
  refine mW<|mQ<|mP<|sr ?_
  refine lN (oj {(i) with Until:=(T):PChan} q r s t u w y A B C D F) wN nj mX d5 ?_
  have d7:=((((((((X.ch a (Ne.symm (nN (nL hgl (p))))).ch e (Ne.symm (nN (nL hgl (p))))).kp l).ch j (nN (nL H (nT (z2 a e) h)))).ch f (Ne.symm (nN (nL hgl (p))))).kp aT).ch bl (Ne.symm (nN (nL hgl (p))))).ch bm (nN (nL H (nT (z2 a e) h))))
  refine sv (oj {(i) with Until:=(T):PChan} q r s t u w y A B C D F) wN mX d7 ?_
  intro b7 bv d8 fE
  have bI:=ChG.ext d6 bv (fun k hk=>.inr (by subst hk;exact p))
  refine n3 ?_
  have aE:=fun (E sz n:Nat) (v:Value) (G:List Value) (o:World.ownsRow Q P.heap.size E sz v n G) (m:World.ownsRow Q P.heap.size E sz v n G)=>(gc (gc (gc (mz (gc (gc (mz o l) j (ne2 m (h))) f (ne1 m (nL hgl (z2 b a)))) aT) bl (ne1 m (nL hgl (z2 b a)))) bm (ne2 m (h))) bv (ne1 m (nL H a.size)))
  have d9:=(aE _ _ _ _ _ J J)
  have dA:=(aE _ _ _ _ _ L L)
  have dB:=(aE _ _ _ _ _ M M)
  have dC:=(aE _ _ _ _ _ N N)
  have dD:=(aE _ _ _ _ _ O O)
  have dE:=(aE _ _ _ _ _ K K)
  refine rc (oj {(i) with Until:=(T):PChan} q r s t u w y A B C D F) d8 nj mX ?_
  have dG:=((d1.ch bm (nN (nL hgl (nT (z3 b a e) h)))).ch bv (nN (nL hgl (p))))
  exact ⟨{(i) with Until:=(T):PChan},bI,(cx dG hcr bI hcl hcn),⟨_,_,_,_,_,_,_,_,_,_,_,_,rfl,(mO d9 (z2 b a)),aj,(mO dA (z2 b a)),ak,(mO dB (z2 b a)),am,(mO dC (z2 b a)),an,(mO dD (z2 b a)),ao,(mO dE (z2 b a)),ap,⟨⟨(d.1.1),⟨(d.1.2.1),⟨(d.1.2.2.1),⟨(d.1.2.2.2.1),⟨(d.1.2.2.2.2.1),trivial⟩⟩⟩⟩⟩,⟨⟨(d.2.1.1),⟨(d.2.1.2.1),⟨(d.2.1.2.2.1),⟨(d.2.1.2.2.2.1),trivial⟩⟩⟩⟩,⟨⟨(d.2.2.1.1),⟨(d.2.2.1.2.1),⟨(d.2.2.1.2.2.1),trivial⟩⟩⟩,⟨⟨(d.2.2.2.1.1),⟨(d.2.2.2.1.2.1),trivial⟩⟩,⟨⟨(d.2.2.2.2.1.1),trivial⟩,⟨trivial,trivial⟩⟩⟩⟩⟩⟩⟩,(by first|assumption|omega|(dsimp only;omega))⟩
 have fF:=dF aS
 refine cf aS<|sr<|pu (vb (decide ((I)=6))) wN ?_
 refine aw (vb (decide ((I)=6))) ?_
 refine n2 ?_
 rcases bf (decide ((I)=6)) with aU|aU
 ·have fG:=dF aU
  refine cf aU<|nm<|mQ<|mP<|sr ?_
  have dH:=(Z.ch f (Ne.symm (nN (nL hgl (nT (z3 b a e) h)))))
  refine lN (oj (i) q r s t u w y A B C D F) wN nj mX dH ?_
  have dI:=(((((X.ch a (Ne.symm (nN (nL hgl (p))))).ch e (Ne.symm (nN (nL hgl (p))))).kp l).ch j (nN (nL H (nT (z2 a e) h)))).ch f (Ne.symm (nN (nL hgl (p)))))
  refine sv (oj (i) q r s t u w y A B C D F) wN mX dI ?_
  intro R bw dJ fH
  have bJ:=ChG.ext V bw (fun k hk=>.inr (by subst hk;exact p))
  refine n3 ?_
  have aF:=fun (E sz n:Nat) (v:Value) (G:List Value) (o:World.ownsRow Q P.heap.size E sz v n G) (m:World.ownsRow Q P.heap.size E sz v n G)=>(gc (gc (gc (mz o l) j (ne2 m (h))) f (ne1 m (nL hgl (z2 b a)))) bw (ne1 m (nL H a.size)))
  have dK:=(aF _ _ _ _ _ J J)
  have dL:=(aF _ _ _ _ _ L L)
  have dM:=(aF _ _ _ _ _ M M)
  have dN:=(aF _ _ _ _ _ N N)
  have dO:=(aF _ _ _ _ _ O O)
  have dP:=(aF _ _ _ _ _ K K)
  refine rc (oj (i) q r s t u w y A B C D F) dJ nj mX ?_
  have dQ:=(aa.ch bw (nN (nL hgl (p))))
  exact ⟨(i),bJ,(cx dQ hcr bJ hcl hcn),⟨_,_,_,_,_,_,_,_,_,_,_,_,rfl,(mO dK (z2 b a)),aj,(mO dL (z2 b a)),ak,(mO dM (z2 b a)),am,(mO dN (z2 b a)),an,(mO dO (z2 b a)),ao,(mO dP (z2 b a)),ap,⟨⟨(d.1.1),⟨(d.1.2.1),⟨(d.1.2.2.1),⟨(d.1.2.2.2.1),⟨(d.1.2.2.2.2.1),trivial⟩⟩⟩⟩⟩,⟨⟨(d.2.1.1),⟨(d.2.1.2.1),⟨(d.2.1.2.2.1),⟨(d.2.1.2.2.2.1),trivial⟩⟩⟩⟩,⟨⟨(d.2.2.1.1),⟨(d.2.2.1.2.1),⟨(d.2.2.1.2.2.1),trivial⟩⟩⟩,⟨⟨(d.2.2.2.1.1),⟨(d.2.2.2.1.2.1),trivial⟩⟩,⟨⟨(d.2.2.2.2.1.1),trivial⟩,⟨trivial,trivial⟩⟩⟩⟩⟩⟩⟩,(by first|assumption|omega|(dsimp only;omega))⟩
 have fI:=dT aU
 refine ct aU<|mV ?_
 refine mw (vp g 0) ?_
 refine mw (vp g 0) ?_
 refine ltI ([0,31,32]:List Int) wN nf ?_
 intro fJ fK R W bK
 have bL:=ChG.extk V W
 have dR:=(aa.kp W)
 refine cl wN (oz R g ca cc cb (cx dR hcr bL hcl hcn) _ ([0,31,32]:List Int) ⟨_,_,rfl,(Rd.of_own bK),(by simp),(fun _ z hz=>by have b5:=(nb bK z.block (by rw [hz];rfl)).1;have b6:=nL hgl (z6 b a e l j f);omega)⟩ (by simp)) ?_
 rintro _ au ⟨bn,af,⟨fL,fM,dS,fN,fO,fP,fQ⟩,rfl,dU⟩
 have bM:=ChG.ext bL af iL
 have q319m:bn=0∨bn=31∨bn=32:=by simpa using dU
 refine cl wN (oC au g ca cc cb (cx dS hcr bM hcl hcn) (bn) (by omega)) ?_
 rintro _ aJ ⟨ah,bo,⟨fR,fS,dV,fT,fU,fV,fW⟩,⟨a6,a7,rfl,ai,dW,fX⟩,fY⟩
 have dX:=ChG.ext bM bo iL
 refine pu (vp Y 14) wN ?_
 have bz:=nT (z3 b a e) h
 have dY:=((((Z.ch f (Ne.symm (nN (nL hgl bz)))).kp W).ch af (Ne.symm (nN (nL hgl bz)))).ch bo (Ne.symm (nN (nL hgl bz))))
 refine sf (vs a6 (ah).length a7) wN nG dY ?_
 intro b7 aV dZ fZ
 have ea:=ChG.ext dX aV (fun k hk=>.inr (by subst hk;exact nT (z3 b a e) h))
 refine mW<|mQ<|mP<|sr ?_
 refine lN (oj {(i) with Next:=(ah):PChan} q r s t u w y A B C a6 a7) wN nj mX dZ ?_
 have ec:=(((((((((X.ch a (Ne.symm (nN (nL hgl (p))))).ch e (Ne.symm (nN (nL hgl (p))))).kp l).ch j (nN (nL H (nT (z2 a e) h)))).ch f (Ne.symm (nN (nL hgl (p))))).kp W).ch af (Ne.symm (nN (nL hgl (p))))).ch bo (Ne.symm (nN (nL hgl (p))))).ch aV (nN (nL H (nT (z2 a e) h))))
 refine sv (oj {(i) with Next:=(ah):PChan} q r s t u w y A B C a6 a7) wN mX ec ?_
 intro ga bp ed gb
 have bN:=ChG.ext ea bp (fun k hk=>.inr (by subst hk;exact p))
 refine n3 ?_
 have aW:=fun (E sz n:Nat) (v:Value) (G:List Value) (o:World.ownsRow Q P.heap.size E sz v n G) (m:World.ownsRow Q P.heap.size E sz v n G)=>(gc (gc (gc (gc (mz (gc (gc (mz o l) j (ne2 m (h))) f (ne1 m (nL hgl (z2 b a)))) W) af (ne1 m (nL hgl (z2 b a)))) bo (ne1 m (nL hgl (z2 b a)))) aV (ne2 m (h))) bp (ne1 m (nL H a.size)))
 have ee:=(aW _ _ _ _ _ J J)
 have ef:=(aW _ _ _ _ _ L L)
 have eg:=(aW _ _ _ _ _ M M)
 have eh:=(aW _ _ _ _ _ N N)
 have ej:=(aW _ _ _ _ _ O O)
 have ek:=(gc (gc ai aV (ne1 ai (nL aY (z4 j f W af)))) bp (ne1 ai (nL H (z7 a e l j f W af))))
 refine rc (oj {(i) with Next:=(ah):PChan} q r s t u w y A B C a6 a7) ed nj mX ?_
 have em:=((dV.ch aV (nN (nL hgl (nT (z3 b a e) h)))).ch bp (nN (nL hgl (p))))
 have aX:=z5 l j f W af
 exact ⟨{(i) with Next:=(ah):PChan},bN,(cx em hcr bN hcl hcn),⟨_,_,_,_,_,_,_,_,_,_,_,_,rfl,(mO ee (z2 b a)),aj,(mO ef (z2 b a)),ak,(mO eg (z2 b a)),am,(mO eh (z2 b a)),an,(mO ej (z2 b a)),ao,(mO ek (z8 b a e l j f W af)),dW,⟨⟨(d.1.1),⟨(d.1.2.1),⟨(d.1.2.2.1),⟨(d.1.2.2.2.1),⟨(Ap.lt J ai aX),trivial⟩⟩⟩⟩⟩,⟨⟨(d.2.1.1),⟨(d.2.1.2.1),⟨(d.2.1.2.2.1),⟨(Ap.lt L ai aX),trivial⟩⟩⟩⟩,⟨⟨(d.2.2.1.1),⟨(d.2.2.1.2.1),⟨(Ap.lt M ai aX),trivial⟩⟩⟩,⟨⟨(d.2.2.2.1.1),⟨(Ap.lt N ai aX),trivial⟩⟩,⟨⟨(Ap.lt O ai aX),trivial⟩,⟨trivial,trivial⟩⟩⟩⟩⟩⟩⟩,(by first|assumption|omega|(dsimp only;omega))⟩

def CE (w:World) (lo:Nat) (v:Value) (x:(Int)×(List UInt8)):Prop:=∃ (a:Option Addr) (b:Nat),v=.tuple #[.int .i64 x.1,.slice a x.2.length b]∧w.ownsRow lo 5 1 (.slice a x.2.length b) x.2.length (x.2.map bV)∧x.2.length≤1073741824∧Aps [(a,b)]
theorem zT (b:World) (g:Nat) (ca:Option Addr) (cc:Nat) (cb:List UInt8) (Q:ph b g 110 ca cc cb) :Fn Tryz.prog 100 #[(vp g 0)] b (fun v o=>∃ x:(Int)×(List UInt8),Ch (fun k=>k=g) b o∧ph o g 110 ca cc cb∧CE o b.heap.size v x∧(True)):=by
 obtain ⟨ci,chh,hcb,hcr,hcl,hci,hcn⟩:=Q
 have hgl:=Blk.lt hcb
 refine nu (n:=25) [(vp g 0)] Tryz.func100 rfl rfl ?_
 refine sr<|aw (vi 0) ?_
 refine aw (vs none 0 0) ?_
 refine n4<|mw (vp g 0) ?_
 refine cl wN (ow b g ca cc cb ⟨_,_,hcb,hcr,hcl,(by omega),hcn⟩ 6) ?_
 rintro _ w ⟨d,e,⟨ak,am,p,an,ao,ap,aq⟩,rfl,au⟩
 have f:=ChG.ext (Ch.refl (fun k=>k=g) b) e iL
 refine mW<|mP<|ng<|sr<|pu (vb (decide ((d)=0))) wN ?_
 refine aw (vb (decide ((d)=0))) ?_
 refine n2 ?_
 rcases bt (decide ((d)=0)) with h|h
 ·have av:=dT h
  refine ct h<|sr<|mw (vp g 0) ?_
  refine cl wN (ow w g ca cc cb (cx p hcr f hcl hcn) 2) ?_
  rintro _ i ⟨l,y,⟨ax,ay,R,az,a0,a1,a2⟩,rfl,a3⟩
  have A:=ChG.ext f y iL
  refine ar (5+(l)) wN ?_
  refine mw (vp g 0) ?_
  refine cl wN (oC i g ca cc cb (cx R hcr A hcl hcn) 12 (by omega)) ?_
  rintro _ q ⟨r,S,⟨a4,a5,T,a6,a7,a8,a9⟩,⟨B,C,rfl,V,W,aA⟩,aB⟩
  have D:=ChG.ext A S iL
  refine aw (vi (5+(l))) ?_
  refine aw (vs B (r).length C) ?_
  refine mW<|mP<|oY<|nR<|np<|rE (.inl rfl) (vi (5+(l))) (vs B (r).length C) rfl rfl rfl ?_
  exact ⟨((5+(l)),(r)),D,(cx T hcr D hcl hcn),⟨_,_,rfl,(mO V (z2 e y)),W,⟨trivial,trivial⟩⟩,trivial⟩
 have aC:=dF h
 refine cf h<|sr<|pu (vb (decide ((d)=1))) wN ?_
 refine aw (vb (decide ((d)=1))) ?_
 refine n2 ?_
 rcases bt (decide ((d)=1)) with j|j
 ·have aD:=dT j
  refine ct j<|sr<|mw (vp g 0) ?_
  refine cl wN (ow w g ca cc cb (cx p hcr f hcl hcn) 2) ?_
  rintro _ i ⟨m,E,⟨aE,aF,X,aG,aH,aI,aJ⟩,rfl,aK⟩
  have F:=ChG.ext f E iL
  refine ar (7+(m)) wN ?_
  refine mw (vp g 0) ?_
  refine cl wN (oC i g ca cc cb (cx X hcr F hcl hcn) 4 (by omega)) ?_
  rintro _ q ⟨s,Y,⟨aL,aM,Z,aN,aO,aP,aQ⟩,⟨G,H,rfl,aa,ab,aR⟩,aS⟩
  have I:=ChG.ext F Y iL
  refine aw (vi (7+(m))) ?_
  refine aw (vs G (s).length H) ?_
  refine mW<|mP<|oY<|nR<|np<|rE (.inl rfl) (vi (7+(m))) (vs G (s).length H) rfl rfl rfl ?_
  exact ⟨((7+(m)),(s)),I,(cx Z hcr I hcl hcn),⟨_,_,rfl,(mO aa (z2 e E)),ab,⟨trivial,trivial⟩⟩,trivial⟩
 have aT:=dF j
 refine cf j<|nm<|mQ<|mP<|sr ?_
 refine mw (vp g 0) ?_
 refine mw (vp g 0) ?_
 refine ltI ([0,1,3,12,33,40]:List Int) wN nf ?_
 intro aU aV i t J
 have K:=ChG.extk f t
 have ac:=(p.kp t)
 refine cl wN (oz i g ca cc cb (cx ac hcr K hcl hcn) _ ([0,1,3,12,33,40]:List Int) ⟨_,_,rfl,(Rd.of_own J),(by simp),(fun _ z hz=>by have aW:=(nb J z.block (by rw [hz];rfl)).1;have aX:=nL hgl e.size;omega)⟩ (by simp)) ?_
 rintro _ q ⟨a,L,⟨aY,aZ,ad,ba,bb,bc,bd⟩,rfl,ae⟩
 have M:=ChG.ext K L iL
 have q83m:a=0∨a=1∨a=3∨a=12∨a=33∨a=40:=by simpa using ae
 refine cl wN (oC q g ca cc cb (cx ad hcr M hcl hcn) (a) (by omega)) ?_
 rintro _ be ⟨u,af,⟨bg,bh,ah,bi,bj,bk,bl⟩,⟨N,O,rfl,ai,aj,bm⟩,bn⟩
 have P:=ChG.ext M af iL
 refine aw (vi 4) ?_
 refine aw (vs N (u).length O) ?_
 refine n3<|rE (.inl rfl) (vi 4) (vs N (u).length O) rfl rfl rfl ?_
 exact ⟨(4,(u)),P,(cx ah hcr P hcl hcn),⟨_,_,rfl,(mO ai (z3 e t L)),aj,⟨trivial,trivial⟩⟩,trivial⟩

theorem uQ (i:World) (a:Int) (t:Value) (b:List UInt8) (K:pI i t b) (d:Int) (e:Int) :Fn Tryz.prog 108 #[(vi a),t,(vi d),(vi e)] i (fun v u=>Keep i u∧rr u i.heap.size v (nI a b d e)):=by
 obtain ⟨o,p,rfl,x,ah⟩:=K
 refine nu (n:=37) [(vi a),(vs o b.length p),(vi d),(vi e)] Tryz.func108 rfl rfl ?_
 refine sr<|aw (vs none 0 0) ?_
 refine n4<|jT1 [(0,(vi a)),(1,(vs o b.length p)),(2,(vi d)),(3,(vi e)),(8,(vs none 0 0))] (nI a b d e=[]) ?_ fun q=>?_
 ·intro L y A ai
  refine sr<|nF wN rfl rfl mR (fun w=>by kernel_rfl) ?_
  intro B C M N
  have O:=((Ch.base i).extk A).extk M
  refine aw (vs (some B) 0 0) ?_
  refine n1<|rt (vs (some B) 0 0) ?_
  refine ⟨O.keep0,?_⟩
  rw [L]
  exact ⟨_,_,rfl,(mO N A.size),(by simp),⟨trivial,trivial⟩⟩
 refine mw (vi a) ?_
 refine cl wN (pv i a 0 1) ?_
 rintro _ y ⟨j,rfl⟩
 have D:=(Ch.base i).extk j
 refine pu (vb (!(nB a 0 1))) wN ?_
 refine mw (vb (!(nB a 0 1))) ?_
 rcases bf (nB a 0 1) with f|f
 ·have aj:=og f
  iterate 3 refine sk (cA not f) ?_
  refine pk vT wN (cA not f) ?_
  refine mw vT ?_
  iterate 3 refine sk T1 ?_
  refine pk vT wN T1 ?_
  refine mw vT ?_
  iterate 3 refine sk T1 ?_
  refine pk vT wN T1 ?_
  refine n2<|ct T1 ?_
  have P:nI a b d e=[]:=by first|exact qn (by omega)|exact qm (by omega) (by omega) (by omega) (by omega) (by simp [ns,sM,tY])
  exact wj (q P _ j)
 have ak:=nS f
 refine mv (vs o b.length p) (wS (cA not f)) ?_
 refine ln (wS (cA not f)) mR (x.from0 D) ?_
 refine pu (vb (!(decide ((b.length:Int)=12)))) (wS (cA not f)) ?_
 refine pf (vb (!(decide ((b.length:Int)=12)))) wN (cA not f) ?_
 refine mw (vb (!(decide ((b.length:Int)=12)))) ?_
 rcases bf (decide ((b.length:Int)=12)) with g|g
 ·have am:=dF g
  iterate 3 refine sk (cA not g) ?_
  refine pk vT wN (cA not g) ?_
  refine mw vT ?_
  iterate 3 refine sk T1 ?_
  refine pk vT wN T1 ?_
  refine n2<|ct T1 ?_
  have Q:nI a b d e=[]:=by first|exact qn (by omega)|exact qm (by omega) (by omega) (by omega) (by omega) (by simp [ns,sM,tY])
  exact wj (q Q _ j)
 have an:=dT g
 refine mv (vi d) (wS (cA not g)) ?_
 refine cl (wS (cA not g)) (pv y d 0 4294967295) ?_
 rintro _ C ⟨l,rfl⟩
 refine pu (vb (!(nB d 0 4294967295))) (wS (cA not g)) ?_
 refine pf (vb (!(nB d 0 4294967295))) wN (cA not g) ?_
 refine mw (vb (!(nB d 0 4294967295))) ?_
 rcases bf (nB d 0 4294967295) with h|h
 ·have ao:=og h
  iterate 3 refine sk (cA not h) ?_
  refine pk vT wN (cA not h) ?_
  refine n2<|ct T1 ?_
  have R:nI a b d e=[]:=by first|exact qn (by omega)|exact qm (by omega) (by omega) (by omega) (by omega) (by simp [ns,sM,tY])
  exact wj (q R _ (j.trans l))
 have ap:=nS h
 refine mv (vi e) (wS (cA not h)) ?_
 refine cl (wS (cA not h)) (pv C e 0 281474976710655) ?_
 rintro _ aq ⟨r,rfl⟩
 refine pu (vb (!(nB e 0 281474976710655))) (wS (cA not h)) ?_
 refine pf (vb (!(nB e 0 281474976710655))) wN (cA not h) ?_
 refine n2 ?_
 rcases bf (nB e 0 281474976710655) with m|m
 ·have au:=og m
  refine ct (cA not m) ?_
  have S:nI a b d e=[]:=by first|exact qn (by omega)|exact qm (by omega) (by omega) (by omega) (by omega) (by simp [ns,sM,tY])
  exact wj (q S _ ((j.trans l).trans r))
 have av:=nS m
 refine cf (cA not m)<|y1<|mw (vi a) ?_
 refine qj a wN rfl rfl (by kernel_rfl) ?_
 refine ltB ([(by8 a)]:List UInt8) wN mR ?_
 intro ax ay az s E
 have F:=((D.extk l).extk r).extk s
 refine mw (vs o b.length p) ?_
 refine apB ([(by8 a)]:List UInt8) b wN mR E (x.from0 F) s.size ?_
 intro a0 a1 T G V a2 W
 have X:=F.ext G (fun k hk=>nT (z3 j l r) (nb E k hk).1)
 refine mw (vi d) ?_
 refine cl wN (ut T _ (([(by8 a)]:List UInt8)++b) (nH (Rd.of_own V) W) d 4 (by first|omega|(simp;done)|(simp;omega)|(simp only [List.length_append,List.length_cons,List.length_nil] at *;omega))) ?_
 rintro _ Y ⟨H,⟨a3,a4,rfl,Z,aa,a5⟩⟩
 have a6:=qe (([(by8 a)]:List UInt8)++b) d 4
 refine mw (vi e) ?_
 refine cl wN (ut Y _ (pB (([(by8 a)]:List UInt8)++b) d 4) (nH (Rd.of_own Z) aa) e 6 (by first|omega|(simp;done)|(simp;omega)|(simp only [List.length_append,List.length_cons,List.length_nil] at *;omega))) ?_
 rintro _ a7 ⟨ab,⟨I,J,rfl,ac,ad,a8⟩⟩
 have ae:=(X.extk H).extk ab
 have a9:=qe (pB (([(by8 a)]:List UInt8)++b) d 4) e 6
 refine aw (vs I (pB (pB (([(by8 a)]:List UInt8)++b) d 4) e 6).length J) ?_
 refine n3<|rt (vs I (pB (pB (([(by8 a)]:List UInt8)++b) d 4) e 6).length J) ?_
 refine ⟨ae.keep0,?_⟩
 have af:nI a b d e=(pB (pB (([(by8 a)]:List UInt8)++b) d 4) e 6):=by first|exact qn (by omega)|exact qm (by omega) (by omega) (by omega) (by omega) (by simp [ns,sM,tY])
 rw [af]
 exact ⟨_,_,rfl,(mO ac (z6 j l r s G H)),ad,⟨trivial,trivial⟩⟩

def oT (a:Int):(Bool):=(nB a 4 8)
theorem tv (b:World) (a:Int) :Fn Tryz.prog 35 #[(vi a)] b (fun v d=>Keep b d∧O_4 d b.heap.size v (oT a)):=by
 refine nu (n:=5) [(vi a)] Tryz.func35 rfl rfl ?_
 refine sr<|aw vF ?_
 refine nx<|mw (vi a) ?_
 refine cl wN (pv b a 4 8) ?_
 rintro _ h ⟨e,rfl⟩
 have f:=(Ch.base b).extk e
 refine aw (vb (nB a 4 8)) ?_
 refine n3<|rt (vb (nB a 4 8)) ?_
 refine ⟨f.keep0,?_⟩
 have g:oT a=(nB a 4 8):=by rfl
 rw [g]
 exact rfl

def oR (b:Int) (a:Int):(Bool):=bif (decide (b=4)) then (decide (a≤40)) else (bif (decide (b=5)) then (decide (a=12)) else (bif (decide (b=6)) then (decide (a=12)) else (decide (a=4))))
theorem wR (g:World) (b:Int) (a:Int) :Fn Tryz.prog 71 #[(vi b),(vi a)] g (fun v h=>Keep g h∧O_4 h g.heap.size v (oR b a)):=by
 refine nu (n:=19) [(vi b),(vi a)] Tryz.func71 rfl rfl ?_
 refine sr<|aw vF ?_
 refine n4<|mw (vi b) ?_
 refine pu (vb (decide (b=4))) wN ?_
 refine n2 ?_
 rcases bt (decide (b=4)) with e|e
 ·have p:=dT e
  refine ct e<|sr<|mw (vi a) ?_
  refine pu (vb (decide (a≤40))) wN ?_
  refine aw (vb (decide (a≤40))) ?_
  refine n1<|rt (vb (decide (a≤40))) ?_
  refine ⟨Ch.refl _ _,?_⟩
  simp only [oR,e,cond_true,cond_false]
  exact rfl
 have q:=dF e
 refine cf e<|y2<|jT1 [(1,(vi a)),(4,vF)] (oR b a=(decide (a=12))) ?_ fun i=>?_
 ·intro j r k s
  have l:=(Ch.base g).extk k
  refine sr<|mw (vi a) ?_
  refine pu (vb (decide (a=12))) wN ?_
  refine aw (vb (decide (a=12))) ?_
  refine n1<|rt (vb (decide (a=12))) ?_
  refine ⟨l.keep0,?_⟩
  rw [j]
  exact rfl
 refine mw (vi b) ?_
 refine pu (vb (decide (b=5))) wN ?_
 refine mw (vb (decide (b=5))) ?_
 rcases bt (decide (b=5)) with d|d
 ·have t:=dT d
  iterate 2 refine sk d ?_
  refine pk vT wN d ?_
  refine n2<|ct T1 ?_
  have m:oR b a=(decide (a=12)):=by simp only [oR,e,d,cond_true,cond_false]
  exact wj (i m _ (Ch.refl _ _))
 have u:=dF d
 refine mv (vi b) (wS d) ?_
 refine pu (vb (decide (b=6))) (wS d) ?_
 refine pf (vb (decide (b=6))) wN d ?_
 refine n2 ?_
 rcases bt (decide (b=6)) with f|f
 ·have w:=dT f
  refine ct f ?_
  have o:oR b a=(decide (a=12)):=by simp only [oR,e,d,f,cond_true,cond_false]
  exact wj (i o _ (Ch.refl _ _))
 have x:=dF f
 refine cf f<|y1<|mw (vi a) ?_
 refine pu (vb (decide (a=4))) wN ?_
 refine aw (vb (decide (a=4))) ?_
 refine n3<|rt (vb (decide (a=4))) ?_
 refine ⟨Ch.refl _ _,?_⟩
 simp only [oR,e,d,f,cond_true,cond_false]
 exact rfl

theorem yQ (f:World) (p:Value) (d:List UInt8) (H:pI f p d) (q:Value) (a:List UInt8) (I:pI f q a) (b:Int) :Fn Tryz.prog 156 #[p,q,(vi b)] f (fun v r=>Keep f r∧rr r f.heap.size v (qY d a b)):=by
 obtain ⟨l,m,rfl,J,K⟩:=H
 obtain ⟨i,j,rfl,s,ah⟩:=I
 refine nu (n:=23) [(vs l d.length m),(vs i a.length j),(vi b)] Tryz.func156 rfl rfl ?_
 refine sr<|aw (vs none 0 0) ?_
 refine n4<|jT1 [(0,(vs l d.length m)),(1,(vs i a.length j)),(2,(vi b)),(6,(vs none 0 0))] (qY d a b=[]) ?_ fun t=>?_
 ·intro L M u ai
  refine sr<|nF wN rfl rfl mR (fun w=>by kernel_rfl) ?_
  intro x N O P
  have Q:=((Ch.base f).extk u).extk O
  refine aw (vs (some x) 0 0) ?_
  refine n1<|rt (vs (some x) 0 0) ?_
  refine ⟨Q.keep0,?_⟩
  rw [L]
  exact ⟨_,_,rfl,(mO P u.size),(by simp),⟨trivial,trivial⟩⟩
 refine mw (vi b) ?_
 refine cl wN (pv f b 0 6) ?_
 rintro _ M ⟨g,rfl⟩
 have y:=(Ch.base f).extk g
 refine pu (vb (!(nB b 0 6))) wN ?_
 refine mw (vb (!(nB b 0 6))) ?_
 rcases bf (nB b 0 6) with e|e
 ·have aj:=og e
  iterate 3 refine sk (cA not e) ?_
  refine pk vT wN (cA not e) ?_
  refine n2<|ct T1 ?_
  have R:qY d a b=[]:=by first|exact sb (by omega)|exact sa (by omega) (by omega) (by omega) (by simp [ns])
  exact wj (t R _ g)
 have ak:=nS e
 refine mv (vs i a.length j) (wS (cA not e)) ?_
 refine ln (wS (cA not e)) mR (s.from0 y) ?_
 refine pu (vb (decide (100 < (a.length:Int)))) (wS (cA not e)) ?_
 refine pf (vb (decide (100 < (a.length:Int)))) wN (cA not e) ?_
 refine n2 ?_
 rcases bt (decide (100 < (a.length:Int))) with h|h
 ·have am:=dT h
  refine ct h ?_
  have S:qY d a b=[]:=by first|exact sb (by omega)|exact sa (by omega) (by omega) (by omega) (by simp [ns])
  exact wj (t S _ g)
 have an:=dF h
 refine cf h<|y1<|mw (vs l d.length m) ?_
 refine ltB ([115]:List UInt8) wN mR ?_
 intro ao ap N o A
 have B:=y.extk o
 refine mw (vs i a.length j) ?_
 refine apB ([115]:List UInt8) a wN mR A (s.from0 B) o.size ?_
 intro aq au T C V av W
 have X:=B.ext C (fun k hk=>nT g.size (nb A k hk).1)
 refine mw (vi b) ?_
 refine cl wN (ut T _ (([115]:List UInt8)++a) (nH (Rd.of_own V) W) b 4 (by first|omega|(simp;done)|(simp;omega)|(simp only [List.length_append,List.length_cons,List.length_nil] at *;omega))) ?_
 rintro _ Y ⟨D,⟨ax,ay,rfl,Z,aa,az⟩⟩
 have E:=X.extk D
 have a0:=qe (([115]:List UInt8)++a) b 4
 refine cl wN (yO Y _ d (nH (J.from0 E) K) _ (pB (([115]:List UInt8)++a) b 4) (nH (Rd.of_own Z) aa)) ?_
 rintro _ a1 ⟨ab,⟨F,G,rfl,ac,ad,a2⟩⟩
 have ae:=E.extk ab
 have a3:=rJ d (pB (([115]:List UInt8)++a) b 4)
 refine aw (vs F (pQ d (pB (([115]:List UInt8)++a) b 4)).length G) ?_
 refine n3<|rt (vs F (pQ d (pB (([115]:List UInt8)++a) b 4)).length G) ?_
 refine ⟨ae.keep0,?_⟩
 have af:qY d a b=(pQ d (pB (([115]:List UInt8)++a) b 4)):=by first|exact sb (by omega)|exact sa (by omega) (by omega) (by omega) (by simp [ns])
 rw [af]
 exact ⟨_,_,rfl,(mO ac (z4 g o C D)),ad,⟨trivial,trivial⟩⟩

theorem Ab (e:World) (L:Value) (b:List UInt8) (ab:pI e L b) (M:Value) (a:List UInt8) (ac:pI e M a) (d:Int) :Fn Tryz.prog 146 #[L,M,(vi d)] e (fun v o=>Keep e o∧rr o e.heap.size v (nz b a d)):=by
 obtain ⟨h,i,rfl,N,ad⟩:=ab
 obtain ⟨j,m,rfl,O,ae⟩:=ac
 refine nu (n:=41) [(vs h b.length i),(vs j a.length m),(vi d)] Tryz.func146 rfl rfl ?_
 refine sr<|aw (vs none 0 0) ?_
 refine n4<|jT1 [(0,(vs h b.length i)),(1,(vs j a.length m)),(2,(vi d)),(6,(vs none 0 0))] (nz b a d=[]) ?_ fun F=>?_
 ·intro af p P a9
  refine sr<|nF wN rfl rfl mR (fun w=>by kernel_rfl) ?_
  intro Q A ah ai
  have aj:=((Ch.base e).extk P).extk ah
  refine aw (vs (some Q) 0 0) ?_
  refine n1<|rt (vs (some Q) 0 0) ?_
  refine ⟨aj.keep0,?_⟩
  rw [af]
  exact ⟨_,_,rfl,(mO ai P.size),(by simp),⟨trivial,trivial⟩⟩
 refine mw (vi d) ?_
 refine cl wN (pv e d 0 200) ?_
 rintro _ p ⟨q,rfl⟩
 have G:=(Ch.base e).extk q
 refine pu (vb (!(nB d 0 200))) wN ?_
 refine mw (vb (!(nB d 0 200))) ?_
 rcases bf (nB d 0 200) with f|f
 ·have aA:=og f
  iterate 3 refine sk (cA not f) ?_
  refine pk vT wN (cA not f) ?_
  refine mw vT ?_
  iterate 3 refine sk T1 ?_
  refine pk vT wN T1 ?_
  refine n2<|ct T1 ?_
  have ak:nz b a d=[]:=by first|exact qF (by omega)|exact rb (by omega) (by omega) (by omega) (by omega) (by omega) (by omega)
  exact wj (F ak _ q)
 have aB:=nS f
 refine mv (vs j a.length m) (wS (cA not f)) ?_
 refine ln (wS (cA not f)) mR (O.from0 G) ?_
 refine pu (vb (decide (100 < (a.length:Int)))) (wS (cA not f)) ?_
 refine pf (vb (decide (100 < (a.length:Int)))) wN (cA not f) ?_
 refine mw (vb (decide (100 < (a.length:Int)))) ?_
 rcases bt (decide (100 < (a.length:Int))) with g|g
 ·have aC:=dT g
  iterate 3 refine sk g ?_
  refine pk vT wN g ?_
  refine n2<|ct T1 ?_
  have am:nz b a d=[]:=by first|exact qF (by omega)|exact rb (by omega) (by omega) (by omega) (by omega) (by omega) (by omega)
  exact wj (F am _ q)
 have aD:=dF g
 refine mv (vs h b.length i) (wS g) ?_
 refine ln (wS g) mR (N.from0 G) ?_
 refine pu (vb (decide (1048576 < (b.length:Int)))) (wS g) ?_
 refine pf (vb (decide (1048576 < (b.length:Int)))) wN g ?_
 refine n2 ?_
 rcases bt (decide (1048576 < (b.length:Int))) with t|t
 ·have aE:=dT t
  refine ct t ?_
  have an:nz b a d=[]:=by first|exact qF (by omega)|exact rb (by omega) (by omega) (by omega) (by omega) (by omega) (by omega)
  exact wj (F an _ q)
 have aF:=dF t
 refine cf t<|y1<|nF wN rfl rfl mR (fun w=>by kernel_rfl) ?_
 intro H A I ao
 have ap:=G.extk I
 refine aw (vs (some H) 0 0) ?_
 refine n4<|aw (vi 0) ?_
 refine mW<|mP<|ng ?_
 have R:([]:List UInt8)=pT b a 0:=by rfl
 have S:0=(pT b a 0).length:=by rw [← R];try (first|rfl|simp only [List.length_set]|simp)
 refine oa [(0,(vs h b.length i)),(1,(vs j a.length m)),(2,(vi d)),(6,(vs none 0 0)),(7,(.slice (some H) (pT b a 0).length 0)),(8,(vi ((0:Nat):Int)))] ⟨rfl,rfl,rfl,rfl,rfl,(cA (Value.int .i64) (show (0:Int)=((0:Nat):Int) by omega)),trivial⟩ (fun e' o=>∃ (k:Nat) (T:Env) (r:Option Addr) (s:Nat),e'=pt T [(0,(vs h b.length i)),(1,(vs j a.length m)),(2,(vi d)),(6,(vs none 0 0)),(7,(.slice r (pT b a k).length s)),(8,(vi ((k:Nat):Int)))]∧Ch (fun k=>e.heap.size≤k) e o∧Ch (fun k=>p.heap.size≤k) A o∧32*((k:Nat):Int) < d+32∧(World.ownsRow o p.heap.size 5 1 (.slice r (pT b a k).length s) (pT b a k).length ((pT b a k).map bV)∧(pT b a k).length≤1073741824)) (fun e' _=>d.toNat - (lenOf (e' 7))) ?_ ?_
 ·exact fun u=>⟨0,u,(some H),0,rfl,ap,(Ch.refl (fun k=>p.heap.size≤k) A),(by omega),⟨(by rw [← S,← R];exact ao),(by rw [← S];first|exact (by simp)|(simp only [List.length_append,List.length_take,List.length_replicate];omega))⟩⟩
 ·rintro _ V ⟨k,T,r,s,rfl,B,J,aG,⟨x,aq⟩⟩
  have hsl:=uz (key:=b) (head:=a) (by omega) (by omega) k
  have hsm:=uz (key:=b) (head:=a) (by omega) (by omega) (k+1)
  refine nh<|sr<|mw (vs r (pT b a k).length s) ?_
  refine ln wN mR (Rd.of_own x) ?_
  refine mw (vi d) ?_
  refine pu (vb (decide (((pT b a k).length:Int) < d))) wN ?_
  refine n2 ?_
  rcases bt (decide (((pT b a k).length:Int) < d)) with y|y
  ·have aH:=dT y
   refine ct y<|nm<|mP<|nh<|ng<|mV ?_
   refine mw (vs r (pT b a k).length s) ?_
   refine mw (vs h b.length i) ?_
   refine mw (vs j a.length m) ?_
   refine mw (vi ((k:Nat):Int)) ?_
   refine cl wN (yQ V _ b (nH (N.from0 B) ad) _ a (nH (O.from0 B) ae) ((k:Nat):Int)) ?_
   rintro _ au ⟨C,⟨aI,aJ,rfl,av,_⟩⟩
   have aK:=tP b a ((k:Nat):Int)
   have ax:=(mz x C)
   refine apB (pT b a k) (qY b a ((k:Nat):Int)) wN mR ax (Rd.of_own av) (z3 I J C) ?_
   intro D E ay W az aL a0
   have a1:=(B.extk C).ext W (fun k hk=>nT q.size (nb x k hk).1)
   refine aw (vs D ((pT b a k)++(qY b a ((k:Nat):Int))).length E) ?_
   refine mW<|mQ<|mP<|mV ?_
   refine mw (vi ((k:Nat):Int)) ?_
   refine ar (((k:Nat):Int)+1) wN ?_
   refine aw (vi (((k:Nat):Int)+1)) ?_
   refine mW ?_
   have X:(((pT b a k)++(qY b a ((k:Nat):Int))):List UInt8)=pT b a (k+1):=by rfl
   refine nX (w0:=V) [(0,(vs h b.length i)),(1,(vs j a.length m)),(2,(vi d)),(6,(vs none 0 0)),(7,(.slice D (pT b a (k+1)).length E)),(8,(vi (((k+1):Nat):Int)))] ?_ ?_ ?_
   · exact ⟨rfl,rfl,rfl,rfl,(cA (fun l:List UInt8=>Value.slice D l.length E) X),(cA (Value.int .i64) (show ((((k:Nat):Int)+1):Int)=(((k+1):Nat):Int) by omega)),trivial⟩
   · exact fun u=>⟨(k+1),u,D,E,rfl,a1,((((Ch.refl (fun k=>p.heap.size≤k) A).ext J (fun k hk=>hk)).extk C).ext W (fun k hk=>nT (Nat.le_refl p.heap.size) (nb x k hk).1)),(by omega),(X ▸ ⟨az,a0⟩)⟩
   · show d.toNat - (pT b a (k+1)).length < d.toNat - (pT b a k).length;omega
  have aM:=dF y
  refine cf y<|oh<|mU<|mU<|nq<|mP<|sr<|nF wN rfl rfl mR (fun w=>by kernel_rfl) ?_
  intro aN au K a2
  refine mw (vs r (pT b a k).length s) ?_
  refine mw (vi d) ?_
  have Y:=(mz x K)
  refine slv ((pT b a k).take ((d).toNat)) 0 ((d).toNat) wN mR (Rd.of_own Y) (by first|omega|(simp <;> omega)) (by first|omega|(simp <;> omega)) (by first|rfl|(simp;done)|(rw [List.take_of_length_le (by first|(simp;done)|(simp;omega))])) rfl rfl rfl rfl (.inl ⟨rfl,rfl⟩) (.inr ⟨_,_,_,rfl,rfl,by omega⟩) ?_
  have a3:0≤((d).toNat):=(by first|omega|(simp <;> omega))
  have a4:((d).toNat)≤(pT b a k).length:=(by first|omega|(simp <;> omega))
  refine ap0 ((pT b a k).take ((d).toNat)) wN mR a2 (Rd.subV (x':=((pT b a k).take ((d).toNat))) (Rd.of_own Y) a3 a4 (by first|rfl|(simp;done)|(rw [List.take_of_length_le (by first|(simp;done)|(simp;omega))]))) K.size ?_
  intro Z aa ay a5 a6 aO
  have a7:=(B.extk K).extk a5
  refine aw (vs Z ((pT b a k).take ((d).toNat)).length aa) ?_
  refine n3<|rt (vs Z ((pT b a k).take ((d).toNat)).length aa) ?_
  refine ⟨a7.keep0,?_⟩
  have a8:nz b a d=((pT b a k).take ((d).toNat)):=by first|exact qF (by omega)|exact rb (by omega) (by omega) (by omega) (by omega) (by omega) (by omega)
  rw [a8]
  exact ⟨_,_,rfl,(mO a6 (z3 q I J)),(nT (by simp only [List.length_take,List.length_drop];omega) aq),⟨trivial,trivial⟩⟩

theorem Co (f:World) (ac:Value) (d:List UInt8) (az:pI f ac d) (ad:Value) (b:List UInt8) (a0:pI f ad b) (ae:Value) (a:List UInt8) (a1:pI f ae a) :Fn Tryz.prog 113 #[ac,ad,ae] f (fun v q=>Keep f q∧rr q f.heap.size v (ri d b a)):=by
 obtain ⟨A,J,rfl,af,a2⟩:=az
 obtain ⟨K,L,rfl,ah,a3⟩:=a0
 obtain ⟨i,j,rfl,E,be⟩:=a1
 refine nu (n:=49) [(vs A d.length J),(vs K b.length L),(vs i a.length j)] Tryz.func113 rfl rfl ?_
 refine sr<|aw (vs none 0 0) ?_
 refine nx<|nF wN rfl rfl mR (fun w=>by kernel_rfl) ?_
 intro D M ai T
 have B:=(Ch.base f).extk ai
 refine aw (vs (some D) 0 0) ?_
 refine n4<|jT1 [(0,(vs A d.length J)),(1,(vs K b.length L)),(2,(vs i a.length j)),(6,(vs none 0 0)),(7,(vs (some D) 0 0))] (ri d b a=[]) ?_ fun V=>?_
 ·intro a4 N aj bg
  have a5:=B.extk aj
  refine sr<|mw (vs (some D) 0 0) ?_
  refine aw (vs (some D) 0 0) ?_
  refine n1 ?_
  have a6:=(mz T aj)
  refine rt (vs (some D) 0 0) ?_
  refine ⟨a5.keep0,?_⟩
  rw [a4]
  exact ⟨_,_,rfl,a6,(by simp),⟨trivial,trivial⟩⟩
 refine mw (vs i a.length j) ?_
 refine ln wN mR (E.from0 B) ?_
 refine pu (vb (decide (200 < (a.length:Int)))) wN ?_
 refine mw (vb (decide (200 < (a.length:Int)))) ?_
 rcases bt (decide (200 < (a.length:Int))) with r|r
 ·have bh:=dT r
  iterate 3 refine sk r ?_
  refine pk vT wN r ?_
  refine mw vT ?_
  iterate 3 refine sk T1 ?_
  refine pk vT wN T1 ?_
  refine n2<|ct T1 ?_
  have a7:ri d b a=[]:=by first|exact ss (by omega)|exact te (by omega) (by omega) (by omega) (by omega)
  exact wj (V a7 _ (Ch.refl _ _))
 have bi:=dF r
 refine mv (vs K b.length L) (wS r) ?_
 refine ln (wS r) mR (ah.from0 B) ?_
 refine pu (vb (decide (100 < (b.length:Int)))) (wS r) ?_
 refine pf (vb (decide (100 < (b.length:Int)))) wN r ?_
 refine mw (vb (decide (100 < (b.length:Int)))) ?_
 rcases bt (decide (100 < (b.length:Int))) with s|s
 ·have bj:=dT s
  iterate 3 refine sk s ?_
  refine pk vT wN s ?_
  refine n2<|ct T1 ?_
  have a8:ri d b a=[]:=by first|exact ss (by omega)|exact te (by omega) (by omega) (by omega) (by omega)
  exact wj (V a8 _ (Ch.refl _ _))
 have bk:=dF s
 refine mv (vs A d.length J) (wS s) ?_
 refine ln (wS s) mR (af.from0 B) ?_
 refine pu (vb (decide (1048576 < (d.length:Int)))) (wS s) ?_
 refine pf (vb (decide (1048576 < (d.length:Int)))) wN s ?_
 refine n2 ?_
 rcases bt (decide (1048576 < (d.length:Int))) with F|F
 ·have bl:=dT F
  refine ct F ?_
  have a9:ri d b a=[]:=by first|exact ss (by omega)|exact te (by omega) (by omega) (by omega) (by omega)
  exact wj (V a9 _ (Ch.refl _ _))
 have bm:=dF F
 refine cf F<|y1<|mw (vs A d.length J) ?_
 refine mw (vs K b.length L) ?_
 refine mw (vs i a.length j) ?_
 refine ln wN mR (E.from0 B) ?_
 refine cl wN (Ab M _ d (nH (af.from0 B) a2) _ b (nH (ah.from0 B) a3) (a.length:Int)) ?_
 rintro _ N ⟨W,⟨O,P,rfl,ak,aA,bn⟩⟩
 have aB:=B.extk W
 have bo:=qK d b (a.length:Int)
 refine aw (vs O (nz d b (a.length:Int)).length P) ?_
 refine n4<|aw (vi 0) ?_
 refine mW<|mP<|ng ?_
 have aC:=(mz T W)
 have am:([]:List UInt8)=qJ (a.take 0) ((nz d b (a.length:Int)).take 0):=by rfl
 have an:0=(qJ (a.take 0) ((nz d b (a.length:Int)).take 0)).length:=by rw [← am];try (first|rfl|simp only [List.length_set]|simp)
 have ao:((nz d b (a.length:Int)):List UInt8)=(nz d b (a.length:Int)):=by rfl
 refine oa [(2,(vs i a.length j)),(6,(vs none 0 0)),(7,(.slice (some D) (qJ (a.take 0) ((nz d b (a.length:Int)).take 0)).length 0)),(8,(.slice O ((nz d b (a.length:Int))).length P)),(9,(vi ((0:Nat):Int)))] ⟨rfl,rfl,rfl,(cA (fun l:List UInt8=>Value.slice O l.length P) ao),(cA (Value.int .i64) (show (0:Int)=((0:Nat):Int) by omega)),trivial⟩ (fun e' q=>∃ (k:Nat) (ap:Env) (t:Option Addr) (C:Nat) (p:Option Addr) (y:Nat),e'=pt ap [(2,(vs i a.length j)),(6,(vs none 0 0)),(7,(.slice t (qJ (a.take k) ((nz d b (a.length:Int)).take k)).length C)),(8,(.slice p ((nz d b (a.length:Int))).length y)),(9,(vi ((k:Nat):Int)))]∧Ch (fun k=>f.heap.size≤k) f q∧Ch (fun k=>f.heap.size≤k) N q∧k≤a.length∧(World.ownsRow q f.heap.size 5 1 (.slice t (qJ (a.take k) ((nz d b (a.length:Int)).take k)).length C) (qJ (a.take k) ((nz d b (a.length:Int)).take k)).length ((qJ (a.take k) ((nz d b (a.length:Int)).take k)).map bV)∧(qJ (a.take k) ((nz d b (a.length:Int)).take k)).length≤1073741824)∧(World.ownsRow q M.heap.size 5 1 (.slice p ((nz d b (a.length:Int))).length y) ((nz d b (a.length:Int))).length (((nz d b (a.length:Int))).map bV)∧((nz d b (a.length:Int))).length≤1073741824)∧NeS t p) (fun e' _=>a.length - ((intOf (e' 9))).toNat) ?_ ?_
 ·exact fun u=>⟨0,u,(some D),0,O,P,rfl,aB,(Ch.refl (fun k=>f.heap.size≤k) N),(by omega),⟨(by rw [← an,← am];exact aC),(by rw [← an];first|exact (by simp)|(simp only [List.length_append,List.length_take,List.length_replicate];omega))⟩,(ao ▸ ⟨ak,aA⟩),(NeS.lt T ak (Nat.le_refl M.heap.size))⟩
 ·rintro _ X ⟨k,ap,t,C,p,y,rfl,G,aq,bp,⟨Q,aD⟩,⟨Y,aE⟩,au⟩
  have hzl:=xS a (nz d b (a.length:Int)) k
  have hsl:=qK d b (a.length:Int)
  refine nh<|sr<|mw (vi ((k:Nat):Int)) ?_
  refine mw (vs i a.length j) ?_
  refine ln wN mR (E.from0 G) ?_
  refine pu (vb (decide (((k:Nat):Int) < (a.length:Int)))) wN ?_
  refine n2 ?_
  rcases bf (decide (((k:Nat):Int) < (a.length:Int))) with H|H
  ·have bq:=dF H
   refine cf H<|oh<|mU<|mU<|nq<|mP<|sr<|mw (vs t (qJ (a.take k) ((nz d b (a.length:Int)).take k)).length C) ?_
   refine aw (vs t (qJ (a.take k) ((nz d b (a.length:Int)).take k)).length C) ?_
   refine n3<|rt (vs t (qJ (a.take k) ((nz d b (a.length:Int)).take k)).length C) ?_
   refine ⟨G.keep0,?_⟩
   have aF:ri d b a=(qJ (a.take k) ((nz d b (a.length:Int)).take k)):=by first|exact ss (by omega)|exact te (by omega) (by omega) (by omega) (by omega)
   rw [aF]
   exact ⟨_,_,rfl,Q,aD,⟨trivial,trivial⟩⟩
  have br:=dT H
  refine ct H<|nm<|mP<|nh<|ng<|ob ([(36,[],[],(fun _ v _=>v=(vs t (qJ (a.take k) ((nz d b (a.length:Int)).take k)).length C))),(37,[],[],(fun _ v _=>v=(vs i a.length j))),(38,[],[],(fun _ v _=>v=(vi ((k:Nat):Int)))),(39,[],[1,2],(fun _ v _=>v=(ve (vs i a.length j) ((((k:Nat):Int)).toNat*1)))),(40,[],[1,2,3],(fun _ v _=>v=(v8 ((a.getD k 0).toNat:Int)))),(41,[],[],(fun _ v _=>v=(vs p ((nz d b (a.length:Int))).length y))),(42,[],[],(fun _ v _=>v=(vi ((k:Nat):Int)))),(43,[],[5,6],(fun _ v _=>v=(ve (vs p ((nz d b (a.length:Int))).length y) ((((k:Nat):Int)).toNat*1)))),(44,[],[5,6,7],(fun _ v _=>v=(v8 (((nz d b (a.length:Int)).getD k 0).toNat:Int)))),(45,[],[1,2,3,4,5,6,7,8],(fun _ v _=>v=(v8 (((a.getD k 0)^^^((nz d b (a.length:Int)).getD k 0)).toNat:Int)))),(46,[],[1,2,3,4,5,6,7,8,9],(fun _ v w=>∃ (A:Option Addr) (Z:Nat),v=.slice A ([((a.getD k 0)^^^((nz d b (a.length:Int)).getD k 0))]:List UInt8).length Z∧w.ownsRow X.heap.size 5 1 (.slice A ([((a.getD k 0)^^^((nz d b (a.length:Int)).getD k 0))]:List UInt8).length Z) ([((a.getD k 0)^^^((nz d b (a.length:Int)).getD k 0))]:List UInt8).length (([((a.getD k 0)^^^((nz d b (a.length:Int)).getD k 0))]:List UInt8).map bV)∧([((a.getD k 0)^^^((nz d b (a.length:Int)).getD k 0))]:List UInt8).length≤1073741824∧Aps [(A,Z)]))]:GV) (fun _ q=>Keep X q) [] oM rfl (by kernel_rfl) (by kernel_rfl) ?_ (fun _ _ h=>h) (fun _ _ _ _ h _ k=>h.trans k) trivial ?_ ?_ ?_
  ·exact ⟨hV,hE,⟨hV,hE,⟨hV,hE,⟨hV,hE,⟨hV,hE,⟨hV,hE,⟨hV,hE,⟨hV,hE,⟨hV,hE,⟨hV,hE,⟨(fun e v w M h hk=>by obtain ⟨aG,aH,he,aI,aJ,hap⟩:=h;exact ⟨aG,aH,he,mz aI hk,aJ,hap⟩),hE,trivial⟩⟩⟩⟩⟩⟩⟩⟩⟩⟩⟩
  ·exact trivial
  ·refine ⟨?_,⟨?_,⟨?_,⟨?_,⟨?_,⟨?_,⟨?_,⟨?_,⟨?_,⟨?_,⟨?_,trivial⟩⟩⟩⟩⟩⟩⟩⟩⟩⟩⟩
   ·intro _ o bu _
    rintro _ _ _ _ _ _ _ _ _ _ _
    refine sw<|mw (vs t (qJ (a.take k) ((nz d b (a.length:Int)).take k)).length C) ?_
    exact f1
   ·intro _ o bv _
    rintro _ _ _ _ _ _ _ _ _ _ _
    refine sw<|mw (vs i a.length j) ?_
    exact f1
   ·intro _ o bw _
    rintro _ _ _ _ _ _ _ _ _ _ _
    refine sw<|mw (vi ((k:Nat):Int)) ?_
    exact f1
   ·intro _ o aK _
    have aL:=G.extk aK
    rintro _ _ rfl _ rfl _ _ _ _ _ _ _ _
    refine sw<|ix wN ((k:Nat):Int) mR (E.from0 aL) ?_
    exact f1
   ·intro _ o aM _
    have aN:=G.extk aM
    rintro _ _ rfl _ rfl _ rfl _ _ _ _ _ _ _
    refine sw<|eb (x:=a) k wN pP (E.from0 aN) ?_
    exact f1
   ·intro _ o bz _
    rintro _ _ _ _ _ _ _ _ _ _ _
    refine sw<|mw (vs p ((nz d b (a.length:Int))).length y) ?_
    exact f1
   ·intro _ o b0 _
    rintro _ _ _ _ _ _ _ _ _ _ _
    refine sw<|mw (vi ((k:Nat):Int)) ?_
    exact f1
   ·intro _ o aO _
    rintro _ _ _ _ _ _ rfl _ rfl _ _ _ _
    refine sw ?_
    have aP:=(mz Y aO)
    refine ix wN ((k:Nat):Int) mR (Rd.of_own aP) ?_
    exact f1
   ·intro _ o aQ _
    rintro _ _ _ _ _ _ rfl _ rfl _ rfl _ _ _
    refine sw ?_
    have aR:=(mz Y aQ)
    refine eb (x:=(nz d b (a.length:Int))) k wN pP (Rd.of_own aR) ?_
    exact f1
   ·intro _ o b1 _
    rintro _
    iterate 8 rintro _ rfl
    intro _ _
    refine sw<|rC (a.getD k 0) ((nz d b (a.length:Int)).getD k 0) wN rfl rfl (by kernel_rfl) ?_
    exact f1
   ·intro _ o aS _
    rintro _
    iterate 9 rintro _ rfl
    intro _
    refine sw<|ltB ([((a.getD k 0)^^^((nz d b (a.length:Int)).getD k 0))]:List UInt8) wN mR ?_
    intro b2 b3 aT aU aV
    exact nK aU ⟨_,_,rfl,(mO aV aS.size),(by simp),⟨trivial,trivial⟩⟩
  ·intro _ o I
   iterate 10 rintro _ rfl
   rintro _ ⟨b4,b5,rfl,aW,b6,-⟩
   refine sw ?_
   have aX:=(mz Q I)
   refine apB (qJ (a.take k) ((nz d b (a.length:Int)).take k)) ([((a.getD k 0)^^^((nz d b (a.length:Int)).getD k 0))]:List UInt8) wN mR aX (Rd.of_own aW) (z4 ai W aq I) ?_
   intro R S aT aa aY aZ ba
   have bb:=(G.extk I).ext aa (fun k hk=>nT (Nat.le_refl f.heap.size) (nb Q k hk).1)
   have av:=(mz Y I)
   have bc:=NeS.app au aZ av
   refine aw (vs R ((qJ (a.take k) ((nz d b (a.length:Int)).take k))++([((a.getD k 0)^^^((nz d b (a.length:Int)).getD k 0))]:List UInt8)).length S) ?_
   refine mW<|mQ<|mP<|mV ?_
   refine mw (vi ((k:Nat):Int)) ?_
   refine ar (((k:Nat):Int)+1) wN ?_
   refine aw (vi (((k:Nat):Int)+1)) ?_
   refine mW ?_
   have ax:(((qJ (a.take k) ((nz d b (a.length:Int)).take k))++([((a.getD k 0)^^^((nz d b (a.length:Int)).getD k 0))]:List UInt8)):List UInt8)=qJ (a.take (k+1)) ((nz d b (a.length:Int)).take (k+1)):=by exact vj (by omega) (by omega)
   have bd:=(gc av aa (fun g hg hlt hk=>NeS.no (NeS.symm au) hg hk))
   have ay:((nz d b (a.length:Int)):List UInt8)=(nz d b (a.length:Int)):=by rfl
   have ab:((nz d b (a.length:Int))).length=((nz d b (a.length:Int))).length:=by rw [← ay];try (first|rfl|simp only [List.length_set]|simp)
   refine nX (w0:=X) [(2,(vs i a.length j)),(6,(vs none 0 0)),(7,(.slice R (qJ (a.take (k+1)) ((nz d b (a.length:Int)).take (k+1))).length S)),(8,(.slice p ((nz d b (a.length:Int))).length y)),(9,(vi (((k+1):Nat):Int)))] ?_ ?_ ?_
   · exact ⟨rfl,rfl,(cA (fun l:List UInt8=>Value.slice R l.length S) ax),(cA (fun m:Nat=>Value.slice p m y) ab),(cA (Value.int .i64) (show ((((k:Nat):Int)+1):Int)=(((k+1):Nat):Int) by omega)),trivial⟩
   · exact fun u=>⟨(k+1),u,R,S,p,y,rfl,bb,((((Ch.refl (fun k=>f.heap.size≤k) N).ext aq (fun k hk=>hk)).extk I).ext aa (fun k hk=>nT (Nat.le_refl f.heap.size) (nb Q k hk).1)),(by omega),(ax ▸ ⟨aY,ba⟩),⟨(by rw [← ab,← ay];exact bd),(by rw [← ab];first|exact aE|(simp only [List.length_append,List.length_take,List.length_replicate];omega))⟩,bc⟩
   · show a.length - ((((k+1):Nat):Int)).toNat < a.length - (((k:Nat):Int)).toNat;omega

abbrev oD (x:PFrame) (a:Option Addr) (b:Nat) (d:Option Addr) (e:Nat) (f:Option Addr) (g:Nat) (h:Option Addr) (i:Nat) (j:Option Addr) (k:Nat) (l:Option Addr) (m:Nat):List Value:=[vi x.Kind,vi x.Id,vs a x.Cn.length b,vs d x.Sn.length e,vi x.Tick,vs f x.Cookie.length g,vs h x.Proof.length i,vi x.Epoch,vi x.Seq,vs j x.Body.length k,vs l x.Tag.length m]
def vg (w:World) (v:Value) (x:(PFrame)):Prop:=∃ (a:Option Addr) (b:Nat) (d:Option Addr) (e:Nat) (f:Option Addr) (g:Nat) (h:Option Addr) (i:Nat) (j:Option Addr) (k:Nat) (l:Option Addr) (m:Nat),v=.agg #[.int .i64 x.Kind,.int .i64 x.Id,.slice a x.Cn.length b,.slice d x.Sn.length e,.int .i64 x.Tick,.slice f x.Cookie.length g,.slice h x.Proof.length i,.int .i64 x.Epoch,.int .i64 x.Seq,.slice j x.Body.length k,.slice l x.Tag.length m]∧Rd w 1 (.slice a x.Cn.length b) x.Cn.length (x.Cn.map bV)∧x.Cn.length≤1073741824∧Rd w 1 (.slice d x.Sn.length e) x.Sn.length (x.Sn.map bV)∧x.Sn.length≤1073741824∧Rd w 1 (.slice f x.Cookie.length g) x.Cookie.length (x.Cookie.map bV)∧x.Cookie.length≤1073741824∧Rd w 1 (.slice h x.Proof.length i) x.Proof.length (x.Proof.map bV)∧x.Proof.length≤1073741824∧Rd w 1 (.slice j x.Body.length k) x.Body.length (x.Body.map bV)∧x.Body.length≤1073741824∧Rd w 1 (.slice l x.Tag.length m) x.Tag.length (x.Tag.map bV)∧x.Tag.length≤1073741824
def nC (a:PFrame):(Bool):=bif (oT a.Kind) then (bif (decide (a.Id=0)) then (bif (decide ((a.Cn.length:Int)=0)) then (bif (decide ((a.Sn.length:Int)=12)) then (bif (decide (a.Tick=0)) then (bif (decide ((a.Cookie.length:Int)=0)) then (bif (decide ((a.Proof.length:Int)=0)) then (bif (nB a.Epoch 0 4294967295) then (bif (nB a.Seq 0 281474976710655) then (bif (oR a.Kind (a.Body.length:Int)) then (decide ((a.Tag.length:Int)=16)) else (false)) else (false)) else (false)) else (false)) else (false)) else (false)) else (false)) else (false)) else (false)) else (bif (decide (a.Epoch=0)) then (bif (decide (a.Seq=0)) then (bif (decide ((a.Body.length:Int)=0)) then (bif (decide ((a.Tag.length:Int)=0)) then (bif (decide ((a.Cn.length:Int)=12)) then (bif (decide (a.Kind=1)) then (bif (nB a.Id 1 9) then (bif (decide ((a.Sn.length:Int)=0)) then (bif (decide (a.Tick=0)) then (bif (decide ((a.Cookie.length:Int)=0)) then (decide ((a.Proof.length:Int)=0)) else (false)) else (false)) else (false)) else (false)) else (bif (decide (a.Kind=2)) then (bif (decide (a.Id=0)) then (bif (decide ((a.Sn.length:Int)=12)) then (bif (nB a.Tick 0 1000000) then (bif (decide ((a.Cookie.length:Int)=16)) then (decide ((a.Proof.length:Int)=0)) else (false)) else (false)) else (false)) else (false)) else (bif (decide (a.Kind=3)) then (bif (nB a.Id 1 9) then (bif (decide ((a.Sn.length:Int)=12)) then (bif (nB a.Tick 0 1000000) then (bif (decide ((a.Cookie.length:Int)=16)) then (decide ((a.Proof.length:Int)=16)) else (false)) else (false)) else (false)) else (false)) else (false)))) else (false)) else (false)) else (false)) else (false)) else (false))
theorem vR (W:World) (ay:Value) (a:PFrame) (aF:vg W ay a) :Fn Tryz.prog 34 #[ay] W (fun v az=>Keep W az∧O_4 az W.heap.size v (nC a)):=by
 obtain ⟨aa,ab,O,P,Q,R,S,T,ac,ad,ae,af,rfl,a0,aR,ah,aS,ai,aT,aj,aU,a1,aV,a2,aW⟩:=aF
 refine nu (n:=174) [(va (oD a aa ab O P Q R S T ac ad ae af))] Tryz.func34 rfl rfl ?_
 refine sr<|bx (oD a aa ab O P Q R S T ac ad ae af) wN ?_
 intro b aG aX aY aH ao
 refine aw vF ?_
 refine n4<|pu (vp b 0) wN ?_
 refine ld (vi a.Kind) wN mT ao ?_
 refine cl wN (tv aG a.Kind) ?_
 rintro _ ak ⟨ap,rfl⟩
 have i:=((Ch.base W).extk aH).extk ap
 refine n2 ?_
 rcases bt (oT a.Kind) with d|d
 ·refine ct d<|sr<|pu (vp b 1) wN ?_
  have M:=(ao.kp ap)
  refine ld (vi a.Id) wN mT M ?_
  refine pu (vb (decide (a.Id=0))) wN ?_
  refine mw (vb (decide (a.Id=0))) ?_
  rcases bf (decide (a.Id=0)) with l|l
  ·have aZ:=dF l
   iterate 4 refine sk l ?_
   refine pf vF wN l ?_
   refine mw vF ?_
   iterate 4 refine sk F1 ?_
   refine pf vF wN F1 ?_
   refine mw vF ?_
   iterate 3 refine sk F1 ?_
   refine pf vF wN F1 ?_
   refine mw vF ?_
   iterate 4 refine sk F1 ?_
   refine pf vF wN F1 ?_
   refine mw vF ?_
   iterate 4 refine sk F1 ?_
   refine pf vF wN F1 ?_
   refine mw vF ?_
   iterate 3 refine sk F1 ?_
   refine pf vF wN F1 ?_
   refine mw vF ?_
   iterate 3 refine sk F1 ?_
   refine pf vF wN F1 ?_
   refine mw vF ?_
   iterate 6 refine sk F1 ?_
   refine pf vF wN F1 ?_
   refine mw vF ?_
   iterate 4 refine sk F1 ?_
   refine pf vF wN F1 ?_
   refine aw vF ?_
   refine n1<|rt vF ?_
   refine ⟨i.keep0,?_⟩
   simp only [nC,d,l,cond_true,cond_false]
   exact rfl
  have ba:=dT l
  refine pu (vp b 2) (wS l) ?_
  refine ld (vs aa a.Cn.length ab) (wS l) nd M ?_
  refine ln (wS l) mR (a0.from0 i) ?_
  refine pu (vb (decide ((a.Cn.length:Int)=0))) (wS l) ?_
  refine pk (vb (decide ((a.Cn.length:Int)=0))) wN l ?_
  refine mw (vb (decide ((a.Cn.length:Int)=0))) ?_
  rcases bf (decide ((a.Cn.length:Int)=0)) with m|m
  ·have bb:=dF m
   iterate 4 refine sk m ?_
   refine pf vF wN m ?_
   refine mw vF ?_
   iterate 3 refine sk F1 ?_
   refine pf vF wN F1 ?_
   refine mw vF ?_
   iterate 4 refine sk F1 ?_
   refine pf vF wN F1 ?_
   refine mw vF ?_
   iterate 4 refine sk F1 ?_
   refine pf vF wN F1 ?_
   refine mw vF ?_
   iterate 3 refine sk F1 ?_
   refine pf vF wN F1 ?_
   refine mw vF ?_
   iterate 3 refine sk F1 ?_
   refine pf vF wN F1 ?_
   refine mw vF ?_
   iterate 6 refine sk F1 ?_
   refine pf vF wN F1 ?_
   refine mw vF ?_
   iterate 4 refine sk F1 ?_
   refine pf vF wN F1 ?_
   refine aw vF ?_
   refine n1<|rt vF ?_
   refine ⟨i.keep0,?_⟩
   simp only [nC,d,l,m,cond_true,cond_false]
   exact rfl
  have bc:=dT m
  refine pu (vp b 3) (wS m) ?_
  refine ld (vs O a.Sn.length P) (wS m) nd M ?_
  refine ln (wS m) mR (ah.from0 i) ?_
  refine pu (vb (decide ((a.Sn.length:Int)=12))) (wS m) ?_
  refine pk (vb (decide ((a.Sn.length:Int)=12))) wN m ?_
  refine mw (vb (decide ((a.Sn.length:Int)=12))) ?_
  rcases bf (decide ((a.Sn.length:Int)=12)) with o|o
  ·have bd:=dF o
   iterate 3 refine sk o ?_
   refine pf vF wN o ?_
   refine mw vF ?_
   iterate 4 refine sk F1 ?_
   refine pf vF wN F1 ?_
   refine mw vF ?_
   iterate 4 refine sk F1 ?_
   refine pf vF wN F1 ?_
   refine mw vF ?_
   iterate 3 refine sk F1 ?_
   refine pf vF wN F1 ?_
   refine mw vF ?_
   iterate 3 refine sk F1 ?_
   refine pf vF wN F1 ?_
   refine mw vF ?_
   iterate 6 refine sk F1 ?_
   refine pf vF wN F1 ?_
   refine mw vF ?_
   iterate 4 refine sk F1 ?_
   refine pf vF wN F1 ?_
   refine aw vF ?_
   refine n1<|rt vF ?_
   refine ⟨i.keep0,?_⟩
   simp only [nC,d,l,m,o,cond_true,cond_false]
   exact rfl
  have be:=dT o
  refine pu (vp b 4) (wS o) ?_
  refine ld (vi a.Tick) (wS o) mT M ?_
  refine pu (vb (decide (a.Tick=0))) (wS o) ?_
  refine pk (vb (decide (a.Tick=0))) wN o ?_
  refine mw (vb (decide (a.Tick=0))) ?_
  rcases bf (decide (a.Tick=0)) with p|p
  ·have bg:=dF p
   iterate 4 refine sk p ?_
   refine pf vF wN p ?_
   refine mw vF ?_
   iterate 4 refine sk F1 ?_
   refine pf vF wN F1 ?_
   refine mw vF ?_
   iterate 3 refine sk F1 ?_
   refine pf vF wN F1 ?_
   refine mw vF ?_
   iterate 3 refine sk F1 ?_
   refine pf vF wN F1 ?_
   refine mw vF ?_
   iterate 6 refine sk F1 ?_
   refine pf vF wN F1 ?_
   refine mw vF ?_
   iterate 4 refine sk F1 ?_
   refine pf vF wN F1 ?_
   refine aw vF ?_
   refine n1<|rt vF ?_
   refine ⟨i.keep0,?_⟩
   simp only [nC,d,l,m,o,p,cond_true,cond_false]
   exact rfl
  have bh:=dT p
  refine pu (vp b 5) (wS p) ?_
  refine ld (vs Q a.Cookie.length R) (wS p) nd M ?_
  refine ln (wS p) mR (ai.from0 i) ?_
  refine pu (vb (decide ((a.Cookie.length:Int)=0))) (wS p) ?_
  refine pk (vb (decide ((a.Cookie.length:Int)=0))) wN p ?_
  refine mw (vb (decide ((a.Cookie.length:Int)=0))) ?_
  rcases bf (decide ((a.Cookie.length:Int)=0)) with q|q
  ·have bi:=dF q
   iterate 4 refine sk q ?_
   refine pf vF wN q ?_
   refine mw vF ?_
   iterate 3 refine sk F1 ?_
   refine pf vF wN F1 ?_
   refine mw vF ?_
   iterate 3 refine sk F1 ?_
   refine pf vF wN F1 ?_
   refine mw vF ?_
   iterate 6 refine sk F1 ?_
   refine pf vF wN F1 ?_
   refine mw vF ?_
   iterate 4 refine sk F1 ?_
   refine pf vF wN F1 ?_
   refine aw vF ?_
   refine n1<|rt vF ?_
   refine ⟨i.keep0,?_⟩
   simp only [nC,d,l,m,o,p,q,cond_true,cond_false]
   exact rfl
  have bj:=dT q
  refine pu (vp b 6) (wS q) ?_
  refine ld (vs S a.Proof.length T) (wS q) nd M ?_
  refine ln (wS q) mR (aj.from0 i) ?_
  refine pu (vb (decide ((a.Proof.length:Int)=0))) (wS q) ?_
  refine pk (vb (decide ((a.Proof.length:Int)=0))) wN q ?_
  refine mw (vb (decide ((a.Proof.length:Int)=0))) ?_
  rcases bf (decide ((a.Proof.length:Int)=0)) with x|x
  ·have bk:=dF x
   iterate 3 refine sk x ?_
   refine pf vF wN x ?_
   refine mw vF ?_
   iterate 3 refine sk F1 ?_
   refine pf vF wN F1 ?_
   refine mw vF ?_
   iterate 6 refine sk F1 ?_
   refine pf vF wN F1 ?_
   refine mw vF ?_
   iterate 4 refine sk F1 ?_
   refine pf vF wN F1 ?_
   refine aw vF ?_
   refine n1<|rt vF ?_
   refine ⟨i.keep0,?_⟩
   simp only [nC,d,l,m,o,p,q,x,cond_true,cond_false]
   exact rfl
  have bl:=dT x
  refine pu (vp b 7) (wS x) ?_
  refine ld (vi a.Epoch) (wS x) mT M ?_
  refine cl (wS x) (pv ak a.Epoch 0 4294967295) ?_
  rintro _ V ⟨a3,rfl⟩
  have a4:=i.extk a3
  refine pk (vb (nB a.Epoch 0 4294967295)) wN x ?_
  refine mw (vb (nB a.Epoch 0 4294967295)) ?_
  rcases bf (nB a.Epoch 0 4294967295) with A|A
  ·have bm:=og A
   iterate 3 refine sk A ?_
   refine pf vF wN A ?_
   refine mw vF ?_
   iterate 6 refine sk F1 ?_
   refine pf vF wN F1 ?_
   refine mw vF ?_
   iterate 4 refine sk F1 ?_
   refine pf vF wN F1 ?_
   refine aw vF ?_
   refine n1<|rt vF ?_
   refine ⟨a4.keep0,?_⟩
   simp only [nC,d,l,m,o,p,q,x,A,cond_true,cond_false]
   exact rfl
  have bn:=nS A
  refine pu (vp b 8) (wS A) ?_
  have a5:=(M.kp a3)
  refine ld (vi a.Seq) (wS A) mT a5 ?_
  refine cl (wS A) (pv V a.Seq 0 281474976710655) ?_
  rintro _ a6 ⟨a7,rfl⟩
  have aq:=a4.extk a7
  refine pk (vb (nB a.Seq 0 281474976710655)) wN A ?_
  refine mw (vb (nB a.Seq 0 281474976710655)) ?_
  rcases bf (nB a.Seq 0 281474976710655) with s|s
  ·have bo:=og s
   iterate 6 refine sk s ?_
   refine pf vF wN s ?_
   refine mw vF ?_
   iterate 4 refine sk F1 ?_
   refine pf vF wN F1 ?_
   refine aw vF ?_
   refine n1<|rt vF ?_
   refine ⟨aq.keep0,?_⟩
   simp only [nC,d,l,m,o,p,q,x,A,s,cond_true,cond_false]
   exact rfl
  have bp:=nS s
  refine pu (vp b 0) (wS s) ?_
  have au:=(a5.kp a7)
  refine ld (vi a.Kind) (wS s) mT au ?_
  refine pu (vp b 9) (wS s) ?_
  refine ld (vs ac a.Body.length ad) (wS s) nd au ?_
  refine ln (wS s) mR (a1.from0 aq) ?_
  refine cl (wS s) (wR a6 a.Kind (a.Body.length:Int)) ?_
  rintro _ bq ⟨a8,rfl⟩
  have av:=aq.extk a8
  refine pk (vb (oR a.Kind (a.Body.length:Int))) wN s ?_
  refine mw (vb (oR a.Kind (a.Body.length:Int))) ?_
  rcases bf (oR a.Kind (a.Body.length:Int)) with L|L
  ·iterate 4 refine sk L ?_
   refine pf vF wN L ?_
   refine aw vF ?_
   refine n1<|rt vF ?_
   refine ⟨av.keep0,?_⟩
   simp only [nC,d,l,m,o,p,q,x,A,s,L,cond_true,cond_false]
   exact rfl
  refine pu (vp b 10) (wS L) ?_
  have aI:=(au.kp a8)
  refine ld (vs ae a.Tag.length af) (wS L) nd aI ?_
  refine ln (wS L) mR (a2.from0 av) ?_
  refine pu (vb (decide ((a.Tag.length:Int)=16))) (wS L) ?_
  refine pk (vb (decide ((a.Tag.length:Int)=16))) wN L ?_
  refine aw (vb (decide ((a.Tag.length:Int)=16))) ?_
  refine n1<|rt (vb (decide ((a.Tag.length:Int)=16))) ?_
  refine ⟨av.keep0,?_⟩
  simp only [nC,d,l,m,o,p,q,x,A,s,L,cond_true,cond_false]
  exact rfl
 refine cf d<|y2<|jT1 [(1,(vp b 0)),(2,vF)] (nC a=false) ?_ fun X=>?_
 ·intro aJ V aK br
  have aL:=i.extk aK
  refine sr<|aw vF ?_
  refine n1<|rt vF ?_
  refine ⟨aL.keep0,?_⟩
  rw [aJ]
  exact rfl
 refine pu (vp b 7) wN ?_
 have y:=(ao.kp ap)
 refine ld (vi a.Epoch) wN mT y ?_
 refine pu (vb (!(decide (a.Epoch=0)))) wN ?_
 refine mw (vb (!(decide (a.Epoch=0)))) ?_
 rcases bf (decide (a.Epoch=0)) with e|e
 ·have bu:=dF e
  iterate 3 refine sk (cA not e) ?_
  refine pk vT wN (cA not e) ?_
  refine mw vT ?_
  iterate 4 refine sk T1 ?_
  refine pk vT wN T1 ?_
  refine mw vT ?_
  iterate 4 refine sk T1 ?_
  refine pk vT wN T1 ?_
  refine mw vT ?_
  iterate 4 refine sk T1 ?_
  refine pk vT wN T1 ?_
  refine n2<|ct T1 ?_
  have aM:nC a=false:=by simp only [nC,d,e,cond_true,cond_false]
  exact wj (X aM _ (Ch.refl _ _))
 have bv:=dT e
 refine pu (vp b 8) (wS (cA not e)) ?_
 refine ld (vi a.Seq) (wS (cA not e)) mT y ?_
 refine pu (vb (!(decide (a.Seq=0)))) (wS (cA not e)) ?_
 refine pf (vb (!(decide (a.Seq=0)))) wN (cA not e) ?_
 refine mw (vb (!(decide (a.Seq=0)))) ?_
 rcases bf (decide (a.Seq=0)) with f|f
 ·have bw:=dF f
  iterate 4 refine sk (cA not f) ?_
  refine pk vT wN (cA not f) ?_
  refine mw vT ?_
  iterate 4 refine sk T1 ?_
  refine pk vT wN T1 ?_
  refine mw vT ?_
  iterate 4 refine sk T1 ?_
  refine pk vT wN T1 ?_
  refine n2<|ct T1 ?_
  have aN:nC a=false:=by simp only [nC,d,e,f,cond_true,cond_false]
  exact wj (X aN _ (Ch.refl _ _))
 have bz:=dT f
 refine pu (vp b 9) (wS (cA not f)) ?_
 refine ld (vs ac a.Body.length ad) (wS (cA not f)) nd y ?_
 refine ln (wS (cA not f)) mR (a1.from0 i) ?_
 refine pu (vb (!(decide ((a.Body.length:Int)=0)))) (wS (cA not f)) ?_
 refine pf (vb (!(decide ((a.Body.length:Int)=0)))) wN (cA not f) ?_
 refine mw (vb (!(decide ((a.Body.length:Int)=0)))) ?_
 rcases bf (decide ((a.Body.length:Int)=0)) with g|g
 ·have b0:=dF g
  iterate 4 refine sk (cA not g) ?_
  refine pk vT wN (cA not g) ?_
  refine mw vT ?_
  iterate 4 refine sk T1 ?_
  refine pk vT wN T1 ?_
  refine n2<|ct T1 ?_
  have aO:nC a=false:=by simp only [nC,d,e,f,g,cond_true,cond_false]
  exact wj (X aO _ (Ch.refl _ _))
 have b1:=dT g
 refine pu (vp b 10) (wS (cA not g)) ?_
 refine ld (vs ae a.Tag.length af) (wS (cA not g)) nd y ?_
 refine ln (wS (cA not g)) mR (a2.from0 i) ?_
 refine pu (vb (!(decide ((a.Tag.length:Int)=0)))) (wS (cA not g)) ?_
 refine pf (vb (!(decide ((a.Tag.length:Int)=0)))) wN (cA not g) ?_
 refine mw (vb (!(decide ((a.Tag.length:Int)=0)))) ?_
 rcases bf (decide ((a.Tag.length:Int)=0)) with h|h
 ·have b2:=dF h
  iterate 4 refine sk (cA not h) ?_
  refine pk vT wN (cA not h) ?_
  refine n2<|ct T1 ?_
  have aP:nC a=false:=by simp only [nC,d,e,f,g,h,cond_true,cond_false]
  exact wj (X aP _ (Ch.refl _ _))
 have b3:=dT h
 refine pu (vp b 2) (wS (cA not h)) ?_
 refine ld (vs aa a.Cn.length ab) (wS (cA not h)) nd y ?_
 refine ln (wS (cA not h)) mR (a0.from0 i) ?_
 refine pu (vb (!(decide ((a.Cn.length:Int)=12)))) (wS (cA not h)) ?_
 refine pf (vb (!(decide ((a.Cn.length:Int)=12)))) wN (cA not h) ?_
 refine n2 ?_
 rcases bf (decide ((a.Cn.length:Int)=12)) with j|j
 ·have b4:=dF j
  refine ct (cA not j) ?_
  have aQ:nC a=false:=by simp only [nC,d,e,f,g,h,j,cond_true,cond_false]
  exact wj (X aQ _ (Ch.refl _ _))
 have b5:=dT j
 refine cf (cA not j)<|y2<|pu (vp b 0) wN ?_
 refine ld (vi a.Kind) wN mT y ?_
 refine mW<|mP<|ng<|sr<|pu (vb (decide (a.Kind=1))) wN ?_
 refine aw (vb (decide (a.Kind=1))) ?_
 refine n2 ?_
 rcases bt (decide (a.Kind=1)) with k|k
 ·have b6:=dT k
  refine ct k<|sr<|pu (vp b 1) wN ?_
  refine ld (vi a.Id) wN mT y ?_
  refine cl wN (pv ak a.Id 1 9) ?_
  rintro _ V ⟨a9,rfl⟩
  have N:=i.extk a9
  refine mw (vb (nB a.Id 1 9)) ?_
  rcases bf (nB a.Id 1 9) with t|t
  ·have b7:=og t
   iterate 4 refine sk t ?_
   refine pf vF wN t ?_
   refine mw vF ?_
   iterate 3 refine sk F1 ?_
   refine pf vF wN F1 ?_
   refine mw vF ?_
   iterate 4 refine sk F1 ?_
   refine pf vF wN F1 ?_
   refine mw vF ?_
   iterate 4 refine sk F1 ?_
   refine pf vF wN F1 ?_
   refine aw vF ?_
   refine mW<|mP<|oY<|nR<|np<|rt vF ?_
   refine ⟨N.keep0,?_⟩
   simp only [nC,d,e,f,g,h,j,k,t,cond_true,cond_false]
   exact rfl
  have b8:=nS t
  refine pu (vp b 3) (wS t) ?_
  have am:=(y.kp a9)
  refine ld (vs O a.Sn.length P) (wS t) nd am ?_
  refine ln (wS t) mR (ah.from0 N) ?_
  refine pu (vb (decide ((a.Sn.length:Int)=0))) (wS t) ?_
  refine pk (vb (decide ((a.Sn.length:Int)=0))) wN t ?_
  refine mw (vb (decide ((a.Sn.length:Int)=0))) ?_
  rcases bf (decide ((a.Sn.length:Int)=0)) with B|B
  ·have b9:=dF B
   iterate 3 refine sk B ?_
   refine pf vF wN B ?_
   refine mw vF ?_
   iterate 4 refine sk F1 ?_
   refine pf vF wN F1 ?_
   refine mw vF ?_
   iterate 4 refine sk F1 ?_
   refine pf vF wN F1 ?_
   refine aw vF ?_
   refine mW<|mP<|oY<|nR<|np<|rt vF ?_
   refine ⟨N.keep0,?_⟩
   simp only [nC,d,e,f,g,h,j,k,t,B,cond_true,cond_false]
   exact rfl
  have bA:=dT B
  refine pu (vp b 4) (wS B) ?_
  refine ld (vi a.Tick) (wS B) mT am ?_
  refine pu (vb (decide (a.Tick=0))) (wS B) ?_
  refine pk (vb (decide (a.Tick=0))) wN B ?_
  refine mw (vb (decide (a.Tick=0))) ?_
  rcases bf (decide (a.Tick=0)) with C|C
  ·have bB:=dF C
   iterate 4 refine sk C ?_
   refine pf vF wN C ?_
   refine mw vF ?_
   iterate 4 refine sk F1 ?_
   refine pf vF wN F1 ?_
   refine aw vF ?_
   refine mW<|mP<|oY<|nR<|np<|rt vF ?_
   refine ⟨N.keep0,?_⟩
   simp only [nC,d,e,f,g,h,j,k,t,B,C,cond_true,cond_false]
   exact rfl
  have bC:=dT C
  refine pu (vp b 5) (wS C) ?_
  refine ld (vs Q a.Cookie.length R) (wS C) nd am ?_
  refine ln (wS C) mR (ai.from0 N) ?_
  refine pu (vb (decide ((a.Cookie.length:Int)=0))) (wS C) ?_
  refine pk (vb (decide ((a.Cookie.length:Int)=0))) wN C ?_
  refine mw (vb (decide ((a.Cookie.length:Int)=0))) ?_
  rcases bf (decide ((a.Cookie.length:Int)=0)) with H|H
  ·have bD:=dF H
   iterate 4 refine sk H ?_
   refine pf vF wN H ?_
   refine aw vF ?_
   refine mW<|mP<|oY<|nR<|np<|rt vF ?_
   refine ⟨N.keep0,?_⟩
   simp only [nC,d,e,f,g,h,j,k,t,B,C,H,cond_true,cond_false]
   exact rfl
  have bE:=dT H
  refine pu (vp b 6) (wS H) ?_
  refine ld (vs S a.Proof.length T) (wS H) nd am ?_
  refine ln (wS H) mR (aj.from0 N) ?_
  refine pu (vb (decide ((a.Proof.length:Int)=0))) (wS H) ?_
  refine pk (vb (decide ((a.Proof.length:Int)=0))) wN H ?_
  refine aw (vb (decide ((a.Proof.length:Int)=0))) ?_
  refine mW<|mP<|oY<|nR<|np<|rt (vb (decide ((a.Proof.length:Int)=0))) ?_
  refine ⟨N.keep0,?_⟩
  simp only [nC,d,e,f,g,h,j,k,t,B,C,H,cond_true,cond_false]
  exact rfl
 have bF:=dF k
 refine cf k<|sr<|pu (vb (decide (a.Kind=2))) wN ?_
 refine aw (vb (decide (a.Kind=2))) ?_
 refine n2 ?_
 rcases bt (decide (a.Kind=2)) with r|r
 ·have bG:=dT r
  refine ct r<|sr<|pu (vp b 1) wN ?_
  refine ld (vi a.Id) wN mT y ?_
  refine pu (vb (decide (a.Id=0))) wN ?_
  refine mw (vb (decide (a.Id=0))) ?_
  rcases bf (decide (a.Id=0)) with u|u
  ·have bH:=dF u
   iterate 4 refine sk u ?_
   refine pf vF wN u ?_
   refine mw vF ?_
   iterate 3 refine sk F1 ?_
   refine pf vF wN F1 ?_
   refine mw vF ?_
   iterate 4 refine sk F1 ?_
   refine pf vF wN F1 ?_
   refine mw vF ?_
   iterate 4 refine sk F1 ?_
   refine pf vF wN F1 ?_
   refine aw vF ?_
   refine mW<|mP<|oY<|nR<|np<|rt vF ?_
   refine ⟨i.keep0,?_⟩
   simp only [nC,d,e,f,g,h,j,k,r,u,cond_true,cond_false]
   exact rfl
  have bI:=dT u
  refine pu (vp b 3) (wS u) ?_
  refine ld (vs O a.Sn.length P) (wS u) nd y ?_
  refine ln (wS u) mR (ah.from0 i) ?_
  refine pu (vb (decide ((a.Sn.length:Int)=12))) (wS u) ?_
  refine pk (vb (decide ((a.Sn.length:Int)=12))) wN u ?_
  refine mw (vb (decide ((a.Sn.length:Int)=12))) ?_
  rcases bf (decide ((a.Sn.length:Int)=12)) with D|D
  ·have bJ:=dF D
   iterate 3 refine sk D ?_
   refine pf vF wN D ?_
   refine mw vF ?_
   iterate 4 refine sk F1 ?_
   refine pf vF wN F1 ?_
   refine mw vF ?_
   iterate 4 refine sk F1 ?_
   refine pf vF wN F1 ?_
   refine aw vF ?_
   refine mW<|mP<|oY<|nR<|np<|rt vF ?_
   refine ⟨i.keep0,?_⟩
   simp only [nC,d,e,f,g,h,j,k,r,u,D,cond_true,cond_false]
   exact rfl
  have bK:=dT D
  refine pu (vp b 4) (wS D) ?_
  refine ld (vi a.Tick) (wS D) mT y ?_
  refine cl (wS D) (pv ak a.Tick 0 1000000) ?_
  rintro _ V ⟨aA,rfl⟩
  have Y:=i.extk aA
  refine pk (vb (nB a.Tick 0 1000000)) wN D ?_
  refine mw (vb (nB a.Tick 0 1000000)) ?_
  rcases bf (nB a.Tick 0 1000000) with E|E
  ·have bL:=og E
   iterate 4 refine sk E ?_
   refine pf vF wN E ?_
   refine mw vF ?_
   iterate 4 refine sk F1 ?_
   refine pf vF wN F1 ?_
   refine aw vF ?_
   refine mW<|mP<|oY<|nR<|np<|rt vF ?_
   refine ⟨Y.keep0,?_⟩
   simp only [nC,d,e,f,g,h,j,k,r,u,D,E,cond_true,cond_false]
   exact rfl
  have bM:=nS E
  refine pu (vp b 5) (wS E) ?_
  have aB:=(y.kp aA)
  refine ld (vs Q a.Cookie.length R) (wS E) nd aB ?_
  refine ln (wS E) mR (ai.from0 Y) ?_
  refine pu (vb (decide ((a.Cookie.length:Int)=16))) (wS E) ?_
  refine pk (vb (decide ((a.Cookie.length:Int)=16))) wN E ?_
  refine mw (vb (decide ((a.Cookie.length:Int)=16))) ?_
  rcases bf (decide ((a.Cookie.length:Int)=16)) with I|I
  ·have bN:=dF I
   iterate 4 refine sk I ?_
   refine pf vF wN I ?_
   refine aw vF ?_
   refine mW<|mP<|oY<|nR<|np<|rt vF ?_
   refine ⟨Y.keep0,?_⟩
   simp only [nC,d,e,f,g,h,j,k,r,u,D,E,I,cond_true,cond_false]
   exact rfl
  have bO:=dT I
  refine pu (vp b 6) (wS I) ?_
  refine ld (vs S a.Proof.length T) (wS I) nd aB ?_
  refine ln (wS I) mR (aj.from0 Y) ?_
  refine pu (vb (decide ((a.Proof.length:Int)=0))) (wS I) ?_
  refine pk (vb (decide ((a.Proof.length:Int)=0))) wN I ?_
  refine aw (vb (decide ((a.Proof.length:Int)=0))) ?_
  refine mW<|mP<|oY<|nR<|np<|rt (vb (decide ((a.Proof.length:Int)=0))) ?_
  refine ⟨Y.keep0,?_⟩
  simp only [nC,d,e,f,g,h,j,k,r,u,D,E,I,cond_true,cond_false]
  exact rfl
 have bP:=dF r
 refine cf r<|sr<|pu (vb (decide (a.Kind=3))) wN ?_
 refine aw (vb (decide (a.Kind=3))) ?_
 refine n2 ?_
 rcases bf (decide (a.Kind=3)) with K|K
 ·have bQ:=dF K
  refine cf K<|nm<|mQ<|mP<|sr ?_
  refine aw vF ?_
  refine n3<|rt vF ?_
  refine ⟨i.keep0,?_⟩
  simp only [nC,d,e,f,g,h,j,k,r,K,cond_true,cond_false]
  exact rfl
 have bR:=dT K
 refine ct K<|sr<|pu (vp b 1) wN ?_
 refine ld (vi a.Id) wN mT y ?_
 refine cl wN (pv ak a.Id 1 9) ?_
 rintro _ V ⟨aC,rfl⟩
 have an:=i.extk aC
 refine mw (vb (nB a.Id 1 9)) ?_
 rcases bf (nB a.Id 1 9) with w|w
 ·have bS:=og w
  iterate 4 refine sk w ?_
  refine pf vF wN w ?_
  refine mw vF ?_
  iterate 3 refine sk F1 ?_
  refine pf vF wN F1 ?_
  refine mw vF ?_
  iterate 4 refine sk F1 ?_
  refine pf vF wN F1 ?_
  refine mw vF ?_
  iterate 4 refine sk F1 ?_
  refine pf vF wN F1 ?_
  refine aw vF ?_
  refine mW<|mP<|oY<|nR<|np<|rt vF ?_
  refine ⟨an.keep0,?_⟩
  simp only [nC,d,e,f,g,h,j,k,r,K,w,cond_true,cond_false]
  exact rfl
 have bT:=nS w
 refine pu (vp b 3) (wS w) ?_
 have ax:=(y.kp aC)
 refine ld (vs O a.Sn.length P) (wS w) nd ax ?_
 refine ln (wS w) mR (ah.from0 an) ?_
 refine pu (vb (decide ((a.Sn.length:Int)=12))) (wS w) ?_
 refine pk (vb (decide ((a.Sn.length:Int)=12))) wN w ?_
 refine mw (vb (decide ((a.Sn.length:Int)=12))) ?_
 rcases bf (decide ((a.Sn.length:Int)=12)) with F|F
 ·have bU:=dF F
  iterate 3 refine sk F ?_
  refine pf vF wN F ?_
  refine mw vF ?_
  iterate 4 refine sk F1 ?_
  refine pf vF wN F1 ?_
  refine mw vF ?_
  iterate 4 refine sk F1 ?_
  refine pf vF wN F1 ?_
  refine aw vF ?_
  refine mW<|mP<|oY<|nR<|np<|rt vF ?_
  refine ⟨an.keep0,?_⟩
  simp only [nC,d,e,f,g,h,j,k,r,K,w,F,cond_true,cond_false]
  exact rfl
 have bW:=dT F
 refine pu (vp b 4) (wS F) ?_
 refine ld (vi a.Tick) (wS F) mT ax ?_
 refine cl (wS F) (pv V a.Tick 0 1000000) ?_
 rintro _ a6 ⟨aD,rfl⟩
 have Z:=an.extk aD
 refine pk (vb (nB a.Tick 0 1000000)) wN F ?_
 refine mw (vb (nB a.Tick 0 1000000)) ?_
 rcases bf (nB a.Tick 0 1000000) with G|G
 ·have bX:=og G
  iterate 4 refine sk G ?_
  refine pf vF wN G ?_
  refine mw vF ?_
  iterate 4 refine sk F1 ?_
  refine pf vF wN F1 ?_
  refine aw vF ?_
  refine mW<|mP<|oY<|nR<|np<|rt vF ?_
  refine ⟨Z.keep0,?_⟩
  simp only [nC,d,e,f,g,h,j,k,r,K,w,F,G,cond_true,cond_false]
  exact rfl
 have bY:=nS G
 refine pu (vp b 5) (wS G) ?_
 have aE:=(ax.kp aD)
 refine ld (vs Q a.Cookie.length R) (wS G) nd aE ?_
 refine ln (wS G) mR (ai.from0 Z) ?_
 refine pu (vb (decide ((a.Cookie.length:Int)=16))) (wS G) ?_
 refine pk (vb (decide ((a.Cookie.length:Int)=16))) wN G ?_
 refine mw (vb (decide ((a.Cookie.length:Int)=16))) ?_
 rcases bf (decide ((a.Cookie.length:Int)=16)) with J|J
 ·have bZ:=dF J
  iterate 4 refine sk J ?_
  refine pf vF wN J ?_
  refine aw vF ?_
  refine mW<|mP<|oY<|nR<|np<|rt vF ?_
  refine ⟨Z.keep0,?_⟩
  simp only [nC,d,e,f,g,h,j,k,r,K,w,F,G,J,cond_true,cond_false]
  exact rfl
 have ca:=dT J
 refine pu (vp b 6) (wS J) ?_
 refine ld (vs S a.Proof.length T) (wS J) nd aE ?_
 refine ln (wS J) mR (aj.from0 Z) ?_
 refine pu (vb (decide ((a.Proof.length:Int)=16))) (wS J) ?_
 refine pk (vb (decide ((a.Proof.length:Int)=16))) wN J ?_
 refine aw (vb (decide ((a.Proof.length:Int)=16))) ?_
 refine mW<|mP<|oY<|nR<|np<|rt (vb (decide ((a.Proof.length:Int)=16))) ?_
 refine ⟨Z.keep0,?_⟩
 simp only [nC,d,e,f,g,h,j,k,r,K,w,F,G,J,cond_true,cond_false]
 exact rfl
theorem vI {f:PFrame} (h:nC f=true):f.Body.length≤40:=by
  simp only [nC,Bool.cond_false_right] at h
  cases h1:oT f.Kind
  · simp only [h1,cond_false,Bool.and_eq_true,decide_eq_true_eq] at h
    have:=h.2.2.1
    omega
  · simp only [h1,cond_true,Bool.and_eq_true] at h
    have hb:=h.2.2.2.2.2.2.2.2.1
    simp only [oR,cond_eq_ite,decide_eq_true_eq] at hb
    (repeat' split at hb) <;> (have hq:=dT hb;omega)

theorem nk:∀ w,(isAgg 42).run Tryz.prog w=.ok true w:=fun w=>by kernel_rfl
theorem mZ:∀ w,(sizeOf 42).run Tryz.prog w=.ok 11 w:=fun w=>by kernel_rfl
theorem qI {w:World} {x:PFrame} {a:Option Addr} {b:Nat} {d:Option Addr} {e:Nat} {f:Option Addr} {g:Nat} {h:Option Addr} {i:Nat} {j:Option Addr} {k:Nat} {l:Option Addr} {m:Nat} (o:Rd w 1 (.slice a x.Cn.length b) x.Cn.length (x.Cn.map bV)) (p:x.Cn.length≤1073741824) (q:Rd w 1 (.slice d x.Sn.length e) x.Sn.length (x.Sn.map bV)) (r:x.Sn.length≤1073741824) (s:Rd w 1 (.slice f x.Cookie.length g) x.Cookie.length (x.Cookie.map bV)) (t:x.Cookie.length≤1073741824) (u:Rd w 1 (.slice h x.Proof.length i) x.Proof.length (x.Proof.map bV)) (v:x.Proof.length≤1073741824) (y:Rd w 1 (.slice j x.Body.length k) x.Body.length (x.Body.map bV)) (A:x.Body.length≤1073741824) (B:Rd w 1 (.slice l x.Tag.length m) x.Tag.length (x.Tag.map bV)) (C:x.Tag.length≤1073741824):vg w (va (oD x a b d e f g h i j k l m)) x:=⟨_,_,_,_,_,_,_,_,_,_,_,_,rfl,o,p,q,r,s,t,u,v,y,A,B,C⟩
def nt (b:Int) (a:PFrame):(List UInt8):=bif (nB b 0 1) then (bif (nC a) then (bif (oT a.Kind) then ((((([116]:List UInt8)++(nI b a.Sn a.Epoch a.Seq))++([(by8 a.Kind)]:List UInt8))++a.Body)) else ([])) else ([])) else ([])
theorem sX (C:World) (b:Int) (ab:Value) (a:PFrame) (a1:vg C ab a) :Fn Tryz.prog 72 #[(vi b),ab] C (fun v o=>Keep C o∧rr o C.heap.size v (nt b a)):=by
 obtain ⟨l,R,N,O,S,T,V,W,D,E,X,Y,rfl,a2,a3,ac,ad,a4,a5,a6,a7,ae,a8,a9,aA⟩:=a1
 refine nu (n:=40) [(vi b),(va (oD a l R N O S T V W D E X Y))] Tryz.func72 rfl rfl ?_
 refine sr<|bx (oD a l R N O S T V W D E X Y) wN ?_
 intro m Z bh P u aB
 have af:=(Ch.base C).extk u
 refine aw (vs none 0 0) ?_
 refine n4<|jT1 [(0,(vi b)),(3,(vp m 0)),(4,(vs none 0 0))] (nt b a=[]) ?_ fun aa=>?_
 ·intro aC ah ai bi
  refine sr<|nF wN rfl rfl mR (fun w=>by kernel_rfl) ?_
  intro aj ak aD aE
  have aF:=(af.extk ai).extk aD
  refine aw (vs (some aj) 0 0) ?_
  refine n1<|rt (vs (some aj) 0 0) ?_
  refine ⟨aF.keep0,?_⟩
  rw [aC]
  exact ⟨_,_,rfl,(mO aE (z2 u ai)),(by simp),⟨trivial,trivial⟩⟩
 refine mw (vi b) ?_
 refine cl wN (pv Z b 0 1) ?_
 rintro _ ah ⟨d,rfl⟩
 have r:=af.extk d
 refine pu (vb (!(nB b 0 1))) wN ?_
 refine mw (vb (!(nB b 0 1))) ?_
 rcases bf (nB b 0 1) with f|f
 ·have bj:=og f
  iterate 3 refine sk (cA not f) ?_
  refine pk vT wN (cA not f) ?_
  refine mw vT ?_
  iterate 4 refine sk T1 ?_
  refine pk vT wN T1 ?_
  refine n2<|ct T1 ?_
  have aG:nt b a=[]:=by simp only [nt,f,cond_true,cond_false]
  exact wj (aa aG _ d)
 have bk:=nS f
 have am:=(aB.kp d)
 refine lN (oD a l R N O S T V W D E X Y) (wS (cA not f)) nk mZ am ?_
 refine cl (wS (cA not f)) (vR ah _ a (qI (a2.from0 r) a3 (ac.from0 r) ad (a4.from0 r) a5 (a6.from0 r) a7 (ae.from0 r) a8 (a9.from0 r) aA)) ?_
 rintro _ ak ⟨g,rfl⟩
 refine pu (vb (!(nC a))) (wS (cA not f)) ?_
 refine pf (vb (!(nC a))) wN (cA not f) ?_
 refine mw (vb (!(nC a))) ?_
 rcases bf (nC a) with i|i
 ·iterate 4 refine sk (cA not i) ?_
  refine pk vT wN (cA not i) ?_
  refine n2<|ct T1 ?_
  have aH:nt b a=[]:=by simp only [nt,f,i,cond_true,cond_false]
  exact wj (aa aH _ (d.trans g))
 have bl:=vI i
 refine pu (vp m 0) (wS (cA not i)) ?_
 have an:=(am.kp g)
 refine ld (vi a.Kind) (wS (cA not i)) mT an ?_
 refine cl (wS (cA not i)) (tv ak a.Kind) ?_
 rintro _ ao ⟨j,rfl⟩
 refine pu (vb (!(oT a.Kind))) (wS (cA not i)) ?_
 refine pf (vb (!(oT a.Kind))) wN (cA not i) ?_
 refine n2 ?_
 rcases bf (oT a.Kind) with F|F
 ·refine ct (cA not F) ?_
  have aI:nt b a=[]:=by simp only [nt,f,i,F,cond_true,cond_false]
  exact wj (aa aI _ ((d.trans g).trans j))
 refine cf (cA not F)<|y1<|ltB ([116]:List UInt8) wN mR ?_
 intro bm bn aJ G Q
 have ap:=((r.extk g).extk j).extk G
 refine mw (vi b) ?_
 refine pu (vp m 3) wN ?_
 have H:=((an.kp j).kp G)
 refine ld (vs N a.Sn.length O) wN nd H ?_
 refine pu (vp m 7) wN ?_
 refine ld (vi a.Epoch) wN mT H ?_
 refine pu (vp m 8) wN ?_
 refine ld (vi a.Seq) wN mT H ?_
 refine cl wN (uQ aJ b _ a.Sn (nH (ac.from0 ap) ad) a.Epoch a.Seq) ?_
 rintro _ bo ⟨s,⟨bp,bq,rfl,aK,_⟩⟩
 have br:=qb b a.Sn a.Epoch a.Seq
 have aL:=(mz Q s)
 refine apB ([116]:List UInt8) (nI b a.Sn a.Epoch a.Seq) wN mR aL (Rd.of_own aK) (z2 G s) ?_
 intro x y aq I J bu bv
 have aM:=(ap.extk s).ext I (fun k hk=>nT (z4 u d g j) (nb Q k hk).1)
 refine aw (vs x (([116]:List UInt8)++(nI b a.Sn a.Epoch a.Seq)).length y) ?_
 refine mW<|mP<|nh<|ob ([(31,[],[],(fun _ v _=>v=(vs x (([116]:List UInt8)++(nI b a.Sn a.Epoch a.Seq)).length y))),(32,[],[],(fun _ v _=>v=(vp m 0))),(33,[],[1],(fun _ v _=>v=(vi a.Kind))),(34,[],[1,2],(fun _ v _=>v=(v8 ((by8 a.Kind).toNat:Int)))),(35,[],[1,2,3],(fun _ v w=>∃ (l:Option Addr) (A:Nat),v=.slice l ([(by8 a.Kind)]:List UInt8).length A∧w.ownsRow aq.heap.size 5 1 (.slice l ([(by8 a.Kind)]:List UInt8).length A) ([(by8 a.Kind)]:List UInt8).length (([(by8 a.Kind)]:List UInt8).map bV)∧([(by8 a.Kind)]:List UInt8).length≤1073741824∧Aps [(l,A)])),(36,[],[0,1,2,3,4],(fun _ v w=>∃ (l:Option Addr) (A:Nat),v=.slice l ((([116]:List UInt8)++(nI b a.Sn a.Epoch a.Seq))++([(by8 a.Kind)]:List UInt8)).length A∧w.ownsRow ao.heap.size 5 1 (.slice l ((([116]:List UInt8)++(nI b a.Sn a.Epoch a.Seq))++([(by8 a.Kind)]:List UInt8)).length A) ((([116]:List UInt8)++(nI b a.Sn a.Epoch a.Seq))++([(by8 a.Kind)]:List UInt8)).length (((([116]:List UInt8)++(nI b a.Sn a.Epoch a.Seq))++([(by8 a.Kind)]:List UInt8)).map bV)∧((([116]:List UInt8)++(nI b a.Sn a.Epoch a.Seq))++([(by8 a.Kind)]:List UInt8)).length≤1073741824)),(37,[],[],(fun _ v _=>v=(vp m 9))),(38,[],[6],(fun _ v _=>v=(vs D a.Body.length E)))]:GV) (fun lf o=>Ch (fun k=>(Value.slice x (([116]:List UInt8)++(nI b a.Sn a.Epoch a.Seq)).length y).ownBlock=some k) aq o∧(lf 5=false→World.ownsRow o ao.heap.size 5 1 (.slice x (([116]:List UInt8)++(nI b a.Sn a.Epoch a.Seq)).length y) (([116]:List UInt8)++(nI b a.Sn a.Epoch a.Seq)).length ((([116]:List UInt8)++(nI b a.Sn a.Epoch a.Seq)).map bV))) [(5,fun w o=>Ch (fun k=>(Value.slice x (([116]:List UInt8)++(nI b a.Sn a.Epoch a.Seq)).length y).ownBlock=some k) w o)] oM rfl (by kernel_rfl) (by kernel_rfl) ?_ (fun _ _ h=>⟨h.to _,fun _=>mz J h⟩) (fun _ _ _ _ h mo k=>⟨h.1.comp k (fun _ _ q=>q.elim),fun q=>mz (h.2 (mo _ q)) k⟩) ⟨(fun _ _ w o h mo hj t=>⟨h.1.comp t (fun _ _ q=>q),fun q=>by rw [hj] at q;cases q⟩),trivial⟩ ?_ ?_ ?_
 ·exact ⟨hV,hE,⟨hV,hE,⟨hV,hE,⟨hV,hE,⟨(fun e v w Z h hk=>by obtain ⟨K,L,he,B,M,hap⟩:=h;exact ⟨K,L,he,mz B hk,M,hap⟩),hE,⟨(fun e v w Z h hk=>by obtain ⟨K,L,he,B,M⟩:=h;exact ⟨K,L,he,mz B hk,M⟩),hE,⟨hV,hE,⟨hV,hE,trivial⟩⟩⟩⟩⟩⟩⟩⟩
 ·exact ⟨⟨.inr hV,⟨.inr hV,⟨.inr hV,⟨.inr hV,⟨.inr (fun e v wX wY h ht=>by obtain ⟨K,L,he,B,M,hap⟩:=h;exact ⟨K,L,he,gc B ht (fun gq hg _ hk=>by have bw:=(nb B gq hg).1;have bz:=(nb J gq hk).2;omega),M,hap⟩),⟨.inl rfl,⟨.inr hV,⟨.inr hV,trivial⟩⟩⟩⟩⟩⟩⟩⟩,trivial⟩
 ·refine ⟨?_,⟨?_,⟨?_,⟨?_,⟨?_,⟨?_,⟨?_,⟨?_,trivial⟩⟩⟩⟩⟩⟩⟩⟩
  ·rintro lf p ⟨b0,b1⟩ ⟨b2,-⟩
   rintro _ _ _ _ _ _ _ _
   refine sw<|mw (vs x (([116]:List UInt8)++(nI b a.Sn a.Epoch a.Seq)).length y) ?_
   exact f1
  ·rintro lf p ⟨b3,b4⟩ ⟨b5,-⟩
   rintro _ _ _ _ _ _ _ _
   refine sw<|pu (vp m 0) wN ?_
   exact f1
  ·rintro lf p ⟨aN,b6⟩ ⟨b7,-⟩
   rintro _ _ rfl _ _ _ _ _ _
   refine sw ?_
   have aO:=(((H.kp s).ch I (fun h=>by have:=(nb Q _ h).1;have:=nL P (z3 d g j);omega)).ch aN (fun h=>by have:=(nb J _ h).1;have:=nL P (z3 d g j);omega))
   refine ld (vi a.Kind) wN mT aO ?_
   exact f1
  ·rintro lf p ⟨b8,b9⟩ ⟨bA,-⟩
   rintro _ _ rfl _ rfl _ _ _ _ _
   refine sw<|qj a.Kind wN rfl rfl (by kernel_rfl) ?_
   exact f1
  ·rintro lf p ⟨aP,bB⟩ ⟨bC,-⟩
   rintro _ _ rfl _ rfl _ rfl _ _ _ _
   refine sw<|ltB ([(by8 a.Kind)]:List UInt8) wN mR ?_
   intro bD bE au aQ aR
   exact nK aQ ⟨_,_,rfl,(mO aR aP.size),(by simp),⟨trivial,trivial⟩⟩
  ·rintro lf p ⟨aS,aT⟩ ⟨aU,-⟩
   have aV:=aT (aU.resolve_left (fun h=>Bool.noConfusion (show true=false from h.2)))
   rintro _ rfl _ rfl _ rfl _ rfl _ ⟨bF,bG,rfl,aW,bH,-⟩ _ _ _
   refine sw<|apB (([116]:List UInt8)++(nI b a.Sn a.Epoch a.Seq)) ([(by8 a.Kind)]:List UInt8) wN mR aV (Rd.of_own aW) (z4 G s I aS) ?_
   intro bI bJ au aX aY bK aZ
   exact nK aX ⟨_,_,rfl,aY,aZ⟩
  ·rintro lf p ⟨bL,bM⟩ ⟨bN,-⟩
   rintro _ _ _ _ _ _ _ _
   refine sw<|pu (vp m 9) wN ?_
   exact f1
  ·rintro lf p ⟨ba,bO⟩ ⟨bP,-⟩
   rintro _ _ _ _ _ _ _ rfl _
   refine sw ?_
   have bb:=(((H.kp s).ch I (fun h=>by have:=(nb Q _ h).1;have:=nL P (z3 d g j);omega)).ch ba (fun h=>by have:=(nb J _ h).1;have:=nL P (z3 d g j);omega))
   refine ld (vs D a.Body.length E) wN nd bb ?_
   exact f1
 ·rintro lf p ⟨av,bQ⟩
  have ax:=aM.ext av (fun k hk=>nT (z4 u d g j) (nb J k hk).1)
  rintro _ rfl _ rfl _ rfl _ rfl _ ⟨bR,bS,rfl,bT,bU,-⟩ _ ⟨bW,bX,rfl,ay,bY⟩ _ rfl _ rfl
  refine sw<|apB ((([116]:List UInt8)++(nI b a.Sn a.Epoch a.Seq))++([(by8 a.Kind)]:List UInt8)) a.Body wN mR ay (ae.from0 ax) (z4 G s I av) ?_
  intro az a0 au bc bd bZ be
  have bg:=ax.ext bc (fun k hk=>nT (z4 u d g j) (nb ay k hk).1)
  refine aw (vs az (((([116]:List UInt8)++(nI b a.Sn a.Epoch a.Seq))++([(by8 a.Kind)]:List UInt8))++a.Body).length a0) ?_
  refine n3<|rt (vs az (((([116]:List UInt8)++(nI b a.Sn a.Epoch a.Seq))++([(by8 a.Kind)]:List UInt8))++a.Body).length a0) ?_
  refine ⟨bg.keep0,?_⟩
  simp only [nt,f,i,F,cond_true,cond_false]
  exact ⟨_,_,rfl,(mO bd (z4 u d g j)),be,⟨trivial,trivial⟩⟩

theorem Cl (d:World) (j:Value) (a:List UInt8) (A:pI d j a) (k:Value) (b:List UInt8) (B:pI d k b) :Fn Tryz.prog 112 #[j,k] d (fun v l=>Keep d l∧rr l d.heap.size v (si a b)):=by
 obtain ⟨m,o,rfl,C,D⟩:=A
 obtain ⟨p,q,rfl,E,F⟩:=B
 refine nu (n:=17) [(vs m a.length o),(vs p b.length q)] Tryz.func112 rfl rfl ?_
 refine sr<|aw (vs none 0 0) ?_
 refine nx<|mw (vs m a.length o) ?_
 refine mw (vs p b.length q) ?_
 refine cl wN (yO d _ a (nH C D) _ b (nH E F)) ?_
 rintro _ T ⟨f,⟨g,h,rfl,r,G,V⟩⟩
 have s:=(Ch.base d).extk f
 have W:=rJ a b
 refine aw (vs g (pQ a b).length h) ?_
 refine n4<|mw (vs g (pQ a b).length h) ?_
 refine ln wN mR (Rd.of_own r) ?_
 refine pu (vb (decide (((pQ a b).length:Int) < 16))) wN ?_
 refine n2 ?_
 rcases bt (decide (((pQ a b).length:Int) < 16)) with e|e
 ·have X:=dT e
  refine ct e<|sr<|nF wN rfl rfl mR (fun w=>by kernel_rfl) ?_
  intro t H I J
  have K:=s.extk I
  refine aw (vs (some t) 0 0) ?_
  refine n1<|rt (vs (some t) 0 0) ?_
  refine ⟨K.keep0,?_⟩
  have L:si a b=[]:=by first|exact wD (by omega)|rfl
  rw [L]
  exact ⟨_,_,rfl,(mO J f.size),(by simp),⟨trivial,trivial⟩⟩
 have Y:=dF e
 refine cf e<|y1<|nF wN rfl rfl mR (fun w=>by kernel_rfl) ?_
 intro Z H i M
 refine mw (vs g (pQ a b).length h) ?_
 have u:=(mz r i)
 refine slv ((pQ a b).take 16) 0 16 wN mR (Rd.of_own u) (by first|omega|(simp <;> omega)) (by first|omega|(simp <;> omega)) (by first|rfl|(simp;done)|(rw [List.take_of_length_le (by first|(simp;done)|(simp;omega))])) rfl rfl rfl rfl (.inl ⟨rfl,rfl⟩) (.inr ⟨_,_,_,rfl,rfl,by omega⟩) ?_
 have N:0≤16:=(by first|omega|(simp <;> omega))
 have O:16≤(pQ a b).length:=(by first|omega|(simp <;> omega))
 refine ap0 ((pQ a b).take 16) wN mR M (Rd.subV (x':=((pQ a b).take 16)) (Rd.of_own u) N O (by first|rfl|(simp;done)|(rw [List.take_of_length_le (by first|(simp;done)|(simp;omega))]))) i.size ?_
 intro x y aa P Q ab
 have R:=(s.extk i).extk P
 refine aw (vs x ((pQ a b).take 16).length y) ?_
 refine n3<|rt (vs x ((pQ a b).take 16).length y) ?_
 refine ⟨R.keep0,?_⟩
 have S:si a b=((pQ a b).take 16):=by first|exact wD (by omega)|rfl
 rw [S]
 exact ⟨_,_,rfl,(mO Q f.size),(nT (by simp only [List.length_take,List.length_drop];omega) G),⟨trivial,trivial⟩⟩

abbrev vf:List Value:=[(vi 0),(vi 0),(vs none 0 0),(vs none 0 0),(vi 0),(vs none 0 0),(vs none 0 0),(vi 0),(vi 0),(vs none 0 0),(vs none 0 0)]
theorem pW:∀ w,(zeroValue 42).run Tryz.prog w=.ok (va vf) w:=fun w=>by kernel_rfl
def CC (w:World) (lo:Nat) (v:Value) (x:(PFrame)×(Bool)):Prop:=∃ (a:Option Addr) (b:Nat) (d:Option Addr) (e:Nat) (f:Option Addr) (g:Nat) (h:Option Addr) (i:Nat) (j:Option Addr) (k:Nat) (l:Option Addr) (m:Nat),v=.tuple #[.agg #[.int .i64 x.1.Kind,.int .i64 x.1.Id,.slice a x.1.Cn.length b,.slice d x.1.Sn.length e,.int .i64 x.1.Tick,.slice f x.1.Cookie.length g,.slice h x.1.Proof.length i,.int .i64 x.1.Epoch,.int .i64 x.1.Seq,.slice j x.1.Body.length k,.slice l x.1.Tag.length m],.bool x.2]∧w.ownsRow lo 5 1 (.slice a x.1.Cn.length b) x.1.Cn.length (x.1.Cn.map bV)∧x.1.Cn.length≤1073741824∧w.ownsRow lo 5 1 (.slice d x.1.Sn.length e) x.1.Sn.length (x.1.Sn.map bV)∧x.1.Sn.length≤1073741824∧w.ownsRow lo 5 1 (.slice f x.1.Cookie.length g) x.1.Cookie.length (x.1.Cookie.map bV)∧x.1.Cookie.length≤1073741824∧w.ownsRow lo 5 1 (.slice h x.1.Proof.length i) x.1.Proof.length (x.1.Proof.map bV)∧x.1.Proof.length≤1073741824∧w.ownsRow lo 5 1 (.slice j x.1.Body.length k) x.1.Body.length (x.1.Body.map bV)∧x.1.Body.length≤1073741824∧w.ownsRow lo 5 1 (.slice l x.1.Tag.length m) x.1.Tag.length (x.1.Tag.map bV)∧x.1.Tag.length≤1073741824∧Aps [(a,b),(d,e),(f,g),(h,i),(j,k),(l,m)]
def s_Seal (e:List UInt8) (f:Int) (a:List UInt8) (b:Int) (d:Int) (g:Int) (h:List UInt8):(PFrame)×(Bool):=bif (decide ((e.length:Int)=32)) then (bif (decide (((nI f a b d).length:Int)=0)) then (({Kind:=0,Id:=0,Cn:=[],Sn:=[],Tick:=0,Cookie:=[],Proof:=[],Epoch:=0,Seq:=0,Body:=[],Tag:=[]:PFrame},false)) else (bif (oT g) then (bif (oR g (h.length:Int)) then (({Kind:=g,Id:=0,Cn:=[],Sn:=a,Tick:=0,Cookie:=[],Proof:=[],Epoch:=b,Seq:=d,Body:=(ri e (nI f a b d) h),Tag:=(si e (nt f {Kind:=g,Id:=0,Cn:=[],Sn:=a,Tick:=0,Cookie:=[],Proof:=[],Epoch:=b,Seq:=d,Body:=(ri e (nI f a b d) h),Tag:=(List.replicate 16 (0:UInt8)):PFrame})):PFrame},true)) else (({Kind:=0,Id:=0,Cn:=[],Sn:=[],Tick:=0,Cookie:=[],Proof:=[],Epoch:=0,Seq:=0,Body:=[],Tag:=[]:PFrame},false))) else (({Kind:=0,Id:=0,Cn:=[],Sn:=[],Tick:=0,Cookie:=[],Proof:=[],Epoch:=0,Seq:=0,Body:=[],Tag:=[]:PFrame},false)))) else (({Kind:=0,Id:=0,Cn:=[],Sn:=[],Tick:=0,Cookie:=[],Proof:=[],Epoch:=0,Seq:=0,Body:=[],Tag:=[]:PFrame},false))
theorem Cm (E:World) (a5:Value) (f:List UInt8) (aS:pI E a5 f) (e:Int) (a6:Value) (a:List UInt8) (aT:pI E a6 a) (b:Int) (d:Int) (i:Int) (a7:Value) (j:List UInt8) (aU:pI E a7 j) :Fn Tryz.prog 101 #[a5,(vi e),a6,(vi b),(vi d),(vi i),a7] E (fun v N=>Keep E N∧CC N E.heap.size v (s_Seal f e a b d i j)):=by
 obtain ⟨K,L,rfl,au,a8⟩:=aS
 obtain ⟨ac,ad,rfl,a9,av⟩:=aT
 obtain ⟨ae,af,rfl,aA,aV⟩:=aU
 refine nu (n:=72) [(vs K f.length L),(vi e),(vs ac a.length ad),(vi b),(vi d),(vi i),(vs ae j.length af)] Tryz.func101 rfl rfl ?_
 refine sr<|al vf wN pW ?_
 intro ah aW aB T M aC
 have aD:=(Ch.base E).extk M
 refine aw vF ?_
 refine nx<|mw (vi e) ?_
 refine mw (vs ac a.length ad) ?_
 refine mw (vi b) ?_
 refine mw (vi d) ?_
 refine cl wN (uQ aW e _ a (nH (a9.from0 aD) av) b d) ?_
 rintro _ aX ⟨o,⟨ai,aj,rfl,aE,aY,bK⟩⟩
 have ax:=aD.extk o
 have bL:=qb e a b d
 refine aw (vs ai (nI e a b d).length aj) ?_
 refine n4<|jT1 [(0,(vs K f.length L)),(1,(vi e)),(2,(vs ac a.length ad)),(3,(vi b)),(4,(vi d)),(5,(vi i)),(6,(vs ae j.length af)),(14,(vp ah 0)),(15,vF),(16,(vs ai (nI e a b d).length aj))] (s_Seal f e a b d i j=({Kind:=0,Id:=0,Cn:=[],Sn:=[],Tick:=0,Cookie:=[],Proof:=[],Epoch:=0,Seq:=0,Body:=[],Tag:=[]:PFrame},false)) ?_ fun ak=>?_
 ·intro aZ aF aG bM
  refine sr<|pu (va vf) wN ?_
  have ba:=((aC.kp o).kp aG)
  refine sv vf wN mZ ba ?_
  intro bb bc bd bN
  have be:=(ax.extk aG).ext bc (fun k hk=>by subst hk;exact aB)
  refine aw vF ?_
  refine n1<|rc2 vf (vb false) bd nk mZ ?_
  refine ⟨be.keep0,?_⟩
  rw [aZ]
  exact ⟨_,_,_,_,_,_,_,_,_,_,_,_,rfl,(nM _ _ _ _),(by simp),(nM _ _ _ _),(by simp),(nM _ _ _ _),(by simp),(nM _ _ _ _),(by simp),(nM _ _ _ _),(by simp),(nM _ _ _ _),(by simp),⟨⟨(Ap.nl _),⟨(Ap.nl _),⟨(Ap.nl _),⟨(Ap.nl _),⟨(Ap.nl _),trivial⟩⟩⟩⟩⟩,⟨⟨(Ap.nl _),⟨(Ap.nl _),⟨(Ap.nl _),⟨(Ap.nl _),trivial⟩⟩⟩⟩,⟨⟨(Ap.nl _),⟨(Ap.nl _),⟨(Ap.nl _),trivial⟩⟩⟩,⟨⟨(Ap.nl _),⟨(Ap.nl _),trivial⟩⟩,⟨⟨(Ap.nl _),trivial⟩,⟨trivial,trivial⟩⟩⟩⟩⟩⟩⟩
 refine mw (vs K f.length L) ?_
 refine ln wN mR (au.from0 ax) ?_
 refine pu (vb (!(decide ((f.length:Int)=32)))) wN ?_
 refine mw (vb (!(decide ((f.length:Int)=32)))) ?_
 rcases bf (decide ((f.length:Int)=32)) with p|p
 ·have bO:=dF p
  iterate 3 refine sk (cA not p) ?_
  refine pk vT wN (cA not p) ?_
  refine mw vT ?_
  iterate 3 refine sk T1 ?_
  refine pk vT wN T1 ?_
  refine mw vT ?_
  iterate 5 refine sk T1 ?_
  refine pk vT wN T1 ?_
  refine n2<|ct T1 ?_
  have bg:s_Seal f e a b d i j=({Kind:=0,Id:=0,Cn:=[],Sn:=[],Tick:=0,Cookie:=[],Proof:=[],Epoch:=0,Seq:=0,Body:=[],Tag:=[]:PFrame},false):=by simp only [s_Seal,p,cond_true,cond_false]
  exact wj (ak bg _ (Ch.refl _ _))
 have bP:=dT p
 refine mv (vs ai (nI e a b d).length aj) (wS (cA not p)) ?_
 refine ln (wS (cA not p)) mR (Rd.of_own aE) ?_
 refine pu (vb (decide (((nI e a b d).length:Int)=0))) (wS (cA not p)) ?_
 refine pf (vb (decide (((nI e a b d).length:Int)=0))) wN (cA not p) ?_
 refine mw (vb (decide (((nI e a b d).length:Int)=0))) ?_
 rcases bt (decide (((nI e a b d).length:Int)=0)) with r|r
 ·have bQ:=dT r
  iterate 3 refine sk r ?_
  refine pk vT wN r ?_
  refine mw vT ?_
  iterate 5 refine sk T1 ?_
  refine pk vT wN T1 ?_
  refine n2<|ct T1 ?_
  have bh:s_Seal f e a b d i j=({Kind:=0,Id:=0,Cn:=[],Sn:=[],Tick:=0,Cookie:=[],Proof:=[],Epoch:=0,Seq:=0,Body:=[],Tag:=[]:PFrame},false):=by simp only [s_Seal,p,r,cond_true,cond_false]
  exact wj (ak bh _ (Ch.refl _ _))
 have bR:=dF r
 refine mv (vi i) (wS r) ?_
 refine cl (wS r) (tv aX i) ?_
 rintro _ aF ⟨l,rfl⟩
 have aH:=ax.extk l
 refine pu (vb (!(oT i))) (wS r) ?_
 refine pf (vb (!(oT i))) wN r ?_
 refine mw (vb (!(oT i))) ?_
 rcases bf (oT i) with x|x
 ·iterate 5 refine sk (cA not x) ?_
  refine pk vT wN (cA not x) ?_
  refine n2<|ct T1 ?_
  have bi:s_Seal f e a b d i j=({Kind:=0,Id:=0,Cn:=[],Sn:=[],Tick:=0,Cookie:=[],Proof:=[],Epoch:=0,Seq:=0,Body:=[],Tag:=[]:PFrame},false):=by simp only [s_Seal,p,r,x,cond_true,cond_false]
  exact wj (ak bi _ l)
 refine mv (vi i) (wS (cA not x)) ?_
 refine mv (vs ae j.length af) (wS (cA not x)) ?_
 refine ln (wS (cA not x)) mR (aA.from0 aH) ?_
 refine cl (wS (cA not x)) (wR aF i (j.length:Int)) ?_
 rintro _ bb ⟨m,rfl⟩
 refine pu (vb (!(oR i (j.length:Int)))) (wS (cA not x)) ?_
 refine pf (vb (!(oR i (j.length:Int)))) wN (cA not x) ?_
 refine n2 ?_
 rcases bf (oR i (j.length:Int)) with W|W
 ·refine ct (cA not W) ?_
  have bj:s_Seal f e a b d i j=({Kind:=0,Id:=0,Cn:=[],Sn:=[],Tick:=0,Cookie:=[],Proof:=[],Epoch:=0,Seq:=0,Body:=[],Tag:=[]:PFrame},false):=by simp only [s_Seal,p,r,x,W,cond_true,cond_false]
  exact wj (ak bj _ (l.trans m))
 refine cf (cA not W)<|y1<|mw (vi i) ?_
 refine nF wN rfl rfl mR (fun w=>by kernel_rfl) ?_
 intro bS bT s bk
 have aI:=(aH.extk m).extk s
 refine mw (vs ac a.length ad) ?_
 refine ap0 a wN mR bk (a9.from0 aI) s.size ?_
 intro A B ay y O bU
 have az:=aI.extk y
 refine mw (vi b) ?_
 refine mw (vi d) ?_
 refine mw (vs K f.length L) ?_
 refine mw (vs ai (nI e a b d).length aj) ?_
 refine mw (vs ae j.length af) ?_
 have bl:=(mz (mz (mz (mz aE l) m) s) y)
 refine cl wN (Co ay _ f (nH (au.from0 az) a8) _ (nI e a b d) (nH (Rd.of_own bl) aY) _ j (nH (aA.from0 az) aV)) ?_
 rintro _ J ⟨q,⟨C,D,rfl,P,aJ,bW⟩⟩
 have bX:=tn f (nI e a b d) j
 refine pu (va [(vi i),(vi 0),(vs none 0 0),(vs A a.length B),(vi 0),(vs none 0 0),(vs none 0 0),(vi b),(vi d),(vs C (ri f (nI e a b d) j).length D),(vs none 0 0)]) wN ?_
 refine al vf wN pW ?_
 intro Q bY F a0 G bm
 refine sv [(vi i),(vi 0),(vs none 0 0),(vs A a.length B),(vi 0),(vs none 0 0),(vs none 0 0),(vi b),(vi d),(vs C (ri f (nI e a b d) j).length D),(vs none 0 0)] wN mZ bm ?_
 intro am t bn bZ
 have bo:=((az.extk q).extk G).ext t (fun k hk=>by subst hk;exact nT (z7 M o l m s y q) F)
 refine n4<|aw (vi 0) ?_
 refine mW<|mP<|ng ?_
 have bp:(([]:List UInt8):List UInt8)=List.replicate 0 (0:UInt8):=by first|rfl|exact List.replicate_succ'.symm
 refine oa [(0,(vs K f.length L)),(1,(vi e)),(14,(vp ah 0)),(15,vF),(17,(vp Q 0)),(18,(vi ((0:Nat):Int)))] ⟨rfl,rfl,rfl,rfl,rfl,(cA (Value.int .i64) (show (0:Int)=((0:Nat):Int) by omega)),trivial⟩ (fun e' N=>∃ (k:Nat) (aK:Env) (ab17_10x:Option Addr) (cb17_10x:Nat),e'=pt aK [(0,(vs K f.length L)),(1,(vi e)),(14,(vp ah 0)),(15,vF),(17,(vp Q 0)),(18,(vi ((k:Nat):Int)))]∧Ch (fun k=>E.heap.size≤k) E N∧Ch (fun k=>J.heap.size≤k) am N∧k≤16∧(World.ownsRow N am.heap.size 5 1 (.slice ab17_10x (List.replicate k (0:UInt8)).length cb17_10x) (List.replicate k (0:UInt8)).length ((List.replicate k (0:UInt8)).map bV)∧(List.replicate k (0:UInt8)).length≤1073741824)∧Blk N Q 42 [(vi i),(vi 0),(vs none 0 0),(vs A a.length B),(vi 0),(vs none 0 0),(vs none 0 0),(vi b),(vi d),(vs C (ri f (nI e a b d) j).length D),(.slice ab17_10x (List.replicate k (0:UInt8)).length cb17_10x)]) (fun e' _=>(16 - (intOf (e' 18))).toNat) ?_ ?_
 ·exact fun u=>⟨0,u,none,0,rfl,bo,(Ch.refl (fun k=>J.heap.size≤k) am),(by omega),(bp ▸ ⟨(nM _ _ _ _),(by simp)⟩),bn⟩
 ·rintro _ a1 ⟨k,aK,ab17_10x,cb17_10x,rfl,aL,H,ca,⟨X,bq⟩,an⟩
  have hpl:(List.replicate k (0:UInt8)).length=k:=List.length_replicate
  refine nh<|sr<|mw (vi ((k:Nat):Int)) ?_
  refine pu (vb (decide (((k:Nat):Int) < 16))) wN ?_
  refine n2 ?_
  rcases bt (decide (((k:Nat):Int) < 16)) with V|V
  ·have cb:=dT V
   refine ct V<|nm<|mP<|nh<|ng<|mV ?_
   refine pu (vp Q 10) wN ?_
   refine ld (vs ab17_10x (List.replicate k (0:UInt8)).length cb17_10x) wN nd an ?_
   refine ltB ([0]:List UInt8) wN mR ?_
   intro cc cd aM Y br
   have bu:=(mz X Y)
   refine apB (List.replicate k (0:UInt8)) ([0]:List UInt8) wN mR bu (Rd.of_own br) (z2 H Y) ?_
   intro ao ap bv a2 aN ce bw
   have bz:=(aL.extk Y).ext a2 (fun k hk=>nT (z9 M o l m s y q G t) (nb X k hk).1)
   refine pu (vp Q 10) wN ?_
   have b0:=((an.kp Y).ch a2 (fun h=>by have:=(nb X _ h).1;have:=nL a0 t.size;omega))
   refine sf (vs ao ((List.replicate k (0:UInt8))++([0]:List UInt8)).length ap) wN nG b0 ?_
   intro b1 a3 b2 cg
   have b3:=bz.ext a3 (fun k hk=>by subst hk;exact nT (z7 M o l m s y q) F)
   refine mW<|mQ<|mP<|mV ?_
   refine mw (vi ((k:Nat):Int)) ?_
   refine ar (((k:Nat):Int)+1) wN ?_
   refine aw (vi (((k:Nat):Int)+1)) ?_
   refine mW ?_
   have b4:=(gc aN a3 (ne1 aN (nL a0 t.size)))
   have aO:(((List.replicate k (0:UInt8))++([0]:List UInt8)):List UInt8)=List.replicate (k+1) (0:UInt8):=by first|rfl|exact List.replicate_succ'.symm
   refine nX (w0:=a1) [(0,(vs K f.length L)),(1,(vi e)),(14,(vp ah 0)),(15,vF),(17,(vp Q 0)),(18,(vi (((k+1):Nat):Int)))] ?_ ?_ ?_
   · exact ⟨rfl,rfl,rfl,rfl,rfl,(cA (Value.int .i64) (show ((((k:Nat):Int)+1):Int)=(((k+1):Nat):Int) by omega)),trivial⟩
   · exact fun u=>⟨(k+1),u,ao,ap,rfl,b3,(((((Ch.refl (fun k=>J.heap.size≤k) am).ext H (fun k hk=>hk)).extk Y).ext a2 (fun k hk=>nT (z2 G t) (nb X k hk).1)).ext a3 (fun k hk=>by subst hk;exact F)),(by omega),(aO ▸ ⟨b4,bw⟩),(by have hb:=b2;first|exact hb|(rw [aO] at hb;exact hb))⟩
   · show (16 - (((k+1):Nat):Int)).toNat < (16 - ((k:Nat):Int)).toNat;omega
  have ci:=dF V
  refine cf V<|oh<|mU ?_
  obtain rfl:k=16:=by omega
  refine mU<|nq<|mP<|sr<|mw (vs K f.length L) ?_
  refine mw (vi e) ?_
  refine lN [(vi i),(vi 0),(vs none 0 0),(vs A a.length B),(vi 0),(vs none 0 0),(vs none 0 0),(vi b),(vi d),(vs C (ri f (nI e a b d) j).length D),(vs ab17_10x (List.replicate 16 (0:UInt8)).length cb17_10x)] wN nk mZ an ?_
  have aP:=(gc (gc (mz (mz O q) G) t (ne2 O (nT q.size F))) H (fun g hg hlt hk=>by have b5:=(nb O g hg).2;have b6:ay.heap.size≤J.heap.size:=q.size;have b7:J.heap.size≤g:=hk;omega))
  have aQ:=(gc (gc (mz P G) t (ne2 P (F))) H (fun g hg hlt hk=>by have b5:=(nb P g hg).2;have b6:J.heap.size≤J.heap.size:=(Nat.le_refl J.heap.size);have b7:J.heap.size≤g:=hk;omega))
  refine cl wN (sX a1 e _ _ (show vg a1 (va [(vi i),(vi 0),(vs none 0 0),(vs A a.length B),(vi 0),(vs none 0 0),(vs none 0 0),(vi b),(vi d),(vs C (ri f (nI e a b d) j).length D),(vs ab17_10x (List.replicate 16 (0:UInt8)).length cb17_10x)]) {Kind:=i,Id:=0,Cn:=[],Sn:=a,Tick:=0,Cookie:=[],Proof:=[],Epoch:=b,Seq:=d,Body:=(ri f (nI e a b d) j),Tag:=(List.replicate 16 (0:UInt8)):PFrame} from ⟨_,_,_,_,_,_,_,_,_,_,_,_,rfl,(Rd.nil _ _),(by simp),(Rd.of_own aP),av,(Rd.nil _ _),(by simp),(Rd.nil _ _),(by simp),(Rd.of_own aQ),aJ,(Rd.of_own X),bq⟩)) ?_
  rintro _ aM ⟨I,⟨cj,ck,rfl,b8,b9,cm⟩⟩
  have aR:=aL.extk I
  refine cl wN (Cl aM _ f (nH (au.from0 aR) a8) _ (nt e {Kind:=i,Id:=0,Cn:=[],Sn:=a,Tick:=0,Cookie:=[],Proof:=[],Epoch:=b,Seq:=d,Body:=(ri f (nI e a b d) j),Tag:=(List.replicate 16 (0:UInt8)):PFrame}) (nH (Rd.of_own b8) b9)) ?_
  rintro _ bv ⟨Z,⟨R,S,rfl,aa,bA,cn⟩⟩
  have co:=rL f (nt e {Kind:=i,Id:=0,Cn:=[],Sn:=a,Tick:=0,Cookie:=[],Proof:=[],Epoch:=b,Seq:=d,Body:=(ri f (nI e a b d) j),Tag:=(List.replicate 16 (0:UInt8)):PFrame})
  refine pu (vp Q 10) wN ?_
  have bB:=((an.kp I).kp Z)
  refine sf (vs R (si f (nt e {Kind:=i,Id:=0,Cn:=[],Sn:=a,Tick:=0,Cookie:=[],Proof:=[],Epoch:=b,Seq:=d,Body:=(ri f (nI e a b d) j),Tag:=(List.replicate 16 (0:UInt8)):PFrame})).length S) wN nG bB ?_
  intro b1 ab bC cp
  have bD:=(aR.extk Z).ext ab (fun k hk=>by subst hk;exact nT (z7 M o l m s y q) F)
  refine nx<|lN [(vi i),(vi 0),(vs none 0 0),(vs A a.length B),(vi 0),(vs none 0 0),(vs none 0 0),(vi b),(vi d),(vs C (ri f (nI e a b d) j).length D),(vs R (si f (nt e {Kind:=i,Id:=0,Cn:=[],Sn:=a,Tick:=0,Cookie:=[],Proof:=[],Epoch:=b,Seq:=d,Body:=(ri f (nI e a b d) j),Tag:=(List.replicate 16 (0:UInt8)):PFrame})).length S)] wN nk mZ bC ?_
  have a4:=z6 o l m s y q
  have bE:=((((((((((((aC.kp o).kp l).kp m).kp s).kp y).kp q).kp G).ch t (nN (nL T (nT a4 F)))).ch H (Nat.not_le.2 (nL T a4))).kp I).kp Z).ch ab (nN (nL T (nT a4 F))))
  refine sv [(vi i),(vi 0),(vs none 0 0),(vs A a.length B),(vi 0),(vs none 0 0),(vs none 0 0),(vi b),(vi d),(vs C (ri f (nI e a b d) j).length D),(vs R (si f (nt e {Kind:=i,Id:=0,Cn:=[],Sn:=a,Tick:=0,Cookie:=[],Proof:=[],Epoch:=b,Seq:=d,Body:=(ri f (nI e a b d) j),Tag:=(List.replicate 16 (0:UInt8)):PFrame})).length S)] wN mZ bE ?_
  intro cq aq bF cr
  have bG:=bD.ext aq (fun k hk=>by subst hk;exact aB)
  refine aw vT ?_
  refine n3 ?_
  have bH:=(gc (gc (mz (mz aP I) Z) ab (ne2 O (nT q.size F))) aq (ne1 O (nL T (z3 o l m))))
  have bI:=(gc (gc (mz (mz aQ I) Z) ab (ne2 P (F))) aq (ne1 P (nL T (z5 o l m s y))))
  have bJ:=(gc (gc aa ab (ne1 aa (nL a0 (z3 t H I)))) aq (ne1 aa (nL T (z10 o l m s y q G t H I))))
  refine rc2 [(vi i),(vi 0),(vs none 0 0),(vs A a.length B),(vi 0),(vs none 0 0),(vs none 0 0),(vi b),(vi d),(vs C (ri f (nI e a b d) j).length D),(vs R (si f (nt e {Kind:=i,Id:=0,Cn:=[],Sn:=a,Tick:=0,Cookie:=[],Proof:=[],Epoch:=b,Seq:=d,Body:=(ri f (nI e a b d) j),Tag:=(List.replicate 16 (0:UInt8)):PFrame})).length S)] (vb true) bF nk mZ ?_
  refine ⟨bG.keep0,?_⟩
  simp only [s_Seal,p,r,x,W,V,cond_true,cond_false]
  exact ⟨_,_,_,_,_,_,_,_,_,_,_,_,rfl,(nM _ _ _ _),(by simp),(mO bH (z4 M o l m)),av,(nM _ _ _ _),(by simp),(nM _ _ _ _),(by simp),(mO bI (z6 M o l m s y)),aJ,(mO bJ (z11 M o l m s y q G t H I)),bA,⟨⟨(Ap.nl _),⟨(Ap.nl _),⟨(Ap.nl _),⟨(Ap.nl _),⟨(Ap.nl _),trivial⟩⟩⟩⟩⟩,⟨⟨(Ap.nr _),⟨(Ap.nr _),⟨(Ap.lt O P (Nat.le_refl ay.heap.size)),⟨(Ap.lt O aa (z5 q G t H I)),trivial⟩⟩⟩⟩,⟨⟨(Ap.nl _),⟨(Ap.nl _),⟨(Ap.nl _),trivial⟩⟩⟩,⟨⟨(Ap.nl _),⟨(Ap.nl _),trivial⟩⟩,⟨⟨(Ap.lt P aa (z4 G t H I)),trivial⟩,⟨trivial,trivial⟩⟩⟩⟩⟩⟩⟩
theorem l7b {g:Int} {n:Nat} (h:oR g (n:Int)=true):n≤40:=by
  simp only [oR,cond_eq_ite,decide_eq_true_eq] at h
  (repeat' split at h) <;> (have:=dT h;omega)
theorem zJ (e:List UInt8) (f:Int) (a:List UInt8) (b d g:Int) (h:List UInt8):(s_Seal e f a b d g h).1.Sn.length≤a.length∧(s_Seal e f a b d g h).1.Body.length≤40∧(s_Seal e f a b d g h).1.Tag.length≤16:=by
  unfold s_Seal
  cases decide ((e.length:Int)=32)
  · exact ⟨Nat.zero_le _,Nat.zero_le _,Nat.zero_le _⟩
  cases decide (((nI f a b d).length:Int)=0)
  rotate_left
  · exact ⟨Nat.zero_le _,Nat.zero_le _,Nat.zero_le _⟩
  cases oT g
  · exact ⟨Nat.zero_le _,Nat.zero_le _,Nat.zero_le _⟩
  cases hq:oR g (h.length:Int)
  · exact ⟨Nat.zero_le _,Nat.zero_le _,Nat.zero_le _⟩
  exact ⟨Nat.le_refl _,nT (tn _ _ _).1 (l7b hq),by have:=rL e (nt f {Kind:=g,Id:=0,Cn:=[],Sn:=a,Tick:=0,Cookie:=[],Proof:=[],Epoch:=b,Seq:=d,Body:=ri e (nI f a b d) h,Tag:=List.replicate 16 (0:UInt8):PFrame});show (si e _).length≤16;omega⟩

def CD (w:World) (lo:Nat) (v:Value) (x:(PFrame)):Prop:=∃ (a:Option Addr) (b:Nat) (d:Option Addr) (e:Nat) (f:Option Addr) (g:Nat) (h:Option Addr) (i:Nat) (j:Option Addr) (k:Nat) (l:Option Addr) (m:Nat),v=.agg #[.int .i64 x.Kind,.int .i64 x.Id,.slice a x.Cn.length b,.slice d x.Sn.length e,.int .i64 x.Tick,.slice f x.Cookie.length g,.slice h x.Proof.length i,.int .i64 x.Epoch,.int .i64 x.Seq,.slice j x.Body.length k,.slice l x.Tag.length m]∧w.ownsRow lo 5 1 (.slice a x.Cn.length b) x.Cn.length (x.Cn.map bV)∧x.Cn.length≤1073741824∧w.ownsRow lo 5 1 (.slice d x.Sn.length e) x.Sn.length (x.Sn.map bV)∧x.Sn.length≤1073741824∧w.ownsRow lo 5 1 (.slice f x.Cookie.length g) x.Cookie.length (x.Cookie.map bV)∧x.Cookie.length≤1073741824∧w.ownsRow lo 5 1 (.slice h x.Proof.length i) x.Proof.length (x.Proof.map bV)∧x.Proof.length≤1073741824∧w.ownsRow lo 5 1 (.slice j x.Body.length k) x.Body.length (x.Body.map bV)∧x.Body.length≤1073741824∧w.ownsRow lo 5 1 (.slice l x.Tag.length m) x.Tag.length (x.Tag.map bV)∧x.Tag.length≤1073741824∧Aps [(a,b),(d,e),(f,g),(h,i),(j,k),(l,m)]
theorem zX (af:World) (a0:Value) (a:PFrame) (aG:vg af a0 a) :Fn Tryz.prog 140 #[a0] af (fun v a1=>Keep af a1∧CD a1 af.heap.size v (a)):=by
 obtain ⟨au,av,an,ao,ah,ai,Z,aa,S,T,K,L,rfl,aH,aI,aJ,aK,aL,aM,aN,aO,aP,aQ,aR,aS⟩:=aG
 refine nu (n:=34) [(va (oD a au av an ao ah ai Z aa S T K L))] Tryz.func140 rfl rfl ?_
 refine sr<|bx (oD a au av an ao ah ai Z aa S T K L) wN ?_
 intro y b9 ab M N aT
 refine al vf wN pW ?_
 intro bA bB a2 ac r aU
 refine nx<|nF wN rfl rfl mR (fun w=>by kernel_rfl) ?_
 intro bC bD m aV
 have a3:=(((Ch.base af).extk N).extk r).extk m
 refine pu (vp y 2) wN ?_
 have a4:=((aT.kp r).kp m)
 refine ld (vs au a.Cn.length av) wN nd a4 ?_
 refine ap0 a.Cn wN mR aV (aH.from0 a3) m.size ?_
 intro A B bE o x bF
 refine pu (vp y 2) wN ?_
 have aW:=(a4.kp o)
 refine sf (vs A a.Cn.length B) wN nG aW ?_
 intro bG d aX bH
 have aY:=(a3.extk o).ext d (fun k hk=>by subst hk;exact ab)
 refine nx<|nF wN rfl rfl mR (fun w=>by kernel_rfl) ?_
 intro bI bJ g aZ
 have a5:=aY.extk g
 refine pu (vp y 3) wN ?_
 have a6:=(aX.kp g)
 refine ld (vs an a.Sn.length ao) wN nd a6 ?_
 refine ap0 a.Sn wN mR aZ (aJ.from0 a5) g.size ?_
 intro C D bK i E ba
 refine pu (vp y 3) wN ?_
 have bb:=(a6.kp i)
 refine sf (vs C a.Sn.length D) wN nG bb ?_
 intro bL b bc bM
 have bd:=(a5.extk i).ext b (fun k hk=>by subst hk;exact ab)
 refine nx<|nF wN rfl rfl mR (fun w=>by kernel_rfl) ?_
 intro bN bO e be
 have a7:=bd.extk e
 refine pu (vp y 5) wN ?_
 have a8:=(bc.kp e)
 refine ld (vs ah a.Cookie.length ai) wN nd a8 ?_
 refine ap0 a.Cookie wN mR be (aL.from0 a7) e.size ?_
 intro F G bP j H a9
 refine pu (vp y 5) wN ?_
 have bg:=(a8.kp j)
 refine sf (vs F a.Cookie.length G) wN nG bg ?_
 intro bQ f bh bR
 have bi:=(a7.extk j).ext f (fun k hk=>by subst hk;exact ab)
 refine nx<|nF wN rfl rfl mR (fun w=>by kernel_rfl) ?_
 intro bS bT h bj
 have aA:=bi.extk h
 refine pu (vp y 6) wN ?_
 have aB:=(bh.kp h)
 refine ld (vs Z a.Proof.length aa) wN nd aB ?_
 refine ap0 a.Proof wN mR bj (aN.from0 aA) h.size ?_
 intro I J bU p V ax
 refine pu (vp y 6) wN ?_
 have bk:=(aB.kp p)
 refine sf (vs I a.Proof.length J) wN nG bk ?_
 intro bW l bl bX
 have bm:=(aA.extk p).ext l (fun k hk=>by subst hk;exact ab)
 refine nx<|nF wN rfl rfl mR (fun w=>by kernel_rfl) ?_
 intro bY bZ q bn
 have aC:=bm.extk q
 refine pu (vp y 9) wN ?_
 have aD:=(bl.kp q)
 refine ld (vs S a.Body.length T) wN nd aD ?_
 refine ap0 a.Body wN mR bn (aP.from0 aC) q.size ?_
 intro O P ca t aj ap
 refine pu (vp y 9) wN ?_
 have bo:=(aD.kp t)
 refine sf (vs O a.Body.length P) wN nG bo ?_
 intro cb s bp cc
 have bq:=(aC.extk t).ext s (fun k hk=>by subst hk;exact ab)
 refine nx<|nF wN rfl rfl mR (fun w=>by kernel_rfl) ?_
 intro cd ce u br
 have aE:=bq.extk u
 refine pu (vp y 10) wN ?_
 have aF:=(bp.kp u)
 refine ld (vs K a.Tag.length L) wN nd aF ?_
 refine ap0 a.Tag wN mR br (aR.from0 aE) u.size ?_
 intro W X cg Q ay ak
 refine pu (vp y 10) wN ?_
 have bu:=(aF.kp Q)
 refine sf (vs W a.Tag.length X) wN nG bu ?_
 intro ci R bv cj
 have bw:=(aE.extk Q).ext R (fun k hk=>by subst hk;exact ab)
 refine nx<|lN (oD a A B C D F G I J O P W X) wN nk mZ bv ?_
 have ad:=nL M (a2)
 have bz:=((((((((((((((((((aU.kp m).kp o).ch d (Ne.symm (nN ad))).kp g).kp i).ch b (Ne.symm (nN ad))).kp e).kp j).ch f (Ne.symm (nN ad))).kp h).kp p).ch l (Ne.symm (nN ad))).kp q).kp t).ch s (Ne.symm (nN ad))).kp u).kp Q).ch R (Ne.symm (nN ad)))
 refine sv (oD a A B C D F G I J O P W X) wN mZ bz ?_
 intro ck Y b0 cm
 have b1:=bw.ext Y (fun k hk=>by subst hk;exact nT N.size a2)
 refine n3 ?_
 have ae:=nL M r.size
 have b2:=(gc (gc (mz (mz (gc (mz (mz (gc (mz (mz (gc (mz (mz (gc (mz (mz (gc x d (ne1 x ae)) g) i) b (ne1 x ae)) e) j) f (ne1 x ae)) h) p) l (ne1 x ae)) q) t) s (ne1 x ae)) u) Q) R (ne1 x ae)) Y (ne1 x (ac)))
 have am:=nL M (z4 r m o d)
 have b3:=(gc (gc (mz (mz (gc (mz (mz (gc (mz (mz (gc (mz (mz (gc E b (ne1 E am)) e) j) f (ne1 E am)) h) p) l (ne1 E am)) q) t) s (ne1 E am)) u) Q) R (ne1 E am)) Y (ne1 E (nL ac (z3 m o d))))
 have aq:=nL M (z7 r m o d g i b)
 have b4:=(gc (gc (mz (mz (gc (mz (mz (gc (mz (mz (gc H f (ne1 H aq)) h) p) l (ne1 H aq)) q) t) s (ne1 H aq)) u) Q) R (ne1 H aq)) Y (ne1 H (nL ac (z6 m o d g i b))))
 have az:=nL M (z10 r m o d g i b e j f)
 have b5:=(gc (gc (mz (mz (gc (mz (mz (gc V l (ne1 V az)) q) t) s (ne1 V az)) u) Q) R (ne1 V az)) Y (ne1 V (nL ac (z9 m o d g i b e j f))))
 have b6:=(gc (gc (mz (mz (gc aj s (ne1 aj (nL M (nT (z12 r m o d g i b e j f h p) l.size)))) u) Q) R (ne1 aj (nL M (nT (z12 r m o d g i b e j f h p) l.size)))) Y (ne1 aj (nL ac (z12 m o d g i b e j f h p l))))
 have b7:=(gc (gc ay R (ne1 ay (nL M (t5 (z12 r m o d g i b e j f h p) l.size q.size t.size s.size)))) Y (ne1 ay (nL ac (t4 (z12 m o d g i b e j f h p l) q.size t.size s.size))))
 refine rc (oD a A B C D F G I J O P W X) b0 nk mZ ?_
 refine ⟨b1.keep0,?_⟩
 have b8:a=a:=by rfl
 rw [b8]
 exact ⟨_,_,_,_,_,_,_,_,_,_,_,_,rfl,(mO b2 (z2 N r)),aI,(mO b3 (z5 N r m o d)),aK,(mO b4 (z8 N r m o d g i b)),aM,(mO b5 (z11 N r m o d g i b e j f)),aO,(mO b6 (t3 (z12 N r m o d g i b e j f h) p.size l.size)),aQ,(mO b7 (t6 (z12 N r m o d g i b e j f h) p.size l.size q.size t.size s.size)),aS,⟨⟨(Ap.new x ba (z2 d g)),⟨(Ap.new x a9 (z5 d g i b e)),⟨(Ap.new x ax (z8 d g i b e j f h)),⟨(Ap.new x ap (z11 d g i b e j f h p l q)),⟨(Ap.new x ak (t3 (z12 d g i b e j f h p l q t) s.size u.size)),trivial⟩⟩⟩⟩⟩,⟨⟨(Ap.new E a9 (z2 b e)),⟨(Ap.new E ax (z5 b e j f h)),⟨(Ap.new E ap (z8 b e j f h p l q)),⟨(Ap.new E ak (z11 b e j f h p l q t s u)),trivial⟩⟩⟩⟩,⟨⟨(Ap.new H ax (z2 f h)),⟨(Ap.new H ap (z5 f h p l q)),⟨(Ap.new H ak (z8 f h p l q t s u)),trivial⟩⟩⟩,⟨⟨(Ap.new V ap (z2 l q)),⟨(Ap.new V ak (z5 l q t s u)),trivial⟩⟩,⟨⟨(Ap.new aj ak (z2 s u)),trivial⟩,⟨trivial,trivial⟩⟩⟩⟩⟩⟩⟩

theorem zH:∀ w,(sizeOf 5).run Tryz.prog w=.ok 1 w:=fun w=>by kernel_rfl
def Ds (w:World) (g:Nat) (v:Value) (x:(List UInt8)):Prop:=∃ (a:Option Addr) (b:Nat),v=.slice a x.length b∧Rd w 1 (.slice a x.length b) x.length (x.map bV)∧x.length≤1073741824∧(0 < x.length→∀ z,a=some z→z.block ≠ g)
theorem uP (l:World) (g:Nat) (ca:Option Addr) (cc:Nat) (cb:List UInt8) (au:ph l g 110 ca cc cb) (V:Value) (a:List UInt8) (av:Ds l g V a) (aR:a.length≤1000000):Fn Tryz.prog 141 #[(vp g 0),V] l (fun v m=>∃ x:(List UInt8),Ch (fun k=>k=g) l m∧ph m g 110 ca cc cb∧rr m l.heap.size v x∧(True)):=by
 obtain ⟨ci,chh,hcb,hcr,hcl,hci,hcn⟩:=au
 have hgl:=Blk.lt hcb
 obtain ⟨W,X,rfl,ax,B,ay⟩:=av
 refine nu (n:=53) [(vp g 0),(vs W a.length X)] Tryz.func141 rfl rfl ?_
 refine sr<|aw (vs none 0 0) ?_
 refine nx<|nF wN rfl rfl mR (fun w=>by kernel_rfl) ?_
 intro aS aT H az
 have Y:=ChG.extk (Ch.refl (fun k=>k=g) l) H
 refine mw (vs W a.length X) ?_
 refine ap0 a wN mR az (Rd.chP ax Y ay) H.size ?_
 intro d b a0 N e aU
 have Z:=ChG.extk Y N
 refine aw (vs d a.length b) ?_
 refine n4<|mw (vp g 0) ?_
 have a1:=((hcb.kp H).kp N)
 refine cl wN (ow a0 g ca cc cb (cx a1 hcr Z hcl hcn) 8) ?_
 rintro _ O ⟨o,u,⟨aV,aW,y,aX,aY,aZ,ba⟩,rfl,bb⟩
 have j:=ChG.ext Z u iL
 refine mW<|mP<|ng<|sr<|pu (vb (decide ((o)=0))) wN ?_
 refine aw (vb (decide ((o)=0))) ?_
 refine n2 ?_
 rcases bf (decide ((o)=0)) with C|C
 ·have bc:=dF C
  refine cf C<|sr<|pu (vb (decide ((o)=1))) wN ?_
  refine aw (vb (decide ((o)=1))) ?_
  refine n2 ?_
  rcases bf (decide ((o)=1)) with D|D
  ·have bd:=dF D
   refine cf D<|sr<|pu (vb (decide ((o)=2))) wN ?_
   refine aw (vb (decide ((o)=2))) ?_
   refine n2 ?_
   rcases bf (decide ((o)=2)) with E|E
   ·have be:=dF E
    refine cf E<|nm<|mQ<|mP<|sr ?_
    refine mw (vs d a.length b) ?_
    refine aw (vs d a.length b) ?_
    refine n3 ?_
    have a2:=(gc e u (ne1 e (hgl)))
    refine rt (vs d a.length b) ?_
    exact ⟨a,j,(cx y hcr j hcl hcn),⟨_,_,rfl,a2,B,⟨trivial,trivial⟩⟩,trivial⟩
   have bg:=dT E
   refine ct E<|mV ?_
   refine mw (vs d a.length b) ?_
   refine mw (vp g 0) ?_
   refine cl wN (rR O g ca cc cb (cx y hcr j hcl hcn)) ?_
   rintro _ P ⟨s,Q,⟨bh,bi,a3,bj,bk,bl,bm⟩,rfl,bn⟩
   have a4:=ChG.ext j Q iL
   refine qj (s) wN rfl rfl (by kernel_rfl) ?_
   refine ltB ([(by8 (s))]:List UInt8) wN mR ?_
   intro bo bp i I a5
   have a6:=ChG.extk a4 I
   have a7:=(mz (gc (gc e u (ne1 e (hgl))) Q (ne1 e (hgl))) I)
   refine apB a ([(by8 (s))]:List UInt8) wN mR a7 (Rd.of_own a5) (z5 H N u Q I) ?_
   intro J K aa ab a8 bq a9
   have ac:=ChG.ext a6 ab (fun k hk=>.inr (nT (Nat.le_refl l.heap.size) (nb e k hk).1))
   refine aw (vs J (a++([(by8 (s))]:List UInt8)).length K) ?_
   refine mW<|mQ<|mP<|sr ?_
   refine mw (vs J (a++([(by8 (s))]:List UInt8)).length K) ?_
   refine aw (vs J (a++([(by8 (s))]:List UInt8)).length K) ?_
   refine n3<|rt (vs J (a++([(by8 (s))]:List UInt8)).length K) ?_
   have aA:=((a3.kp I).ch ab (fun h=>by have:=(nb e _ h).1;have:=nL hgl (Nat.le_refl l.heap.size);omega))
   exact ⟨(a++([(by8 (s))]:List UInt8)),ac,(cx aA hcr ac hcl hcn),⟨_,_,rfl,a8,a9,⟨trivial,trivial⟩⟩,trivial⟩
  have br:=dT D
  refine ct D<|sr<|mw (vs d a.length b) ?_
  have L:=(gc e u (ne1 e (hgl)))
  refine ln wN mR (Rd.of_own L) ?_
  refine pu (vb (decide (0 < (a.length:Int)))) wN ?_
  refine n2 ?_
  rcases bf (decide (0 < (a.length:Int))) with F|F
  ·have bu:=dF F
   refine cf F<|nm<|mQ<|mP<|sr ?_
   refine mw (vs d a.length b) ?_
   refine aw (vs d a.length b) ?_
   refine n3<|rt (vs d a.length b) ?_
   exact ⟨a,j,(cx y hcr j hcl hcn),⟨_,_,rfl,L,B,⟨trivial,trivial⟩⟩,trivial⟩
  have bv:=dT F
  refine ct F<|mV ?_
  refine mw (vs d a.length b) ?_
  refine mw (vp g 0) ?_
  refine mw (vs d a.length b) ?_
  refine ln wN mR (Rd.of_own L) ?_
  refine cl wN (ow O g ca cc cb (cx y hcr j hcl hcn) (a.length:Int)) ?_
  rintro _ P ⟨p,ad,⟨bw,bz,aB,b0,b1,b2,b3⟩,rfl,b4⟩
  have ae:=ChG.ext j ad iL
  have af:=(gc L ad (ne1 e (hgl)))
  refine slv (a.take (((p)).toNat)) 0 (((p)).toNat) wN mR (Rd.of_own af) (by first|omega|(simp <;> omega)) (by first|omega|(simp <;> omega)) (by first|rfl|(simp;done)|(rw [List.take_of_length_le (by first|(simp;done)|(simp;omega))])) rfl rfl rfl rfl (.inl ⟨rfl,rfl⟩) (.inr ⟨_,_,_,rfl,rfl,by omega⟩) ?_
  have aC:=yr (k:=(((p)).toNat)) af (by first|omega|(simp <;> omega))
  have aD:(a.take (((p)).toNat)).length≤1073741824:=nT (by simp only [List.length_take];omega) B
  refine aw (vs (tX d b 0 1) (a.take (((p)).toNat)).length (b - 0)) ?_
  refine mW<|mQ<|mP<|sr ?_
  refine mw (vs (tX d b 0 1) (a.take (((p)).toNat)).length (b - 0)) ?_
  refine aw (vs (tX d b 0 1) (a.take (((p)).toNat)).length (b - 0)) ?_
  refine n3<|rt (vs (tX d b 0 1) (a.take (((p)).toNat)).length (b - 0)) ?_
  exact ⟨(a.take (((p)).toNat)),ae,(cx aB hcr ae hcl hcn),⟨_,_,rfl,aC,aD,⟨trivial,trivial⟩⟩,trivial⟩
 have b5:=dT C
 refine ct C<|sr<|mw (vs d a.length b) ?_
 have A:=(gc e u (ne1 e (hgl)))
 refine ln wN mR (Rd.of_own A) ?_
 refine pu (vb (decide (0 < (a.length:Int)))) wN ?_
 refine n2 ?_
 rcases bf (decide (0 < (a.length:Int))) with G|G
 ·have b6:=dF G
  refine cf G<|nm<|mQ<|mP<|sr ?_
  refine mw (vs d a.length b) ?_
  refine aw (vs d a.length b) ?_
  refine n3<|rt (vs d a.length b) ?_
  exact ⟨a,j,(cx y hcr j hcl hcn),⟨_,_,rfl,A,B,⟨trivial,trivial⟩⟩,trivial⟩
 have b7:=dT G
 refine ct G<|sr<|mw (vp g 0) ?_
 refine mw (vs d a.length b) ?_
 refine ln wN mR (Rd.of_own A) ?_
 refine cl wN (ow O g ca cc cb (cx y hcr j hcl hcn) (a.length:Int)) ?_
 rintro _ P ⟨f,M,⟨b8,b9,aE,bA,bB,bC,bD⟩,rfl,bE⟩
 have R:=ChG.ext j M iL
 refine aw (vi (f)) ?_
 refine n2<|ob ([(21,[],[],(fun _ v _=>v=(vs d a.length b))),(22,[],[],(fun _ v _=>v=(vi (f)))),(23,[],[],(fun _ v _=>v=(vs d a.length b))),(24,[],[],(fun _ v _=>v=(vi (f)))),(25,[],[2,3],(fun _ v _=>v=(ve (vs d a.length b) (((f)).toNat*1)))),(26,[],[2,3,4],(fun _ v _=>v=(v8 ((a.getD ((f)).toNat 0).toNat:Int)))),(27,[],[],(fun _ v _=>v=(vp g 0))),(28,[],[6],(fun _ v _=>∃ r:Int,v=(vi r)∧0≤r∧(r < 255∨((255:Int)≤0∧r=0)))),(29,[],[6,7],(fun _ v _=>∃ z:Int,v=vi z)),(30,[],[6,7,8],(fun _ v _=>∃ z:UInt8,v=.int .u8 (z.toNat:Int))),(31,[],[2,3,4,5,6,7,8,9],(fun _ v _=>∃ z:UInt8,v=.int .u8 (z.toNat:Int)))]:GV) (fun lf m=>Ch (fun k=>k=g) P m∧ph m g 110 ca cc cb) [(7,fun w m=>Ch (fun k=>k=g) w m∧(ph w g 110 ca cc cb→ph m g 110 ca cc cb))] oM rfl (by kernel_rfl) (by kernel_rfl) ?_ (fun _ _ h=>⟨h.to _,ph.kp (cx aE hcr R hcl hcn) h⟩) (fun _ _ _ _ h mo k=>by obtain ⟨hc,hcur⟩:=h;exact ⟨hc.comp k (fun _ _ q=>q.elim),hcur.kp k⟩) ⟨(fun _ _ w m h mo hj t=>by obtain ⟨hc,hcur⟩:=h;exact ⟨hc.comp t.1 (fun _ _ q=>q),t.2 hcur⟩),trivial⟩ ?_ ?_ ?_
 ·exact ⟨hV,hE,⟨hV,hE,⟨hV,hE,⟨hV,hE,⟨hV,hE,⟨hV,hE,⟨hV,hE,⟨hV,hE,⟨hV,hE,⟨hV,hE,⟨hV,hE,trivial⟩⟩⟩⟩⟩⟩⟩⟩⟩⟩⟩
 ·exact ⟨⟨.inr hV,⟨.inr hV,⟨.inr hV,⟨.inr hV,⟨.inr hV,⟨.inr hV,⟨.inr hV,⟨.inl rfl,⟨.inr hV,⟨.inr hV,⟨.inr hV,trivial⟩⟩⟩⟩⟩⟩⟩⟩⟩⟩⟩,trivial⟩
 ·refine ⟨?_,⟨?_,⟨?_,⟨?_,⟨?_,⟨?_,⟨?_,⟨?_,⟨?_,⟨?_,⟨?_,trivial⟩⟩⟩⟩⟩⟩⟩⟩⟩⟩⟩
  ·rintro lf i ⟨bF,⟨bG,bH,bI,bJ,bK,bL,bM⟩⟩ ⟨bN,-⟩
   rintro _ _ _ _ _ _ _ _ _ _ _
   refine sw<|mw (vs d a.length b) ?_
   exact f1
  ·rintro lf i ⟨bO,⟨bP,bQ,bR,bS,bT,bU,bW⟩⟩ ⟨bX,-⟩
   rintro _ _ _ _ _ _ _ _ _ _ _
   refine sw<|mw (vi (f)) ?_
   exact f1
  ·rintro lf i ⟨bY,⟨bZ,cd,ce,cg,cj,ck,cm⟩⟩ ⟨cn,-⟩
   rintro _ _ _ _ _ _ _ _ _ _ _
   refine sw<|mw (vs d a.length b) ?_
   exact f1
  ·rintro lf i ⟨co,⟨cp,cq,cr,cs,cu,cv,cw⟩⟩ ⟨cy,-⟩
   rintro _ _ _ _ _ _ _ _ _ _ _
   refine sw<|mw (vi (f)) ?_
   exact f1
  ·rintro lf i ⟨aF,⟨cz,c0,c1,c2,c3,c4,c5⟩⟩ ⟨c6,-⟩
   rintro _ _ _ rfl _ rfl _ _ _ _ _ _ _
   refine sw ?_
   have aG:=(gc (gc A M (ne1 e (hgl))) aF (ne1 e (hgl)))
   refine ix wN (f) mR (Rd.of_own aG) ?_
   exact f1
  ·rintro lf i ⟨aH,⟨c7,c8,c9,cC,cD,cE,cF⟩⟩ ⟨cG,-⟩
   rintro _ _ _ rfl _ rfl _ rfl _ _ _ _ _ _
   refine sw ?_
   have aI:=(gc (gc A M (ne1 e (hgl))) aH (ne1 e (hgl)))
   refine eb (x:=a) (((f)).toNat) wN pP (Rd.of_own aI) ?_
   exact f1
  ·rintro lf i ⟨cH,⟨cI,cJ,cK,cL,cM,cN,cO⟩⟩ ⟨cP,-⟩
   rintro _ _ _ _ _ _ _ _ _ _ _
   refine sw<|mw (vp g 0) ?_
   exact f1
  ·rintro lf i ⟨aJ,⟨cQ,cR,aK,cS,cT,cU,cV⟩⟩ ⟨cW,-⟩
   have ah:=ChG.ext R aJ iL
   rintro _ _ _ _ _ _ _ rfl _ _ _ _
   refine sw<|cl wN (ow i g ca cc cb (cx aK hcr ah hcl hcn) 255) ?_
   rintro _ aa ⟨cX,ai,⟨cY,cZ,aL,da,db,dc,dd⟩,rfl,aM⟩
   have aN:=ChG.ext ah ai iL
   exact nK ⟨ai,fun _=>(cx aL hcr aN hcl hcn)⟩ ⟨_,rfl,aM⟩
  ·rintro lf i ⟨de,⟨df,dg,dh,di,dj,dk,dl⟩⟩ ⟨dm,-⟩
   rintro _ _ _ _ _ _ _ rfl _ ⟨r,rfl,dn⟩ _ _ _
   refine sw<|ar (1+r) wN ?_
   exact nK (Ch.refl _ _) ⟨_,rfl⟩
  ·rintro lf i ⟨dp,⟨dq,dr,ds,dt,du,dv,dw⟩⟩ ⟨dx,-⟩
   rintro _ _ _ _ _ _ _ rfl _ ⟨r,rfl,dy⟩ _ ⟨S,rfl⟩ _ _
   refine sw<|qj S wN rfl rfl (by kernel_rfl) ?_
   exact nK (Ch.refl _ _) ⟨_,rfl⟩
  ·rintro lf i ⟨dz,⟨d0,d1,d2,d3,d4,d5,d6⟩⟩ ⟨d7,-⟩
   rintro _ _ _ rfl _ rfl _ rfl _ rfl _ rfl _ ⟨r,rfl,d8⟩ _ ⟨S,rfl⟩ _ ⟨aj,rfl⟩ _
   refine sw<|rC (a.getD ((f)).toNat 0) (aj) wN rfl rfl (by kernel_rfl) ?_
   exact nK (Ch.refl _ _) ⟨_,rfl⟩
 ·rintro lf i ⟨ak,⟨d9,dA,aO,dB,dC,dD,dE⟩⟩
  have aP:=ChG.ext R ak iL
  iterate 7 rintro _ rfl
  rintro _ ⟨r,rfl,dG⟩ _ ⟨S,rfl⟩ _ ⟨aj,rfl⟩ _ ⟨T,rfl⟩
  refine sw ?_
  have am:=(gc (gc A M (ne1 e (hgl))) ak (ne1 e (hgl)))
  refine ix wN (f) mR (Rd.of_own am) ?_
  refine xV a (((f)).toNat) ((T)) wN rfl rfl rfl (by simp) rfl zH am (by first|omega|(simp only [List.length_append,List.length_replicate,List.length_take,List.length_set,List.length_map];omega)) ?_
  intro aa an ao
  have ap:=ChG.ext aP an (fun k hk=>.inr (nT (Nat.le_refl l.heap.size) (nb e k hk).1))
  refine mW<|mQ<|mP<|sr ?_
  refine mw (vs d a.length b) ?_
  refine aw (vs d a.length b) ?_
  refine n3<|rt (vs d a.length b) ?_
  have aq:a.length=((a.set (((f)).toNat) (T))).length:=by first|(simp only [List.length_append,List.length_take,List.length_replicate,List.length_set,List.length_map];done)|(simp only [List.length_append,List.length_take,List.length_replicate,List.length_set,List.length_map];omega)
  rw [aq] at ao ⊢
  have aQ:=(aO.ch an (fun h=>by have:=(nb e _ h).1;have:=nL hgl (Nat.le_refl l.heap.size);omega))
  exact ⟨(a.set (((f)).toNat) (T)),ap,(cx aQ hcr ap hcl hcn),⟨_,_,rfl,ao,(by rw [← aq];exact B),⟨trivial,trivial⟩⟩,trivial⟩
end Go.Proofs.YtacoceibbheccaaGreat.K
