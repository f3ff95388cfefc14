import Derived.Test.YtacoceibbheccaaGreatWb4
namespace Go.Proofs.YtacoceibbheccaaGreat.K
open Go.RowKit
set_option linter.unusedVariables false
set_option linter.unusedSimpArgs false
set_option maxRecDepth 100000
set_option maxHeartbeats 4000000
def zm (w:World) (lo:Nat) (v:Value) (x:(PChan)×(Int)×(PFrame)):Prop:=∃ (a:Option Addr) (b:Nat) (d:Option Addr) (e:Nat) (f:Option Addr) (g:Nat) (h:Option Addr) (i:Nat) (j:Option Addr) (k:Nat) (l:Option Addr) (m:Nat) (o:Option Addr) (p:Nat) (q:Option Addr) (r:Nat) (s:Option Addr) (t:Nat) (u:Option Addr) (y:Nat) (A:Option Addr) (B:Nat) (C:Option Addr) (D:Nat),v=.tuple #[.agg #[.int .i64 x.1.Role,.slice a x.1.Sn.length b,.int .i64 x.1.Cur.N,.slice d x.1.Cur.Key.length e,.int .i64 x.1.Cur.Seq,.int .i64 x.1.Cur.Win.Top,.slice f x.1.Cur.Win.Bits.length g,.int .i64 x.1.Old.N,.slice h x.1.Old.Key.length i,.int .i64 x.1.Old.Seq,.int .i64 x.1.Old.Win.Top,.slice j x.1.Old.Win.Bits.length k,.bool x.1.HasOld,.int .i64 x.1.Until,.slice l x.1.Next.length m],.int .i64 x.2.1,.agg #[.int .i64 x.2.2.Kind,.int .i64 x.2.2.Id,.slice o x.2.2.Cn.length p,.slice q x.2.2.Sn.length r,.int .i64 x.2.2.Tick,.slice s x.2.2.Cookie.length t,.slice u x.2.2.Proof.length y,.int .i64 x.2.2.Epoch,.int .i64 x.2.2.Seq,.slice A x.2.2.Body.length B,.slice C x.2.2.Tag.length D]]∧w.ownsRow lo 5 1 (.slice a x.1.Sn.length b) x.1.Sn.length (x.1.Sn.map bV)∧x.1.Sn.length≤1073741824∧w.ownsRow lo 5 1 (.slice d x.1.Cur.Key.length e) x.1.Cur.Key.length (x.1.Cur.Key.map bV)∧x.1.Cur.Key.length≤1073741824∧w.ownsRow lo 3 1 (.slice f x.1.Cur.Win.Bits.length g) x.1.Cur.Win.Bits.length (x.1.Cur.Win.Bits.map iV)∧x.1.Cur.Win.Bits.length≤1073741824∧w.ownsRow lo 5 1 (.slice h x.1.Old.Key.length i) x.1.Old.Key.length (x.1.Old.Key.map bV)∧x.1.Old.Key.length≤1073741824∧w.ownsRow lo 3 1 (.slice j x.1.Old.Win.Bits.length k) x.1.Old.Win.Bits.length (x.1.Old.Win.Bits.map iV)∧x.1.Old.Win.Bits.length≤1073741824∧w.ownsRow lo 5 1 (.slice l x.1.Next.length m) x.1.Next.length (x.1.Next.map bV)∧x.1.Next.length≤1073741824∧w.ownsRow lo 5 1 (.slice o x.2.2.Cn.length p) x.2.2.Cn.length (x.2.2.Cn.map bV)∧x.2.2.Cn.length≤1073741824∧w.ownsRow lo 5 1 (.slice q x.2.2.Sn.length r) x.2.2.Sn.length (x.2.2.Sn.map bV)∧x.2.2.Sn.length≤1073741824∧w.ownsRow lo 5 1 (.slice s x.2.2.Cookie.length t) x.2.2.Cookie.length (x.2.2.Cookie.map bV)∧x.2.2.Cookie.length≤1073741824∧w.ownsRow lo 5 1 (.slice u x.2.2.Proof.length y) x.2.2.Proof.length (x.2.2.Proof.map bV)∧x.2.2.Proof.length≤1073741824∧w.ownsRow lo 5 1 (.slice A x.2.2.Body.length B) x.2.2.Body.length (x.2.2.Body.map bV)∧x.2.2.Body.length≤1073741824∧w.ownsRow lo 5 1 (.slice C x.2.2.Tag.length D) x.2.2.Tag.length (x.2.2.Tag.map bV)∧x.2.2.Tag.length≤1073741824∧Aps [(a,b),(d,e),(f,g),(h,i),(j,k),(l,m),(o,p),(q,r),(s,t),(u,y),(A,B),(C,D)]
theorem ua (bo:World) (bM:Value) (am:List UInt8) (ca:pI bo bM am) :Fn Tryz.prog 26 #[bM] bo (fun v aj=>∃ x:(PChan)×(Int)×(PFrame),Keep bo aj∧zm aj bo.heap.size v x∧(True)):=by
 obtain ⟨a5,a6,rfl,af,aA⟩:=ca
 refine nu (n:=26) [(vs a5 am.length a6)] Tryz.func26 rfl rfl ?_
 refine sr<|al tT wN pJ ?_
 intro ak d8 bN O m bO
 refine aw (vi 0) ?_
 refine al vf wN pW ?_
 intro d9 cb aB ah f bP
 have bQ:=((Ch.base bo).extk m).extk f
 refine nx<|mw (vs a5 am.length a6) ?_
 refine cl wN (Bo cb _ am (nH (af.from0 bQ) aA)) ?_
 rintro _ ae ⟨ai,g,ab,rfl,cc⟩
 obtain ⟨dA,dB,u,dC,dD,dE,dG⟩:=cc _ _ rfl
 have bR:=bQ.extk g
 refine aw (vp ai 0) ?_
 refine nx<|mw (vp ai 0) ?_
 refine cl wN (zZ ae ai a5 a6 am ⟨_,_,u,(af.from0 bR),aA,(by omega),(fun an z hz=>nN (nL (rF af an z hz) (nT (z2 m f) ab)))⟩) ?_
 rintro _ bu ⟨s,i,⟨dH,dI,cd,dJ,dK,dL,dM⟩,⟨B,C,D,F,G,H,I,J,K,L,M,N,rfl,P,b4,Q,b5,R,b6,S,b7,T,b8,V,b9,p⟩,dN⟩
 have ce:=bR.ext i (fun k hk=>by subst hk;exact nT (z2 m f) ab)
 refine al tT wN pJ ?_
 intro dO dP ad bA e cg
 refine sv (oj (s) B C D F G H I J K L M N) wN mX cg ?_
 intro dQ a ci dR
 have cj:=(ce.extk e).ext a (fun k hk=>by subst hk;exact nT (z4 m f g i) ad)
 refine nx<|mw (vp ai 0) ?_
 refine ltI ([0,4,5,6,7,8,1000000,1000001,(-1)]:List Int) wN nf ?_
 intro dS dU ck b bS
 have bT:=cj.extk b
 have cm:=(((cd.kp e).ch a (nN (nL (Blk.lt u) (nT i.size ad)))).kp b)
 refine cl wN (oz ck ai a5 a6 am ⟨_,_,cm,(af.from0 bT),aA,(by omega),(fun an z hz=>nN (nL (rF af an z hz) (nT (z2 m f) ab)))⟩ _ ([0,4,5,6,7,8,1000000,1000001,(-1)]:List Int) ⟨_,_,rfl,(Rd.of_own bS),(by simp),(fun _ z hz=>by have aC:=(nb bS z.block (by rw [hz];rfl)).1;have aD:=nL (Blk.lt u) (z3 i e a);omega)⟩ (by simp)) ?_
 rintro _ bp ⟨y,d,⟨dV,dW,cn,dX,dY,dZ,ea⟩,rfl,co⟩
 have bU:=bT.ext d (fun k hk=>by subst hk;exact nT (z2 m f) ab)
 have q91m:y=0∨y=4∨y=5∨y=6∨y=7∨y=8∨y=1000000∨y=1000001∨y=(-1):=by simpa using co
 refine aw (vi (y)) ?_
 refine nx<|mw (vp ai 0) ?_
 have bB:=((ci.kp b).ch d (Ne.symm (nN (nL (Blk.lt u) (nT i.size ad)))))
 refine lN (oj (s) B C D F G H I J K L M N) wN nj mX bB ?_
 have aE:=fun (E sz n:Nat) (v:Value) (ac:List Value) (o:World.ownsRow bu ae.heap.size E sz v n ac) (r:World.ownsRow bu ae.heap.size E sz v n ac)=>(gc (mz (gc (mz o e) a (ne2 r (ad))) b) d (ne1 r (nL (Blk.lt u) (Nat.le_refl ae.heap.size))))
 have bC:=(aE _ _ _ _ _ P P)
 have bD:=(aE _ _ _ _ _ Q Q)
 have bE:=(aE _ _ _ _ _ R R)
 have bF:=(aE _ _ _ _ _ S S)
 have bG:=(aE _ _ _ _ _ T T)
 have bH:=(aE _ _ _ _ _ V V)
 have aF:=Nat.le_refl ae.heap.size
 refine cl wN (xC bp ai a5 a6 am ⟨_,_,cn,(af.from0 bU),aA,(by omega),(fun an z hz=>nN (nL (rF af an z hz) (nT (z2 m f) ab)))⟩ _ (s) ⟨_,_,_,_,_,_,_,_,_,_,_,_,rfl,(Rd.of_own bC),b4,(fun _ z hz=>by have aC:=(nb P z.block (by rw [hz];rfl)).1;have aD:=nL (Blk.lt u) aF;omega),(Rd.of_own bD),b5,(fun _ z hz=>by have aC:=(nb Q z.block (by rw [hz];rfl)).1;have aD:=nL (Blk.lt u) aF;omega),(Rd.of_own bE),b6,(fun _ z hz=>by have aC:=(nb R z.block (by rw [hz];rfl)).1;have aD:=nL (Blk.lt u) aF;omega),(Rd.of_own bF),b7,(fun _ z hz=>by have aC:=(nb S z.block (by rw [hz];rfl)).1;have aD:=nL (Blk.lt u) aF;omega),(Rd.of_own bG),b8,(fun _ z hz=>by have aC:=(nb T z.block (by rw [hz];rfl)).1;have aD:=nL (Blk.lt u) aF;omega),(Rd.of_own bH),b9,(fun _ z hz=>by have aC:=(nb V z.block (by rw [hz];rfl)).1;have aD:=nL (Blk.lt u) aF;omega)⟩ (by omega)) ?_
 rintro _ bW ⟨a7,l,⟨ec,ed,cp,ee,ef,eg,eh⟩,⟨aG,aH,aI,aJ,aK,aL,aM,aN,aO,aP,aQ,aR,rfl,ap,cq,aq,cr,au,cs,av,cu,ax,cv,ay,cw,Y⟩,ej⟩
 have cy:=bU.ext l (fun k hk=>by subst hk;exact nT (z2 m f) ab)
 refine al vf wN pW ?_
 intro ek em A cz Z c0
 refine sv (oD (a7) aG aH aI aJ aK aL aM aN aO aP aQ aR) wN mZ c0 ?_
 intro c1 X bX en
 have bY:=(cy.extk Z).ext X (fun k hk=>by subst hk;exact nT (z9 m f g i e a b d l) A)
 refine n4<|mw (vp ai 0) ?_
 have c2:=((cp.kp Z).ch X (nN (nL (Blk.lt u) (nT (z6 i e a b d l) A))))
 refine cl wN (pV c1 ai a5 a6 am ⟨_,_,c2,(af.from0 bY),aA,(by omega),(fun an z hz=>nN (nL (rF af an z hz) (nT (z2 m f) ab)))⟩ 12) ?_
 rintro _ bv ⟨c3,W,⟨eo,ep,c4,er,es,et,eu⟩,rfl,ew⟩
 have bI:=bY.ext W (fun k hk=>by subst hk;exact nT (z2 m f) ab)
 refine n2 ?_
 rcases bf c3 with bJ|bJ
 ·refine cf bJ<|nm<|mP<|nh ?_
  have bw:=nL O (nT f.size ab)
  have c5:=(((((((((((bO.kp f).kp g).ch i (nN bw)).kp e).ch a (nN (nL O (nT (z3 f g i) ad)))).kp b).ch d (nN bw)).ch l (nN bw)).kp Z).ch X (nN (nL O (nT (z8 f g i e a b d l) A)))).ch W (nN bw))
  refine ob ([(23,[],[],(fun _ v _=>v=(va (oj (s) B C D F G H I J K L M N)))),(24,[],[],(fun _ v _=>v=(vi (y)))),(25,[],[],(fun _ v _=>v=(va (oD (a7) aG aH aI aJ aK aL aM aN aO aP aQ aR)))),(29,[],[0],(fun _ _ w=>BK w ak 38 0 ((oj (s) B C D F G H I J K L M N)))),(3,[],[0,1,3],(fun _ v _=>v=(vi (y))))]:GV) (fun lf aj=>Ch (fun k=>k=ak) bv aj∧RK lf aj ak 38 tT [(3,0,15)]) [(3,TK ak 38 0 15)] oM rfl (by kernel_rfl) (by kernel_rfl) ?_ (fun _ _ h=>⟨h.to _,RK.z c5 h⟩) (fun _ _ _ _ h mo k=>by obtain ⟨hc,a8⟩:=h;exact ⟨hc.comp k (fun _ _ q=>q.elim),a8.kp mo k⟩) ⟨(fun _ _ w aj h mo hj t=>by obtain ⟨hc,a8⟩:=h;exact ⟨hc.comp t.1 (fun _ _ q=>q),a8.st mo hj (.head _) t⟩),trivial⟩ ?_ ?_ ?_
  ·exact ⟨hV,hE,⟨hV,hE,⟨hV,hE,⟨sK,hE,⟨hV,hE,trivial⟩⟩⟩⟩⟩
  ·exact ⟨⟨.inr hV,⟨.inr hV,⟨.inr hV,⟨.inl rfl,⟨.inr hV,trivial⟩⟩⟩⟩⟩,trivial⟩
  ·refine ⟨?_,⟨?_,⟨?_,⟨?_,⟨?_,trivial⟩⟩⟩⟩⟩
   ·rintro lf ao ⟨c6,ex⟩ ⟨ey,-⟩
    rintro _ _ _ _ _
    refine sw ?_
    have c7:=(((((bB.ch l (Ne.symm (nN (nL (Blk.lt u) (nT i.size ad))))).kp Z).ch X (nN (nL bA (nT (z4 a b d l) A)))).ch W (Ne.symm (nN (nL (Blk.lt u) (nT i.size ad))))).ch c6 (Ne.symm (nN (nL O (nT (z3 f g i) ad)))))
    refine lN (oj (s) B C D F G H I J K L M N) wN nj mX c7 ?_
    exact f1
   ·rintro lf ao ⟨ez,e0⟩ ⟨e1,-⟩
    rintro _ _ _ _ _
    refine sw<|mw (vi (y)) ?_
    exact f1
   ·rintro lf ao ⟨c8,e2⟩ ⟨e3,-⟩
    rintro _ _ _ _ _
    refine sw ?_
    have c9:=((bX.ch W (Ne.symm (nN (nL (Blk.lt u) (nT (z6 i e a b d l) A))))).ch c8 (Ne.symm (nN (nL O (nT (z8 f g i e a b d l) A)))))
    refine lN (oD (a7) aG aH aI aJ aK aL aM aN aO aP aQ aR) wN nk mZ c9 ?_
    exact f1
   ·rintro lf ao ⟨e4,cC⟩ ⟨e5,-⟩
    rintro _ rfl _ _ _ _
    exact sw<|stK (va (oj (s) B C D F G H I J K L M N)) (oj (s) B C D F G H I J K L M N) wN mX cC (fun _ h=>h) (fun _ t=>t)
   ·rintro lf ao ⟨e6,e7⟩ ⟨e8,-⟩
    rintro _ rfl _ rfl _ _ _ _
    refine sw<|aw (vi (y)) ?_
    exact f1
  ·rintro lf ao ⟨bz,cD⟩
   have cE:=bI.ext bz (fun k hk=>by subst hk;exact bN)
   rintro _ rfl _ rfl _ rfl _ cF _ rfl
   have cG:Blk ao ak 38 (oj (s) B C D F G H I J K L M N):=RK.fin cD [(0,(oj (s) B C D F G H I J K L M N))] ⟨cF,trivial⟩
   refine sw ?_
   have b0:=nL ah (ab)
   have cH:=(((((((((((bP.kp g).ch i (nN b0)).kp e).ch a (nN (nL ah (nT (z2 g i) ad)))).kp b).ch d (nN b0)).ch l (nN b0)).kp Z).ch X (nN (nL ah (nT (z7 g i e a b d l) A)))).ch W (nN b0)).ch bz (Ne.symm (nN (nL O (aB)))))
   refine sv (oD (a7) aG aH aI aJ aK aL aM aN aO aP aQ aR) wN mZ cH ?_
   intro bZ b1 cI e9
   have cJ:=cE.ext b1 (fun k hk=>by subst hk;exact nT m.size aB)
   refine n3 ?_
   have cK:=(cG.ch b1 (nN (nL O (aB))))
   have aS:=fun (E sz n:Nat) (v:Value) (ac:List Value) (o:World.ownsRow bp ae.heap.size E sz v n ac) (r:World.ownsRow bu ae.heap.size E sz v n ac)=>(gc (gc (gc (gc (mz (gc o l (ne1 r (nL (Blk.lt u) (Nat.le_refl ae.heap.size)))) Z) X (ne2 r (nT (z5 e a b d l) A))) W (ne1 r (nL (Blk.lt u) (Nat.le_refl ae.heap.size)))) bz (ne1 r (nL O (z2 f g)))) b1 (ne1 r (nL ah g.size)))
   have cL:=(aS _ _ _ _ _ bC P)
   have cM:=(aS _ _ _ _ _ bD Q)
   have cN:=(aS _ _ _ _ _ bE R)
   have cO:=(aS _ _ _ _ _ bF S)
   have cP:=(aS _ _ _ _ _ bG T)
   have cQ:=(aS _ _ _ _ _ bH V)
   have aT:=fun (E sz n:Nat) (v:Value) (ac:List Value) (o:World.ownsRow bW bp.heap.size E sz v n ac) (r:World.ownsRow bW bp.heap.size E sz v n ac)=>(gc (gc (gc (gc (mz o Z) X (ne2 r (A))) W (ne1 r (nL (Blk.lt u) (z5 i e a b d)))) bz (ne1 r (nL O (z7 f g i e a b d)))) b1 (ne1 r (nL ah (z6 g i e a b d))))
   have cR:=(aT _ _ _ _ _ ap ap)
   have cS:=(aT _ _ _ _ _ aq aq)
   have cT:=(aT _ _ _ _ _ au au)
   have cU:=(aT _ _ _ _ _ av av)
   have cV:=(aT _ _ _ _ _ ax ax)
   have cW:=(aT _ _ _ _ _ ay ay)
   refine vw (.inl rfl) (va (oj (s) B C D F G H I J K L M N)) (vi (y)) (va (oD (a7) aG aH aI aJ aK aL aM aN aO aP aQ aR)) rfl (AZ (oj (s) B C D F G H I J K L M N) rfl cK nj mX) rfl (AZ (oD (a7) aG aH aI aJ aK aL aM aN aO aP aQ aR) rfl cI nk mZ) ?_
   have aU:=z8 m f g i e a b d
   exact ⟨((s),(y),(a7)),cJ.keep0,⟨_,_,_,_,_,_,_,_,_,_,_,_,_,_,_,_,_,_,_,_,_,_,_,_,rfl,(mO cL (z3 m f g)),b4,(mO cM (z3 m f g)),b5,(mO cN (z3 m f g)),b6,(mO cO (z3 m f g)),b7,(mO cP (z3 m f g)),b8,(mO cQ (z3 m f g)),b9,(mO cR aU),cq,(mO cS aU),cr,(mO cT aU),cs,(mO cU aU),cu,(mO cV aU),cv,(mO cW aU),cw,⟨⟨(p.1.1),⟨(p.1.2.1),⟨(p.1.2.2.1),⟨(p.1.2.2.2.1),⟨(p.1.2.2.2.2.1),⟨(Ap.lt P ap (z4 e a b d)),⟨(Ap.lt P aq (z4 e a b d)),⟨(Ap.lt P au (z4 e a b d)),⟨(Ap.lt P av (z4 e a b d)),⟨(Ap.lt P ax (z4 e a b d)),⟨(Ap.lt P ay (z4 e a b d)),trivial⟩⟩⟩⟩⟩⟩⟩⟩⟩⟩⟩,⟨⟨(p.2.1.1),⟨(p.2.1.2.1),⟨(p.2.1.2.2.1),⟨(p.2.1.2.2.2.1),⟨(Ap.lt Q ap (z4 e a b d)),⟨(Ap.lt Q aq (z4 e a b d)),⟨(Ap.lt Q au (z4 e a b d)),⟨(Ap.lt Q av (z4 e a b d)),⟨(Ap.lt Q ax (z4 e a b d)),⟨(Ap.lt Q ay (z4 e a b d)),trivial⟩⟩⟩⟩⟩⟩⟩⟩⟩⟩,⟨⟨(p.2.2.1.1),⟨(p.2.2.1.2.1),⟨(p.2.2.1.2.2.1),⟨(Ap.lt R ap (z4 e a b d)),⟨(Ap.lt R aq (z4 e a b d)),⟨(Ap.lt R au (z4 e a b d)),⟨(Ap.lt R av (z4 e a b d)),⟨(Ap.lt R ax (z4 e a b d)),⟨(Ap.lt R ay (z4 e a b d)),trivial⟩⟩⟩⟩⟩⟩⟩⟩⟩,⟨⟨(p.2.2.2.1.1),⟨(p.2.2.2.1.2.1),⟨(Ap.lt S ap (z4 e a b d)),⟨(Ap.lt S aq (z4 e a b d)),⟨(Ap.lt S au (z4 e a b d)),⟨(Ap.lt S av (z4 e a b d)),⟨(Ap.lt S ax (z4 e a b d)),⟨(Ap.lt S ay (z4 e a b d)),trivial⟩⟩⟩⟩⟩⟩⟩⟩,⟨⟨(p.2.2.2.2.1.1),⟨(Ap.lt T ap (z4 e a b d)),⟨(Ap.lt T aq (z4 e a b d)),⟨(Ap.lt T au (z4 e a b d)),⟨(Ap.lt T av (z4 e a b d)),⟨(Ap.lt T ax (z4 e a b d)),⟨(Ap.lt T ay (z4 e a b d)),trivial⟩⟩⟩⟩⟩⟩⟩,⟨⟨(Ap.lt V ap (z4 e a b d)),⟨(Ap.lt V aq (z4 e a b d)),⟨(Ap.lt V au (z4 e a b d)),⟨(Ap.lt V av (z4 e a b d)),⟨(Ap.lt V ax (z4 e a b d)),⟨(Ap.lt V ay (z4 e a b d)),trivial⟩⟩⟩⟩⟩⟩,⟨⟨(Y.1.1),⟨(Y.1.2.1),⟨(Y.1.2.2.1),⟨(Y.1.2.2.2.1),⟨(Y.1.2.2.2.2.1),trivial⟩⟩⟩⟩⟩,⟨⟨(Y.2.1.1),⟨(Y.2.1.2.1),⟨(Y.2.1.2.2.1),⟨(Y.2.1.2.2.2.1),trivial⟩⟩⟩⟩,⟨⟨(Y.2.2.1.1),⟨(Y.2.2.1.2.1),⟨(Y.2.2.1.2.2.1),trivial⟩⟩⟩,⟨⟨(Y.2.2.2.1.1),⟨(Y.2.2.2.1.2.1),trivial⟩⟩,⟨⟨(Y.2.2.2.2.1.1),trivial⟩,⟨trivial,trivial⟩⟩⟩⟩⟩⟩⟩⟩⟩⟩⟩⟩⟩,trivial⟩
 refine ct bJ<|mV ?_
 refine mw (vp ai 0) ?_
 refine cl wN (Bm bv ai a5 a6 am ⟨_,_,c4,(af.from0 bI),aA,(by omega),(fun an z hz=>nN (nL (rF af an z hz) (nT (z2 m f) ab)))⟩) ?_
 rintro _ ao ⟨a9,aV,⟨eA,eB,eC,eD,eE,eF,eG⟩,⟨aW,aX,aY,aZ,ba,bb,bc,bd,be,bg,bh,bi,rfl,az,cX,a0,cY,a1,cZ,a2,da,a3,db,a4,dc,aa⟩,eH⟩
 have dd:=bI.ext aV (fun k hk=>by subst hk;exact nT (z2 m f) ab)
 have de:=((bX.ch W (Ne.symm (nN (nL (Blk.lt u) (nT (z6 i e a b d l) A))))).ch aV (Ne.symm (nN (nL (Blk.lt u) (nT (z6 i e a b d l) A)))))
 refine sv (oD (a9) aW aX aY aZ ba bb bc bd be bg bh bi) wN mZ de ?_
 intro bZ bj df eI
 have dg:=dd.ext bj (fun k hk=>by subst hk;exact nT (z9 m f g i e a b d l) A)
 refine mW<|mP<|nh ?_
 have bq:=nL O (nT f.size ab)
 have dh:=(((((((((((((bO.kp f).kp g).ch i (nN bq)).kp e).ch a (nN (nL O (nT (z3 f g i) ad)))).kp b).ch d (nN bq)).ch l (nN bq)).kp Z).ch X (nN (nL O (nT (z8 f g i e a b d l) A)))).ch W (nN bq)).ch aV (nN bq)).ch bj (nN (nL O (nT (z8 f g i e a b d l) A))))
 refine ob ([(23,[],[],(fun _ v _=>v=(va (oj (s) B C D F G H I J K L M N)))),(24,[],[],(fun _ v _=>v=(vi (y)))),(25,[],[],(fun _ v _=>v=(va (oD (a9) aW aX aY aZ ba bb bc bd be bg bh bi)))),(29,[],[0],(fun _ _ w=>BK w ak 38 0 ((oj (s) B C D F G H I J K L M N)))),(3,[],[0,1,3],(fun _ v _=>v=(vi (y))))]:GV) (fun lf aj=>Ch (fun k=>k=ak) bZ aj∧RK lf aj ak 38 tT [(3,0,15)]) [(3,TK ak 38 0 15)] oM rfl (by kernel_rfl) (by kernel_rfl) ?_ (fun _ _ h=>⟨h.to _,RK.z dh h⟩) (fun _ _ _ _ h mo k=>by obtain ⟨hc,a8⟩:=h;exact ⟨hc.comp k (fun _ _ q=>q.elim),a8.kp mo k⟩) ⟨(fun _ _ w aj h mo hj t=>by obtain ⟨hc,a8⟩:=h;exact ⟨hc.comp t.1 (fun _ _ q=>q),a8.st mo hj (.head _) t⟩),trivial⟩ ?_ ?_ ?_
 ·exact ⟨hV,hE,⟨hV,hE,⟨hV,hE,⟨sK,hE,⟨hV,hE,trivial⟩⟩⟩⟩⟩
 ·exact ⟨⟨.inr hV,⟨.inr hV,⟨.inr hV,⟨.inl rfl,⟨.inr hV,trivial⟩⟩⟩⟩⟩,trivial⟩
 ·refine ⟨?_,⟨?_,⟨?_,⟨?_,⟨?_,trivial⟩⟩⟩⟩⟩
  ·rintro lf bk ⟨di,eJ⟩ ⟨eK,-⟩
   rintro _ _ _ _ _
   refine sw ?_
   have bK:=nL (Blk.lt u) (nT i.size ad)
   have dj:=(((((((bB.ch l (Ne.symm (nN bK))).kp Z).ch X (nN (nL bA (nT (z4 a b d l) A)))).ch W (Ne.symm (nN bK))).ch aV (Ne.symm (nN bK))).ch bj (nN (nL bA (nT (z4 a b d l) A)))).ch di (Ne.symm (nN (nL O (nT (z3 f g i) ad)))))
   refine lN (oj (s) B C D F G H I J K L M N) wN nj mX dj ?_
   exact f1
  ·rintro lf bk ⟨eL,eM⟩ ⟨eN,-⟩
   rintro _ _ _ _ _
   refine sw<|mw (vi (y)) ?_
   exact f1
  ·rintro lf bk ⟨dk,eO⟩ ⟨eP,-⟩
   rintro _ _ _ _ _
   refine sw ?_
   have dl:=(df.ch dk (Ne.symm (nN (nL O (nT (z8 f g i e a b d l) A)))))
   refine lN (oD (a9) aW aX aY aZ ba bb bc bd be bg bh bi) wN nk mZ dl ?_
   exact f1
  ·rintro lf bk ⟨eQ,dm⟩ ⟨eR,-⟩
   rintro _ rfl _ _ _ _
   exact sw<|stK (va (oj (s) B C D F G H I J K L M N)) (oj (s) B C D F G H I J K L M N) wN mX dm (fun _ h=>h) (fun _ t=>t)
  ·rintro lf bk ⟨eS,eT⟩ ⟨eU,-⟩
   rintro _ rfl _ rfl _ _ _ _
   refine sw<|aw (vi (y)) ?_
   exact f1
 ·rintro lf bk ⟨b2,dn⟩
  have dp:=dg.ext b2 (fun k hk=>by subst hk;exact bN)
  rintro _ rfl _ rfl _ rfl _ dq _ rfl
  have dr:Blk bk ak 38 (oj (s) B C D F G H I J K L M N):=RK.fin dn [(0,(oj (s) B C D F G H I J K L M N))] ⟨dq,trivial⟩
  refine sw ?_
  have br:=nL ah (ab)
  have ds:=(((((((((((((bP.kp g).ch i (nN br)).kp e).ch a (nN (nL ah (nT (z2 g i) ad)))).kp b).ch d (nN br)).ch l (nN br)).kp Z).ch X (nN (nL ah (nT (z7 g i e a b d l) A)))).ch W (nN br)).ch aV (nN br)).ch bj (nN (nL ah (nT (z7 g i e a b d l) A)))).ch b2 (Ne.symm (nN (nL O (aB)))))
  refine sv (oD (a9) aW aX aY aZ ba bb bc bd be bg bh bi) wN mZ ds ?_
  intro eV b3 dt eW
  have du:=dp.ext b3 (fun k hk=>by subst hk;exact nT m.size aB)
  refine n3 ?_
  have dv:=(dr.ch b3 (nN (nL O (aB))))
  have bL:=nL (Blk.lt u) (Nat.le_refl ae.heap.size)
  have bl:=fun (E sz n:Nat) (v:Value) (ac:List Value) (o:World.ownsRow bp ae.heap.size E sz v n ac) (r:World.ownsRow bu ae.heap.size E sz v n ac)=>(gc (gc (gc (gc (gc (gc (mz (gc o l (ne1 r bL)) Z) X (ne2 r (nT (z5 e a b d l) A))) W (ne1 r bL)) aV (ne1 r bL)) bj (ne2 r (nT (z5 e a b d l) A))) b2 (ne1 r (nL O (z2 f g)))) b3 (ne1 r (nL ah g.size)))
  have dw:=(bl _ _ _ _ _ bC P)
  have dx:=(bl _ _ _ _ _ bD Q)
  have dy:=(bl _ _ _ _ _ bE R)
  have dz:=(bl _ _ _ _ _ bF S)
  have d0:=(bl _ _ _ _ _ bG T)
  have d1:=(bl _ _ _ _ _ bH V)
  have bm:=fun (E sz n:Nat) (v:Value) (ac:List Value) (o:World.ownsRow ao bv.heap.size E sz v n ac) (r:World.ownsRow ao bv.heap.size E sz v n ac)=>(gc (gc (gc o bj (ne1 r (nL cz (z2 X W)))) b2 (ne1 r (nL O (z11 f g i e a b d l Z X W)))) b3 (ne1 r (nL ah (z10 g i e a b d l Z X W))))
  have d2:=(bm _ _ _ _ _ az az)
  have d3:=(bm _ _ _ _ _ a0 a0)
  have d4:=(bm _ _ _ _ _ a1 a1)
  have d5:=(bm _ _ _ _ _ a2 a2)
  have d6:=(bm _ _ _ _ _ a3 a3)
  have d7:=(bm _ _ _ _ _ a4 a4)
  refine vw (.inl rfl) (va (oj (s) B C D F G H I J K L M N)) (vi (y)) (va (oD (a9) aW aX aY aZ ba bb bc bd be bg bh bi)) rfl (AZ (oj (s) B C D F G H I J K L M N) rfl dv nj mX) rfl (AZ (oD (a9) aW aX aY aZ ba bb bc bd be bg bh bi) rfl dt nk mZ) ?_
  have bn:=z12 m f g i e a b d l Z X W
  have j:=z8 e a b d l Z X W
  exact ⟨((s),(y),(a9)),du.keep0,⟨_,_,_,_,_,_,_,_,_,_,_,_,_,_,_,_,_,_,_,_,_,_,_,_,rfl,(mO dw (z3 m f g)),b4,(mO dx (z3 m f g)),b5,(mO dy (z3 m f g)),b6,(mO dz (z3 m f g)),b7,(mO d0 (z3 m f g)),b8,(mO d1 (z3 m f g)),b9,(mO d2 bn),cX,(mO d3 bn),cY,(mO d4 bn),cZ,(mO d5 bn),da,(mO d6 bn),db,(mO d7 bn),dc,⟨⟨(p.1.1),⟨(p.1.2.1),⟨(p.1.2.2.1),⟨(p.1.2.2.2.1),⟨(p.1.2.2.2.2.1),⟨(Ap.lt P az j),⟨(Ap.lt P a0 j),⟨(Ap.lt P a1 j),⟨(Ap.lt P a2 j),⟨(Ap.lt P a3 j),⟨(Ap.lt P a4 j),trivial⟩⟩⟩⟩⟩⟩⟩⟩⟩⟩⟩,⟨⟨(p.2.1.1),⟨(p.2.1.2.1),⟨(p.2.1.2.2.1),⟨(p.2.1.2.2.2.1),⟨(Ap.lt Q az j),⟨(Ap.lt Q a0 j),⟨(Ap.lt Q a1 j),⟨(Ap.lt Q a2 j),⟨(Ap.lt Q a3 j),⟨(Ap.lt Q a4 j),trivial⟩⟩⟩⟩⟩⟩⟩⟩⟩⟩,⟨⟨(p.2.2.1.1),⟨(p.2.2.1.2.1),⟨(p.2.2.1.2.2.1),⟨(Ap.lt R az j),⟨(Ap.lt R a0 j),⟨(Ap.lt R a1 j),⟨(Ap.lt R a2 j),⟨(Ap.lt R a3 j),⟨(Ap.lt R a4 j),trivial⟩⟩⟩⟩⟩⟩⟩⟩⟩,⟨⟨(p.2.2.2.1.1),⟨(p.2.2.2.1.2.1),⟨(Ap.lt S az j),⟨(Ap.lt S a0 j),⟨(Ap.lt S a1 j),⟨(Ap.lt S a2 j),⟨(Ap.lt S a3 j),⟨(Ap.lt S a4 j),trivial⟩⟩⟩⟩⟩⟩⟩⟩,⟨⟨(p.2.2.2.2.1.1),⟨(Ap.lt T az j),⟨(Ap.lt T a0 j),⟨(Ap.lt T a1 j),⟨(Ap.lt T a2 j),⟨(Ap.lt T a3 j),⟨(Ap.lt T a4 j),trivial⟩⟩⟩⟩⟩⟩⟩,⟨⟨(Ap.lt V az j),⟨(Ap.lt V a0 j),⟨(Ap.lt V a1 j),⟨(Ap.lt V a2 j),⟨(Ap.lt V a3 j),⟨(Ap.lt V a4 j),trivial⟩⟩⟩⟩⟩⟩,⟨⟨(aa.1.1),⟨(aa.1.2.1),⟨(aa.1.2.2.1),⟨(aa.1.2.2.2.1),⟨(aa.1.2.2.2.2.1),trivial⟩⟩⟩⟩⟩,⟨⟨(aa.2.1.1),⟨(aa.2.1.2.1),⟨(aa.2.1.2.2.1),⟨(aa.2.1.2.2.2.1),trivial⟩⟩⟩⟩,⟨⟨(aa.2.2.1.1),⟨(aa.2.2.1.2.1),⟨(aa.2.2.1.2.2.1),trivial⟩⟩⟩,⟨⟨(aa.2.2.2.1.1),⟨(aa.2.2.2.1.2.1),trivial⟩⟩,⟨⟨(aa.2.2.2.2.1.1),trivial⟩,⟨trivial,trivial⟩⟩⟩⟩⟩⟩⟩⟩⟩⟩⟩⟩⟩,trivial⟩

def Bf (a:List UInt8):(List UInt8):=a
theorem rA (b:World) (d:Value) (a:List UInt8) (l:pI b d a) :Fn Tryz.prog 78 #[d] b (fun v e=>Keep b e∧rr e b.heap.size v (a)):=by
 obtain ⟨f,g,rfl,m,o⟩:=l
 refine nu (n:=6) [(vs f a.length g)] Tryz.func78 rfl rfl ?_
 refine sr<|aw (vs none 0 0) ?_
 refine nx<|nF wN rfl rfl mR (fun w=>by kernel_rfl) ?_
 intro u x h p
 have i:=(Ch.base b).extk h
 refine mw (vs f a.length g) ?_
 refine ap0 a wN mR p (m.from0 i) h.size ?_
 intro j k y q r A
 have s:=i.extk q
 refine aw (vs j a.length k) ?_
 refine n3<|rt (vs j a.length k) ?_
 refine ⟨s.keep0,?_⟩
 have t:a=a:=by rfl
 rw [t]
 exact ⟨_,_,rfl,r,o,⟨trivial,trivial⟩⟩

theorem vS (f:World) (u:Value) (a:PWin) (G:xP f u a) :Fn Tryz.prog 115 #[u] f (fun v g=>Keep f g∧BD g f.heap.size v (a)):=by
 obtain ⟨b,i,rfl,H,I⟩:=G
 refine nu (n:=10) [(va (pn a b i))] Tryz.func115 rfl rfl ?_
 refine sr<|bx (pn a b i) wN ?_
 intro j x ah ai p y
 refine al [(vi 0),(vs none 0 0)] wN pX ?_
 intro aj q J K l L
 have A:=((Ch.base f).extk p).extk l
 refine mW<|mP<|nh<|ob ([(3,[],[],(fun _ v _=>v=(vp j 0))),(4,[],[0],(fun _ v _=>v=(vi a.Top))),(5,[],[],(fun _ v w=>∃ a0:Addr,v=.slice (some a0) 0 0∧w.ownsRow q.heap.size 3 1 (.slice (some a0) 0 0) 0 [])),(6,[],[],(fun _ v _=>v=(vp j 1))),(7,[],[3],(fun _ v _=>v=(vs b a.Bits.length i))),(8,[],[2,3,4],(fun _ v w=>∃ (b:Option Addr) (r:Nat),v=.slice b a.Bits.length r∧w.ownsRow q.heap.size 3 1 (.slice b a.Bits.length r) a.Bits.length (a.Bits.map iV)∧a.Bits.length≤1073741824∧Aps [(b,r)]))]:GV) (fun _ g=>Keep q g) [] oM rfl (by kernel_rfl) (by kernel_rfl) ?_ (fun _ _ h=>h) (fun _ _ _ _ h _ k=>h.trans k) trivial ?_ ?_ ?_
 ·exact ⟨hV,hE,⟨hV,hE,⟨(fun e v w x h hk=>by obtain ⟨s,he,t⟩:=h;exact ⟨s,he,mz t hk⟩),hE,⟨hV,hE,⟨hV,hE,⟨(fun e v w x h hk=>by obtain ⟨s,M,he,t,N,hap⟩:=h;exact ⟨s,M,he,mz t hk,N,hap⟩),hE,trivial⟩⟩⟩⟩⟩⟩
 ·exact trivial
 ·refine ⟨?_,⟨?_,⟨?_,⟨?_,⟨?_,⟨?_,trivial⟩⟩⟩⟩⟩⟩
  ·intro _ d ak _
   rintro _ _ _ _ _ _
   refine sw<|pu (vp j 0) wN ?_
   exact f1
  ·intro _ d O _
   rintro _ rfl _ _ _ _ _
   refine sw ?_
   have P:=((y.kp l).kp O)
   refine ld (vi a.Top) wN mT P ?_
   exact f1
  ·intro _ d Q _
   rintro _ _ _ _ _ _
   refine sw<|nF wN rfl rfl nf (fun w=>by kernel_rfl) ?_
   intro am B R S
   exact nK R ⟨_,rfl,mO S Q.size⟩
  ·intro _ d an _
   rintro _ _ _ _ _ _
   refine sw<|pu (vp j 1) wN ?_
   exact f1
  ·intro _ d T _
   rintro _ _ _ _ rfl _ _
   refine sw ?_
   have V:=((y.kp l).kp T)
   refine ld (vs b a.Bits.length i) wN oA V ?_
   exact f1
  ·intro _ d C _
   have W:=A.extk C
   rintro _ _ _ ⟨ao,rfl,X⟩ _ rfl _ rfl _
   refine sw<|Bz a.Bits wN nf X (H.from0 W) C.size ?_
   intro ap aq B Y Z au
   exact nK Y ⟨_,_,rfl,Z,I,⟨trivial,trivial⟩⟩
 ·intro _ d D
  rintro _ rfl _ rfl _ ⟨av,rfl,ax⟩ _ rfl _ rfl _ ⟨m,o,rfl,E,aa,-⟩
  refine sw<|pu (va (pn a m o)) wN ?_
  have ab:=(L.kp D)
  refine sv (pn a m o) wN ni ab ?_
  intro B F ac ay
  have ad:=(A.extk D).ext F (fun k hk=>by subst hk;exact nT p.size J)
  refine n3 ?_
  have ae:=(gc E F (ne1 E (K)))
  refine rc (pn a m o) ac nJ ni ?_
  refine ⟨ad.keep0,?_⟩
  have af:a=a:=by rfl
  rw [af]
  exact ⟨_,_,rfl,(mO ae (z2 p l)),aa,⟨trivial,trivial⟩⟩

def CH (w:World) (lo:Nat) (v:Value) (x:(PWin)) (k:Option Addr×Nat→Prop):Prop:=∃ (a:Option Addr) (b:Nat),v=.agg #[.int .i64 x.Top,.slice a x.Bits.length b]∧w.ownsRow lo 3 1 (.slice a x.Bits.length b) x.Bits.length (x.Bits.map iV)∧x.Bits.length≤1073741824∧Aps [(a,b)]∧k (a,b)
theorem uW (g:World) (F:Value) (a:PEp) (Q:xn g F a) :Fn Tryz.prog 79 #[F] g (fun v i=>Keep g i∧Ar i g.heap.size v (a)):=by
 obtain ⟨j,l,m,o,rfl,R,S,T,V⟩:=Q
 refine nu (n:=14) [(va (oi a j l m o))] Tryz.func79 rfl rfl ?_
 refine sr<|bx (oi a j l m o) wN ?_
 intro d G a7 a8 p q
 refine al se wN pm ?_
 intro a9 x W H f X
 have y:=((Ch.base g).extk p).extk f
 refine mW<|mP<|nh<|ob ([(3,[],[],(fun _ v _=>v=(vp d 0))),(4,[],[0],(fun _ v _=>v=(vi a.N))),(5,[],[],(fun _ v _=>v=(vp d 1))),(6,[],[2],(fun _ v _=>v=(vs j a.Key.length l))),(7,[],[2,3],(fun _ v w=>rr w x.heap.size v a.Key)),(8,[],[],(fun _ v _=>v=(vp d 2))),(9,[],[5],(fun _ v _=>v=(vi a.Seq))),(10,[],[],(fun _ v _=>v=(vp d 3))),(11,[],[7],(fun _ v _=>v=(va (pn a.Win m o)))),(12,[7],[2,3,4,7,8],(fun e v w=>CH w x.heap.size v a.Win (fun Y=>Ap (sp (e 7)) Y)))]:GV) (fun _ i=>Keep x i) [] oM rfl (by kernel_rfl) (by kernel_rfl) ?_ (fun _ _ h=>h) (fun _ _ _ _ h _ k=>h.trans k) trivial ?_ ?_ ?_
 ·exact ⟨hV,hE,⟨hV,hE,⟨hV,hE,⟨hV,hE,⟨(fun e v w G h hk=>by obtain ⟨A,B,he,C,D,hap⟩:=h;exact ⟨A,B,he,mz C hk,D,hap⟩),hE,⟨hV,hE,⟨hV,hE,⟨hV,hE,⟨hV,hE,⟨(fun e v w G h hk=>by obtain ⟨A,B,he,C,D,hap,hx⟩:=h;exact ⟨A,B,he,mz C hk,D,hap,hx⟩),(fun aA aB v w hx h=>by have Z:=hx 7 (by simp);simp only [Z] at h;exact h),trivial⟩⟩⟩⟩⟩⟩⟩⟩⟩⟩
 ·exact trivial
 ·refine ⟨?_,⟨?_,⟨?_,⟨?_,⟨?_,⟨?_,⟨?_,⟨?_,⟨?_,⟨?_,trivial⟩⟩⟩⟩⟩⟩⟩⟩⟩⟩
  ·intro _ b aC _
   rintro _ _ _ _ _ _ _ _ _ _
   refine sw<|pu (vp d 0) wN ?_
   exact f1
  ·intro _ b aa _
   rintro _ rfl _ _ _ _ _ _ _ _ _
   refine sw ?_
   have ab:=((q.kp f).kp aa)
   refine ld (vi a.N) wN mT ab ?_
   exact f1
  ·intro _ b aD _
   rintro _ _ _ _ _ _ _ _ _ _
   refine sw<|pu (vp d 1) wN ?_
   exact f1
  ·intro _ b ac _
   rintro _ _ _ rfl _ _ _ _ _ _ _
   refine sw ?_
   have ad:=((q.kp f).kp ac)
   refine ld (vs j a.Key.length l) wN nd ad ?_
   exact f1
  ·intro _ b I _
   have ae:=y.extk I
   rintro _ _ _ rfl _ rfl _ _ _ _ _ _
   refine sw<|cl wN (rA b _ a.Key (nH (R.from0 ae) S)) ?_
   rintro _ J ⟨af,⟨aE,aF,rfl,ah,ai,aj⟩⟩
   exact nK af ⟨_,_,rfl,(mO ah I.size),ai,aj⟩
  ·intro _ b aG _
   rintro _ _ _ _ _ _ _ _ _ _
   refine sw<|pu (vp d 2) wN ?_
   exact f1
  ·intro _ b ak _
   rintro _ _ _ _ _ _ rfl _ _ _ _
   refine sw ?_
   have am:=((q.kp f).kp ak)
   refine ld (vi a.Seq) wN mT am ?_
   exact f1
  ·intro _ b aH _
   rintro _ _ _ _ _ _ _ _ _ _
   refine sw<|pu (vp d 3) wN ?_
   exact f1
  ·intro _ b an _
   rintro _ _ _ _ _ _ _ _ rfl _ _
   refine sw ?_
   have ao:=((q.kp f).kp an)
   refine lN (pn a.Win m o) wN nJ ni ao ?_
   exact f1
  ·intro _ b K _
   have ap:=y.extk K
   rintro _ _ _ rfl _ rfl _ ⟨aI,aJ,rfl,aq,_⟩ _ _ _ rfl _ rfl _
   refine sw<|cl wN (vS b _ a.Win (qX (T.from0 ap) V)) ?_
   rintro _ J ⟨au,⟨aK,aL,rfl,L,av,ax⟩⟩
   exact nK au ⟨_,_,rfl,(mO L K.size),av,ax,(Ap.lt aq L (Nat.le_refl _))⟩
 ·intro _ b M
  rintro _ rfl _ rfl _ rfl _ rfl _ ⟨r,s,rfl,O,ay,aM⟩ _ rfl _ rfl _ rfl _ rfl _ ⟨t,u,rfl,P,az,aN,a0⟩
  refine sw<|pu (va (oi a r s t u)) wN ?_
  have a1:=(X.kp M)
  refine sv (oi a r s t u) wN mY a1 ?_
  intro J E a2 aO
  have a3:=(y.extk M).ext E (fun k hk=>by subst hk;exact nT p.size W)
  refine n3 ?_
  have a4:=(gc O E (ne1 O (H)))
  have a5:=(gc P E (ne1 P (H)))
  refine rc (oi a r s t u) a2 nv mY ?_
  refine ⟨a3.keep0,?_⟩
  have a6:a=a:=by rfl
  rw [a6]
  exact ⟨_,_,_,_,rfl,(mO a4 (z2 p f)),ay,(mO a5 (z2 p f)),az,⟨⟨a0,trivial⟩,⟨trivial,trivial⟩⟩⟩

def As (w:World) (lo:Nat) (v:Value) (x:(List UInt8)) (k:Option Addr×Nat→Prop):Prop:=∃ (a:Option Addr) (b:Nat),v=.slice a x.length b∧w.ownsRow lo 5 1 (.slice a x.length b) x.length (x.map bV)∧x.length≤1073741824∧Aps [(a,b)]∧k (a,b)
theorem qs {w:World} {x:PEp} {a:Option Addr} {b:Nat} {d:Option Addr} {e:Nat} (f:Rd w 1 (.slice a x.Key.length b) x.Key.length (x.Key.map bV)) (g:x.Key.length≤1073741824) (h:Rd w 1 (.slice d x.Win.Bits.length e) x.Win.Bits.length (x.Win.Bits.map iV)) (i:x.Win.Bits.length≤1073741824):xn w (va (oi x a b d e)) x:=⟨_,_,_,_,rfl,f,g,h,i⟩
def BE (w:World) (lo:Nat) (v:Value) (x:(PEp)) (k:Option Addr×Nat→Option Addr×Nat→Prop):Prop:=∃ (a:Option Addr) (b:Nat) (d:Option Addr) (e:Nat),v=.agg #[.int .i64 x.N,.slice a x.Key.length b,.int .i64 x.Seq,.int .i64 x.Win.Top,.slice d x.Win.Bits.length e]∧w.ownsRow lo 5 1 (.slice a x.Key.length b) x.Key.length (x.Key.map bV)∧x.Key.length≤1073741824∧w.ownsRow lo 3 1 (.slice d x.Win.Bits.length e) x.Win.Bits.length (x.Win.Bits.map iV)∧x.Win.Bits.length≤1073741824∧Aps [(a,b),(d,e)]∧k (a,b) (d,e)
theorem xK (S:World) (aC:Value) (a:PChan) (aR:zx S aC a) :Fn Tryz.prog 41 #[aC] S (fun v aD=>Keep S aD∧CF aD S.heap.size v (a)):=by
 obtain ⟨ab,ac,O,P,Q,R,A,B,C,D,T,V,rfl,aS,aT,aU,aV,aW,aX,aY,aZ,ba,bb,bc,bd⟩:=aR
 refine nu (n:=20) [(va (oj a ab ac O P Q R A B C D T V))] Tryz.func41 rfl rfl ?_
 refine sr<|bx (oj a ab ac O P Q R A B C D T V) wN ?_
 intro f ad ae W X ay
 refine al tT wN pJ ?_
 intro ck aE aF az g be
 have a0:=((Ch.base S).extk X).extk g
 refine mW<|mP<|nh<|qB ([(3,[],[],(fun _ v _=>v=(vp f 1))),(4,[],[0],(fun _ v _=>v=(vs ab a.Sn.length ac))),(5,[],[0,1],(fun _ v w=>rr w aE.heap.size v a.Sn)),(6,[],[],(fun _ v _=>v=(vp f 14))),(7,[],[3],(fun _ v _=>v=(vs T a.Next.length V))),(8,[5],[0,1,2,3,4],(fun e v w=>As w aE.heap.size v a.Next (fun af=>Ap (sp (e 5)) af))),(9,[],[0,1,2,3,4],(fun _ v _=>v=(vp f 1)))]:GV) oM rfl (by kernel_rfl) (by kernel_rfl) ?_ ?_ ?_
 ·exact ⟨hV,hE,⟨hV,hE,⟨(fun e v w ad h hk=>by obtain ⟨F,G,he,H,I,hap⟩:=h;exact ⟨F,G,he,mz H hk,I,hap⟩),hE,⟨hV,hE,⟨hV,hE,⟨(fun e v w ad h hk=>by obtain ⟨F,G,he,H,I,hap,hx⟩:=h;exact ⟨F,G,he,mz H hk,I,hap,hx⟩),(fun bg bh v w hx h=>by have bi:=hx 5 (by simp);simp only [bi] at h;exact h),⟨hV,hE,trivial⟩⟩⟩⟩⟩⟩⟩
 ·refine ⟨?_,⟨?_,⟨?_,⟨?_,⟨?_,⟨?_,⟨?_,trivial⟩⟩⟩⟩⟩⟩⟩
  ·intro q cm
   rintro _ _ _ _ _ _ _
   refine sw<|pu (vp f 1) wN ?_
   exact f2
  ·intro q bj
   rintro _ rfl _ _ _ _ _ _
   refine sw ?_
   have bk:=((ay.kp g).kp bj)
   refine ld (vs ab a.Sn.length ac) wN nd bk ?_
   exact f2
  ·intro q aG
   have bl:=a0.extk aG
   rintro _ rfl _ rfl _ _ _ _ _
   refine sw<|cl wN (rA q _ a.Sn (nH (aS.from0 bl) aT)) ?_
   rintro _ aH ⟨bm,⟨cn,co,rfl,bn,bo,bp⟩⟩
   exact rB bm ⟨_,_,rfl,(mO bn aG.size),bo,bp⟩
  ·intro q cp
   rintro _ _ _ _ _ _ _
   refine sw<|pu (vp f 14) wN ?_
   exact f2
  ·intro q bq
   rintro _ _ _ _ rfl _ _ _
   refine sw ?_
   have br:=((ay.kp g).kp bq)
   refine ld (vs T a.Next.length V) wN nd br ?_
   exact f2
  ·intro q aI
   have bu:=a0.extk aI
   rintro _ rfl _ rfl _ ⟨cq,cr,rfl,bv,_⟩ _ rfl _ rfl _ _
   refine sw<|cl wN (rA q _ a.Next (nH (bc.from0 bu) bd)) ?_
   rintro _ aH ⟨bw,⟨cs,cu,rfl,aJ,bz,b0⟩⟩
   exact rB bw ⟨_,_,rfl,(mO aJ aI.size),bz,b0,(Ap.lt bv aJ (Nat.le_refl _))⟩
  ·intro q cv
   rintro _ rfl _ rfl _ ⟨cw,cy,rfl,_⟩ _ rfl _ rfl _ _
   refine sw<|pu (vp f 1) wN ?_
   exact f2
 ·intro q J
  rintro _ rfl _ rfl _ ⟨j,l,rfl,m,b1,cz⟩ _ rfl _ rfl _ ⟨r,s,rfl,p,b2,c0,b3⟩ _ rfl
  refine sw ?_
  have b4:=((ay.kp g).kp J)
  refine sf (vs j (a.Sn).length l) wN nG b4 ?_
  intro aH b b5 c1
  have b6:=(a0.extk J).ext b (fun k hk=>by subst hk;exact ae)
  refine pu (vp f 14) wN ?_
  refine sf (vs r (a.Next).length s) wN nG b5 ?_
  intro ah d a1 c2
  have a2:=b6.ext d (fun k hk=>by subst hk;exact ae)
  refine mW<|mP<|nh<|qB ([(11,[],[],(fun _ v _=>v=(vp f 2))),(12,[],[0],(fun _ v _=>v=(va (oi a.Cur O P Q R)))),(13,[],[0,1],(fun _ v w=>Ar w ah.heap.size v a.Cur)),(14,[],[],(fun _ v _=>v=(vp f 7))),(15,[],[3],(fun _ v _=>v=(va (oi a.Old A B C D)))),(16,[13],[0,1,2,3,4],(fun e v w=>BE w ah.heap.size v a.Old (fun af aK=>Ap (sp (pr (e 13) 1)) af∧Ap (sp (pr (e 13) 1)) aK∧Ap (sp (pr (e 13) 4)) af∧Ap (sp (pr (e 13) 4)) aK))),(17,[],[0,1,2,3,4],(fun _ v _=>v=(vp f 2)))]:GV) oM rfl (by kernel_rfl) (by kernel_rfl) ?_ ?_ ?_
  ·exact ⟨hV,hE,⟨hV,hE,⟨(fun e v w ad h hk=>by obtain ⟨F,G,a3,a4,he,H,I,a5,a6,hap⟩:=h;exact ⟨F,G,a3,a4,he,mz H hk,I,mz a5 hk,a6,hap⟩),hE,⟨hV,hE,⟨hV,hE,⟨(fun e v w ad h hk=>by obtain ⟨F,G,a3,a4,he,H,I,a5,a6,hap,hx⟩:=h;exact ⟨F,G,a3,a4,he,mz H hk,I,mz a5 hk,a6,hap,hx⟩),(fun bg bh v w hx h=>by have b7:=hx 13 (by simp);simp only [b7] at h;exact h),⟨hV,hE,trivial⟩⟩⟩⟩⟩⟩⟩
  ·refine ⟨?_,⟨?_,⟨?_,⟨?_,⟨?_,⟨?_,⟨?_,trivial⟩⟩⟩⟩⟩⟩⟩
   ·intro i c3
    rintro _ _ _ _ _ _ _
    refine sw<|pu (vp f 2) wN ?_
    exact f2
   ·intro i b8
    rintro _ rfl _ _ _ _ _ _
    refine sw ?_
    have b9:=(a1.kp b8)
    refine lN (oi a.Cur O P Q R) wN nv mY b9 ?_
    exact f2
   ·intro i a7
    have aL:=a2.extk a7
    rintro _ rfl _ rfl _ _ _ _ _
    refine sw<|cl wN (uW i _ a.Cur (qs (aU.from0 aL) aV (aW.from0 aL) aX)) ?_
    rintro _ aM ⟨bA,⟨c4,c5,c6,c7,rfl,bB,bC,bD,bE,bF⟩⟩
    exact rB bA ⟨_,_,_,_,rfl,(mO bB a7.size),bC,(mO bD a7.size),bE,bF⟩
   ·intro i c8
    rintro _ _ _ _ _ _ _
    refine sw<|pu (vp f 7) wN ?_
    exact f2
   ·intro i bG
    rintro _ _ _ _ rfl _ _ _
    refine sw ?_
    have bH:=(a1.kp bG)
    refine lN (oi a.Old A B C D) wN nv mY bH ?_
    exact f2
   ·intro i a8
    have aN:=a2.extk a8
    rintro _ rfl _ rfl _ ⟨c9,cC,cD,cE,rfl,aO,cF,aP,_⟩ _ rfl _ rfl _ _
    refine sw<|cl wN (uW i _ a.Old (qs (aY.from0 aN) aZ (ba.from0 aN) bb)) ?_
    rintro _ aM ⟨bI,⟨cG,cH,cI,cJ,rfl,a9,bJ,aA,bK,bL⟩⟩
    exact rB bI ⟨_,_,_,_,rfl,(mO a9 a8.size),bJ,(mO aA a8.size),bK,bL,⟨(Ap.lt aO a9 (Nat.le_refl _)),(Ap.lt aO aA (Nat.le_refl _)),(Ap.lt aP a9 (Nat.le_refl _)),(Ap.lt aP aA (Nat.le_refl _))⟩⟩
   ·intro i cK
    rintro _ rfl _ rfl _ ⟨cL,cM,cN,cO,rfl,_⟩ _ rfl _ rfl _ _
    refine sw<|pu (vp f 2) wN ?_
    exact f2
  ·intro i Y
   rintro _ rfl _ rfl _ ⟨t,u,x,y,rfl,ai,bM,aj,bN,bO⟩ _ rfl _ rfl _ ⟨K,L,M,N,rfl,ak,bP,am,bQ,bR,an⟩ _ rfl
   refine sw ?_
   have bS:=(a1.kp Y)
   refine st (va (oi (a.Cur) t u x y)) (oi (a.Cur) t u x y) (oj a j l t u x y A B C D r s) wN mY bS ?_
   intro aM Z bT cP
   have bU:=(a2.extk Y).ext Z (fun k hk=>by subst hk;exact ae)
   refine pu (vp f 7) wN ?_
   refine st (va (oi (a.Old) K L M N)) (oi (a.Old) K L M N) (oj a j l t u x y K L M N r s) wN mY bT ?_
   intro cQ aa bW cR
   have bX:=bU.ext aa (fun k hk=>by subst hk;exact ae)
   refine nx<|lN (oj a j l t u x y K L M N r s) wN nj mX bW ?_
   have ao:=nL W (aF)
   have bY:=((((((be.kp J).ch b (Ne.symm (nN ao))).ch d (Ne.symm (nN ao))).kp Y).ch Z (Ne.symm (nN ao))).ch aa (Ne.symm (nN ao)))
   refine sv (oj a j l t u x y K L M N r s) wN mX bY ?_
   intro cS ap bZ cT
   have ca:=bX.ext ap (fun k hk=>by subst hk;exact nT X.size aF)
   refine n3 ?_
   have aq:=nL W g.size
   have cb:=(gc (gc (gc (mz (gc (gc m b (ne1 m aq)) d (ne1 m aq)) Y) Z (ne1 m aq)) aa (ne1 m aq)) ap (ne1 m (az)))
   have au:=fun (E sz n:Nat) (v:Value) (aQ:List Value) (o:World.ownsRow i ah.heap.size E sz v n aQ) (aB:World.ownsRow i ah.heap.size E sz v n aQ)=>(gc (gc (gc o Z (ne1 aB (nL W (z4 g J b d)))) aa (ne1 aB (nL W (z4 g J b d)))) ap (ne1 aB (nL az (z3 J b d))))
   have cc:=(au _ _ _ _ _ ai ai)
   have cd:=(au _ _ _ _ _ aj aj)
   have ce:=(au _ _ _ _ _ ak ak)
   have cg:=(au _ _ _ _ _ am am)
   have av:=nL W g.size
   have ci:=(gc (gc (gc (mz (gc (gc p b (ne1 p av)) d (ne1 p av)) Y) Z (ne1 p av)) aa (ne1 p av)) ap (ne1 p (az)))
   refine rc (oj a j l t u x y K L M N r s) bZ nj mX ?_
   refine ⟨ca.keep0,?_⟩
   have cj:a=a:=by rfl
   rw [cj]
   have ax:=z5 X g J b d
   exact ⟨_,_,_,_,_,_,_,_,_,_,_,_,rfl,(mO cb (z2 X g)),b1,(mO cc ax),bM,(mO cd ax),bN,(mO ce ax),bP,(mO cg ax),bQ,(mO ci (z2 X g)),b2,⟨⟨(Ap.lt m ai (z2 b d)),⟨(Ap.lt m aj (z2 b d)),⟨(Ap.lt m ak (z2 b d)),⟨(Ap.lt m am (z2 b d)),⟨b3,trivial⟩⟩⟩⟩⟩,⟨⟨(bO.1.1),⟨(an.1),⟨(an.2.1),⟨(Ap.lt p ai (z2 b d)).symm,trivial⟩⟩⟩⟩,⟨⟨(an.2.2.1),⟨(an.2.2.2),⟨(Ap.lt p aj (z2 b d)).symm,trivial⟩⟩⟩,⟨⟨(bR.1.1),⟨(Ap.lt p ak (z2 b d)).symm,trivial⟩⟩,⟨⟨(Ap.lt p am (z2 b d)).symm,trivial⟩,⟨trivial,trivial⟩⟩⟩⟩⟩⟩⟩

def oV (a:Int):(Bool):=bif (decide (a=0)) then (true) else (decide (a=1))
theorem uU (d:World) (a:Int) :Fn Tryz.prog 55 #[(vi a)] d (fun v e=>Keep d e∧O_4 e d.heap.size v (oV a)):=by
 refine nu (n:=9) [(vi a)] Tryz.func55 rfl rfl ?_
 refine sr<|aw vF ?_
 refine nx<|mw (vi a) ?_
 refine pu (vb (decide (a=0))) wN ?_
 refine mw (vb (decide (a=0))) ?_
 rcases bt (decide (a=0)) with b|b
 ·have f:=dT b
  iterate 2 refine sk b ?_
  refine pk vT wN b ?_
  refine aw vT ?_
  refine n3<|rt vT ?_
  refine ⟨Ch.refl _ _,?_⟩
  simp only [oV,b,cond_true,cond_false]
  exact rfl
 have g:=dF b
 refine mv (vi a) (wS b) ?_
 refine pu (vb (decide (a=1))) (wS b) ?_
 refine pf (vb (decide (a=1))) wN b ?_
 refine aw (vb (decide (a=1))) ?_
 refine n3<|rt (vb (decide (a=1))) ?_
 refine ⟨Ch.refl _ _,?_⟩
 simp only [oV,b,cond_true,cond_false]
 exact rfl
theorem tp {n:Int} (h:oV n=true):n=0∨n=1:=by
  by_cases h0:n=0
  · exact .inl h0
  · simp [oV,h0] at h;exact .inr h
theorem uG {n:Int} (h:oV n=false):¬ n=0∧¬ n=1:=by
  by_cases h0:n=0 <;> by_cases h1:n=1 <;> simp [oV,h0,h1] at h
  exact ⟨h0,h1⟩

def nZ (a:List UInt8):(Bool):=decide ((a.length:Int)=12)
theorem qy (b:World) (d:Value) (a:List UInt8) (h:pI b d a) :Fn Tryz.prog 56 #[d] b (fun v e=>Keep b e∧O_4 e b.heap.size v (nZ a)):=by
 obtain ⟨f,g,rfl,i,k⟩:=h
 refine nu (n:=6) [(vs f a.length g)] Tryz.func56 rfl rfl ?_
 refine sr<|aw vF ?_
 refine nx<|mw (vs f a.length g) ?_
 refine ln wN mR i ?_
 refine pu (vb (decide ((a.length:Int)=12))) wN ?_
 refine aw (vb (decide ((a.length:Int)=12))) ?_
 refine n3<|rt (vb (decide ((a.length:Int)=12))) ?_
 refine ⟨Ch.refl _ _,?_⟩
 have j:nZ a=decide ((a.length:Int)=12):=by rfl
 rw [j]
 exact rfl
theorem qu {b:List UInt8} (h:nZ b=true):(b.length:Int)=12:=dT h
theorem qv {b:List UInt8} (h:nZ b=false):¬ (b.length:Int)=12:=dF h

def i_within (a:Int) (b:Int) (d:Int):(Bool):=bif (decide (b≤a)) then (decide (a≤d)) else (false)
theorem oW (f:World) (a:Int) (e:Int) (d:Int) :Fn Tryz.prog 42 #[(vi a),(vi e),(vi d)] f (fun v g=>Keep f g∧O_4 g f.heap.size v (i_within a e d)):=by
 refine nu (n:=15) [(vi a),(vi e),(vi d)] Tryz.func42 rfl rfl ?_
 refine sr<|aw vF ?_
 refine nx<|mw (vi a) ?_
 refine mw (vi e) ?_
 refine pu (vb (decide (e≤a))) wN ?_
 refine mw (vb (decide (e≤a))) ?_
 rcases bf (decide (e≤a)) with b|b
 ·have h:=dF b
  iterate 3 refine sk b ?_
  refine pf vF wN b ?_
  refine aw vF ?_
  refine n3<|rt vF ?_
  refine ⟨Ch.refl _ _,?_⟩
  simp only [i_within,b,cond_true,cond_false]
  exact rfl
 have i:=dT b
 refine mv (vi a) (wS b) ?_
 refine mv (vi d) (wS b) ?_
 refine pu (vb (decide (a≤d))) (wS b) ?_
 refine pk (vb (decide (a≤d))) wN b ?_
 refine aw (vb (decide (a≤d))) ?_
 refine n3<|rt (vb (decide (a≤d))) ?_
 refine ⟨Ch.refl _ _,?_⟩
 simp only [i_within,b,cond_true,cond_false]
 exact rfl
theorem nD {n a b:Int} (h:i_within n a b=true):a≤n∧n≤b:=by
  unfold i_within at h
  by_cases h1:a≤n <;> simp [h1] at h
  exact ⟨h1,h⟩
theorem oe {n a b:Int} (h:i_within n a b=false):n < a∨b < n:=by
  unfold i_within at h
  by_cases h1:a≤n <;> simp [h1] at h <;> omega

theorem sY (b:World) (m:Value) (a:List Int) (s:xQ b m a) (d:Int) :Fn Tryz.prog 131 #[m,(vi d)] b (fun v g=>Keep b g∧O_4 g b.heap.size v (rk a d)):=by
 obtain ⟨e,f,rfl,l,A⟩:=s
 refine nu (n:=21) [(vs e a.length f),(vi d)] Tryz.func131 rfl rfl ?_
 refine sr<|aw vF ?_
 refine n4<|mw (vs e a.length f) ?_
 refine ln wN nf l ?_
 refine mw (vi 0) ?_
 refine mW<|mP<|ng<|oa [(0,(vs e a.length f)),(1,(vi d)),(7,(vs e a.length f)),(8,(vi (a.length:Int))),(9,(vi ((0:Nat):Int)))] ⟨rfl,rfl,rfl,rfl,(cA (Value.int .i64) (show (0:Int)=((0:Nat):Int) by omega)),trivial⟩ (fun e' g=>∃ (k:Nat) (o:Env),e'=pt o [(0,(vs e a.length f)),(1,(vi d)),(7,(vs e a.length f)),(8,(vi (a.length:Int))),(9,(vi ((k:Nat):Int)))]∧Ch (fun k=>b.heap.size≤k) b g∧Ch (fun k=>b.heap.size≤k) b g∧k≤a.length∧qf (a.take k)=true) (fun e' _=>a.length - ((intOf (e' 9))).toNat) ?_ ?_
 ·exact fun u=>⟨0,u,rfl,(Ch.base b),(Ch.refl (fun k=>b.heap.size≤k) b),(by omega),(by first|rfl|exact rq (by assumption) (by omega) (by assumption))⟩
 ·rintro _ p ⟨k,o,rfl,h,t,B,C⟩
  refine sr<|pu (vb (decide (((k:Nat):Int) < (a.length:Int)))) wN ?_
  refine mW<|mP<|nh ?_
  rcases bf (decide (((k:Nat):Int) < (a.length:Int))) with i|i
  ·have D:=dF i
   refine cf i<|oh<|mU<|mU<|nq<|mP<|sr<|mw (vs e a.length f) ?_
   refine ln wN nf (l.from0 h) ?_
   refine mw (vi d) ?_
   refine pu (vb (decide ((a.length:Int)=d))) wN ?_
   refine aw (vb (decide ((a.length:Int)=d))) ?_
   refine n3<|rt (vb (decide ((a.length:Int)=d))) ?_
   refine ⟨h.keep0,?_⟩
   have w:rk a d=decide ((a.length:Int)=d):=by first|(have hz:=qD (x:=a) (k:=k) (by omega) (by assumption);simp [rk,hz])|(have hz:=oB (x:=a) (k:=k) (by assumption) (by omega);simp [rk,hz])
   rw [w]
   exact rfl
  have E:=dT i
  refine ct i<|nm<|mP<|nh<|ng<|sr<|ix wN ((k:Nat):Int) nf (l.from0 h) ?_
  refine ei (x:=a) k wN mT (l.from0 h) ?_
  refine aw (vi (a.getD k 0)) ?_
  refine nx<|mw (vi (a.getD k 0)) ?_
  refine cl wN (oW p (a.getD k 0) 0 4294967295) ?_
  rintro _ F ⟨q,rfl⟩
  have r:=h.extk q
  refine pu (vb (!(i_within (a.getD k 0) 0 4294967295))) wN ?_
  refine n2 ?_
  rcases bf (i_within (a.getD k 0) 0 4294967295) with j|j
  ·have G:=oe j
   refine ct (cA not j)<|sr<|aw vF ?_
   refine mW<|mP<|oY<|nR<|np<|np<|nR<|np<|rt vF ?_
   refine ⟨r.keep0,?_⟩
   have y:rk a d=false:=by first|(have hz:=qD (x:=a) (k:=k) (by omega) (by assumption);simp [rk,hz])|(have hz:=oB (x:=a) (k:=k) (by assumption) (by omega);simp [rk,hz])
   rw [y]
   exact rfl
  have H:=nD j
  refine cf (cA not j)<|nm<|mQ<|mP<|mV ?_
  refine ar (((k:Nat):Int)+1) wN ?_
  refine mw (vi (((k:Nat):Int)+1)) ?_
  refine mW<|nX (w0:=p) [(0,(vs e a.length f)),(1,(vi d)),(7,(vs e a.length f)),(8,(vi (a.length:Int))),(9,(vi (((k+1):Nat):Int)))] ?_ ?_ ?_
  · exact ⟨rfl,rfl,rfl,rfl,(cA (Value.int .i64) (show ((((k:Nat):Int)+1):Int)=(((k+1):Nat):Int) by omega)),trivial⟩
  · exact fun u=>⟨(k+1),u,rfl,r,(((Ch.refl (fun k=>b.heap.size≤k) b).ext t (fun k hk=>hk)).extk q),(by omega),(by first|rfl|exact rq (by assumption) (by omega) (by assumption))⟩
  · show a.length - ((((k+1):Nat):Int)).toNat < a.length - (((k:Nat):Int)).toNat;omega

def oo (b:PWin) (a:Int):(Bool):=decide ((((b.Bits.getD (((a % 1024) / 32)).toNat 0) / (2:Int) ^ ((a % 32)).toNat) % 2)=1)
theorem uV (d:World) (h:Value) (b:PWin) (k:xP d h b) (a:Int) (q:b.Bits.length=32) (r:0≤a):Fn Tryz.prog 132 #[h,(vi a)] d (fun v i=>Keep d i∧O_4 i d.heap.size v (oo b a)):=by
 obtain ⟨e,f,rfl,j,s⟩:=k
 refine nu (n:=17) [(va (pn b e f)),(vi a)] Tryz.func132 rfl rfl ?_
 refine sr<|bx (pn b e f) wN ?_
 intro l t u w m o
 have g:=(Ch.base d).extk m
 refine aw vF ?_
 refine nx<|pu (vp l 1) wN ?_
 refine ld (vs e b.Bits.length f) wN oA o ?_
 refine mw (vi a) ?_
 refine qp a 1024 wN rfl rfl (by kernel_rfl) (by first|omega|assumption) ?_
 refine rU (a % 1024) 32 wN rfl rfl (by kernel_rfl) (by omega) (by omega) (by omega) ?_
 refine ix wN ((a % 1024) / 32) nf (j.from0 g) ?_
 refine ei (x:=b.Bits) ((((a % 1024) / 32)).toNat) wN mT (j.from0 g) ?_
 refine mw (vi a) ?_
 refine qp a 32 wN rfl rfl (by kernel_rfl) (by first|omega|assumption) ?_
 refine uf (b.Bits.getD (((a % 1024) / 32)).toNat 0) (a % 32) wN rfl rfl rfl rfl rfl (by omega) (by omega) ?_
 refine qc ((b.Bits.getD (((a % 1024) / 32)).toNat 0) / (2:Int) ^ ((a % 32)).toNat) 1 2 1 wN rfl rfl (by decide) (by decide) (by decide) (by kernel_rfl) ?_
 refine pu (vb (decide ((((b.Bits.getD (((a % 1024) / 32)).toNat 0) / (2:Int) ^ ((a % 32)).toNat) % 2)=1))) wN ?_
 refine aw (vb (decide ((((b.Bits.getD (((a % 1024) / 32)).toNat 0) / (2:Int) ^ ((a % 32)).toNat) % 2)=1))) ?_
 refine n3<|rt (vb (decide ((((b.Bits.getD (((a % 1024) / 32)).toNat 0) / (2:Int) ^ ((a % 32)).toNat) % 2)=1))) ?_
 refine ⟨g.keep0,?_⟩
 have p:oo b a=decide ((((b.Bits.getD (((a % 1024) / 32)).toNat 0) / (2:Int) ^ ((a % 32)).toNat) % 2)=1):=by rfl
 rw [p]
 exact rfl

def rg (w:PWin):Bool:=bif i_within w.Top (-1) 281474976710655 then (bif rk w.Bits 32 then (bif td (oo w) (w.Top+1) 1024 then (decide (w.Top = -1) || oo w w.Top) else false) else false) else false
theorem yU (l:World) (G:Value) (d:PWin) (R:xP l G d) :Fn Tryz.prog 94 #[G] l (fun v s=>Keep l s∧O_4 s l.heap.size v (rg d)):=by
 obtain ⟨t,w,rfl,A,B⟩:=R
 refine nu (n:=33) [(va (pn d t w))] Tryz.func94 rfl rfl ?_
 refine sr<|bx (pn d t w) wN ?_
 intro j S am H T I
 have J:=(Ch.base l).extk T
 refine aw vF ?_
 refine n4<|jT1 [(1,(vp j 0)),(2,vF)] (rg d=false) ?_ fun K=>?_
 ·intro V L W an
  have X:=J.extk W
  refine sr<|aw vF ?_
  refine n1<|rt vF ?_
  refine ⟨X.keep0,?_⟩
  rw [V]
  exact rfl
 refine pu (vp j 0) wN ?_
 refine ld (vi d.Top) wN mT I ?_
 refine cl wN (oW S d.Top (-1) 281474976710655) ?_
 rintro _ L ⟨o,rfl⟩
 have M:=J.extk o
 refine pu (vb (!(i_within d.Top (-1) 281474976710655))) wN ?_
 refine mw (vb (!(i_within d.Top (-1) 281474976710655))) ?_
 rcases bf (i_within d.Top (-1) 281474976710655) with e|e
 ·have ao:=oe e
  iterate 4 refine sk (cA not e) ?_
  refine pk vT wN (cA not e) ?_
  refine n2<|ct T1 ?_
  have Y:rg d=false:=by first|(simp [rg,e];done)|(have hz:=pN (f:=oo d) (a:=d.Top+1) (b:=1024) (q:=q) (by assumption) (by omega) (by omega);simp [rg,e,hz];done)|(have hz:=pM (f:=oo d) (a:=d.Top+1) (b:=1024) (q:=q) (by assumption) (by omega);simp [rg,e,hz];done)
  exact wj (K Y _ o)
 have ap:=nD e
 refine pu (vp j 1) (wS (cA not e)) ?_
 have N:=(I.kp o)
 refine ld (vs t d.Bits.length w) (wS (cA not e)) oA N ?_
 refine cl (wS (cA not e)) (sY L _ d.Bits (rX (A.from0 M) B) 32) ?_
 rintro _ p ⟨x,rfl⟩
 have Z:=M.extk x
 refine pu (vb (!(rk d.Bits 32))) (wS (cA not e)) ?_
 refine pf (vb (!(rk d.Bits 32))) wN (cA not e) ?_
 refine n2 ?_
 rcases bf (rk d.Bits 32) with g|g
 ·refine ct (cA not g) ?_
  have aa:rg d=false:=by first|(simp [rg,e,g];done)|(have hz:=pN (f:=oo d) (a:=d.Top+1) (b:=1024) (q:=q) (by assumption) (by omega) (by omega);simp [rg,e,g,hz];done)|(have hz:=pM (f:=oo d) (a:=d.Top+1) (b:=1024) (q:=q) (by assumption) (by omega);simp [rg,e,g,hz];done)
  exact wj (K aa _ (o.trans x))
 have aq:=qE g
 refine cf (cA not g)<|y2<|pu (vp j 0) wN ?_
 have C:=(N.kp x)
 refine ld (vi d.Top) wN mT C ?_
 refine ar (d.Top+1) wN ?_
 refine aw (vi (d.Top+1)) ?_
 refine mW<|mP<|ng<|oa [(1,(vp j 0)),(3,(vi (d.Top+1)))] ⟨rfl,rfl,trivial⟩ (fun e' s=>∃ (q:Int) (O:Env),e'=pt O [(1,(vp j 0)),(3,(vi q))]∧Ch (fun k=>l.heap.size≤k) l s∧Ch (fun k=>p.heap.size≤k) p s∧d.Top+1≤q∧q≤281474976710656∧(∀ m:Int,d.Top+1≤m→m < q→oo d m=false)) (fun e' _=>(1024 - (intOf (e' 3))).toNat) ?_ ?_
 ·exact fun u=>⟨(d.Top+1),u,rfl,Z,(Ch.refl (fun k=>p.heap.size≤k) p),(by omega),(by omega),(by first|(intro m ab ac;omega)|exact ro (by assumption) (by assumption))⟩
 ·rintro _ D ⟨q,O,rfl,y,E,au,av,ax⟩
  refine nh<|sr<|mw (vi q) ?_
  refine pu (vb (decide (q < 1024))) wN ?_
  refine n2 ?_
  rcases bt (decide (q < 1024)) with i|i
  ·have ay:=dT i
   refine ct i<|nm<|mP<|nh<|ng<|sr ?_
   have ad:=(C.ch E (Nat.not_le.2 (nL H (z2 o x))))
   refine lN (pn d t w) wN nJ ni ad ?_
   refine mw (vi q) ?_
   refine cl wN (uV D _ d (qX (A.from0 y) B) q (by first|assumption|omega) (by first|assumption|omega)) ?_
   rintro _ ae ⟨P,rfl⟩
   have Q:=y.extk P
   refine n2 ?_
   rcases bf (oo d q) with r|r
   ·refine cf r<|nm<|mQ<|mP<|mV ?_
    refine mw (vi q) ?_
    refine ar (q+1) wN ?_
    refine aw (vi (q+1)) ?_
    refine mW<|nX (w0:=D) [(1,(vp j 0)),(3,(vi (q+1)))] ?_ ?_ ?_
    · exact ⟨rfl,rfl,trivial⟩
    · exact fun u=>⟨(q+1),u,rfl,Q,(((Ch.refl (fun k=>p.heap.size≤k) p).ext E (fun k hk=>hk)).extk P),(by omega),(by omega),(by first|(intro m ab ac;omega)|exact ro (by assumption) (by assumption))⟩
    · show (1024 - (q+1)).toNat < (1024 - q).toNat;omega
   refine ct r<|sr<|aw vF ?_
   refine mW<|mP<|oY<|nR<|np<|np<|nR<|np<|rt vF ?_
   refine ⟨Q.keep0,?_⟩
   have af:rg d=false:=by first|(simp [rg,e,g,i,r];done)|(have hz:=pN (f:=oo d) (a:=d.Top+1) (b:=1024) (q:=q) (by assumption) (by omega) (by omega);simp [rg,e,g,i,r,hz];done)|(have hz:=pM (f:=oo d) (a:=d.Top+1) (b:=1024) (q:=q) (by assumption) (by omega);simp [rg,e,g,i,r,hz];done)
   rw [af]
   exact rfl
  have az:=dF i
  refine cf i<|oh<|mU<|mU<|nq<|mP<|sr<|pu (vp j 0) wN ?_
  have F:=(C.ch E (Nat.not_le.2 (nL H (z2 o x))))
  refine ld (vi d.Top) wN mT F ?_
  refine pu (vb (decide (d.Top=(-1)))) wN ?_
  refine mw (vb (decide (d.Top=(-1)))) ?_
  rcases bt (decide (d.Top=(-1))) with h|h
  ·have a0:=dT h
   iterate 4 refine sk h ?_
   refine pk vT wN h ?_
   refine aw vT ?_
   refine n3<|rt vT ?_
   refine ⟨y.keep0,?_⟩
   have ah:rg d=true:=by first|(simp [rg,e,g,i,h];done)|(have hz:=pN (f:=oo d) (a:=d.Top+1) (b:=1024) (q:=q) (by assumption) (by omega) (by omega);simp [rg,e,g,i,h,hz];done)|(have hz:=pM (f:=oo d) (a:=d.Top+1) (b:=1024) (q:=q) (by assumption) (by omega);simp [rg,e,g,i,h,hz];done)
   rw [ah]
   exact rfl
  have a1:=dF h
  refine lN (pn d t w) (wS h) nJ ni F ?_
  refine pu (vp j 0) (wS h) ?_
  refine ld (vi d.Top) (wS h) mT F ?_
  refine cl (wS h) (uV D _ d (qX (A.from0 y) B) d.Top (by first|assumption|omega) (by first|assumption|omega)) ?_
  rintro _ ae ⟨ai,rfl⟩
  have aj:=y.extk ai
  refine pf (vb (oo d d.Top)) wN h ?_
  refine aw (vb (oo d d.Top)) ?_
  refine n3<|rt (vb (oo d d.Top)) ?_
  refine ⟨aj.keep0,?_⟩
  have ak:rg d=(oo d d.Top):=by first|(simp [rg,e,g,i,h];done)|(have hz:=pN (f:=oo d) (a:=d.Top+1) (b:=1024) (q:=q) (by assumption) (by omega) (by omega);simp [rg,e,g,i,h,hz];done)|(have hz:=pM (f:=oo d) (a:=d.Top+1) (b:=1024) (q:=q) (by assumption) (by omega);simp [rg,e,g,i,h,hz];done)
  rw [ak]
  exact rfl
theorem yx {w:PWin} (h:rg w=true):qf w.Bits=true∧w.Bits.length=32 ∧ -1≤w.Top∧w.Top≤281474976710655:=by
  unfold rg at h
  cases h1:i_within w.Top (-1) 281474976710655 with
  | false=>simp only [h1,cond_false] at h;cases h
  | true =>
    cases h2:rk w.Bits 32 with
    | false=>simp only [h1,h2,cond_true,cond_false] at h;cases h
    | true =>
      have b:=qE h2
      have a:=nD h1
      exact ⟨b.1,by omega,a.1,a.2⟩

def pd (a:PEp):(Bool):=bif (i_within a.N 0 4294967295) then (bif (decide ((a.Key.length:Int)=32)) then (bif (i_within a.Seq 0 281474976710656) then ((rg a.Win)) else (false)) else (false)) else (false)
theorem yZ (f:World) (p:Value) (a:PEp) (u:xn f p a) :Fn Tryz.prog 57 #[p] f (fun v q=>Keep f q∧O_4 q f.heap.size v (pd a)):=by
 obtain ⟨i,j,k,l,rfl,w,H,x,y⟩:=u
 refine nu (n:=22) [(va (oi a i j k l))] Tryz.func57 rfl rfl ?_
 refine sr<|bx (oi a i j k l) wN ?_
 intro g A I J B r
 refine aw vF ?_
 refine nx<|pu (vp g 0) wN ?_
 refine ld (vi a.N) wN mT r ?_
 refine cl wN (oW A a.N 0 4294967295) ?_
 rintro _ C ⟨s,rfl⟩
 have h:=((Ch.base f).extk B).extk s
 refine mw (vb (i_within a.N 0 4294967295)) ?_
 rcases bf (i_within a.N 0 4294967295) with b|b
 ·have K:=oe b
  iterate 4 refine sk b ?_
  refine pf vF wN b ?_
  refine mw vF ?_
  iterate 3 refine sk F1 ?_
  refine pf vF wN F1 ?_
  refine mw vF ?_
  iterate 3 refine sk F1 ?_
  refine pf vF wN F1 ?_
  refine aw vF ?_
  refine n3<|rt vF ?_
  refine ⟨h.keep0,?_⟩
  simp only [pd,b,cond_true,cond_false]
  exact rfl
 have L:=nD b
 refine pu (vp g 1) (wS b) ?_
 have m:=(r.kp s)
 refine ld (vs i a.Key.length j) (wS b) nd m ?_
 refine ln (wS b) mR (w.from0 h) ?_
 refine pu (vb (decide ((a.Key.length:Int)=32))) (wS b) ?_
 refine pk (vb (decide ((a.Key.length:Int)=32))) wN b ?_
 refine mw (vb (decide ((a.Key.length:Int)=32))) ?_
 rcases bf (decide ((a.Key.length:Int)=32)) with d|d
 ·have M:=dF d
  iterate 3 refine sk d ?_
  refine pf vF wN d ?_
  refine mw vF ?_
  iterate 3 refine sk F1 ?_
  refine pf vF wN F1 ?_
  refine aw vF ?_
  refine n3<|rt vF ?_
  refine ⟨h.keep0,?_⟩
  simp only [pd,b,d,cond_true,cond_false]
  exact rfl
 have O:=dT d
 refine pu (vp g 2) (wS d) ?_
 refine ld (vi a.Seq) (wS d) mT m ?_
 refine cl (wS d) (oW C a.Seq 0 281474976710656) ?_
 rintro _ D ⟨t,rfl⟩
 have o:=h.extk t
 refine pk (vb (i_within a.Seq 0 281474976710656)) wN d ?_
 refine mw (vb (i_within a.Seq 0 281474976710656)) ?_
 rcases bf (i_within a.Seq 0 281474976710656) with e|e
 ·have P:=oe e
  iterate 3 refine sk e ?_
  refine pf vF wN e ?_
  refine aw vF ?_
  refine n3<|rt vF ?_
  refine ⟨o.keep0,?_⟩
  simp only [pd,b,d,e,cond_true,cond_false]
  exact rfl
 have Q:=nD e
 refine pu (vp g 3) (wS e) ?_
 have E:=(m.kp t)
 refine lN (pn a.Win k l) (wS e) nJ ni E ?_
 refine cl (wS e) (yU D _ a.Win (qX (x.from0 o) y)) ?_
 rintro _ R ⟨F,rfl⟩
 have G:=o.extk F
 refine pk (vb (rg a.Win)) wN e ?_
 refine aw (vb (rg a.Win)) ?_
 refine n3<|rt (vb (rg a.Win)) ?_
 refine ⟨G.keep0,?_⟩
 simp only [pd,b,d,e,cond_true,cond_false]
 exact rfl
theorem rx {e:PEp} (h:pd e=true):0≤e.N∧e.N≤4294967295∧(e.Key.length:Int)=32∧0≤e.Seq∧e.Seq≤281474976710656∧rg e.Win=true:=by
  simp only [pd,Bool.cond_false_right,Bool.and_eq_true,decide_eq_true_eq] at h
  have a:=nD h.1
  have b:=nD h.2.2.1
  exact ⟨a.1,a.2,h.2.1,b.1,b.2,h.2.2.2⟩

def oF (a:List UInt8) (b:List UInt8):(Bool):=(eqS (ByteArray.mk a.toArray) (ByteArray.mk b.toArray))
theorem rY (d:World) (e:Value) (a:List UInt8) (l:pI d e a) (f:Value) (b:List UInt8) (m:pI d f b) :Fn Tryz.prog 116 #[e,f] d (fun v g=>Keep d g∧O_4 g d.heap.size v (oF a b)):=by
 obtain ⟨h,i,rfl,o,r⟩:=l
 obtain ⟨j,k,rfl,p,s⟩:=m
 refine nu (n:=10) [(vs h a.length i),(vs j b.length k)] Tryz.func116 rfl rfl ?_
 refine sr<|aw vF ?_
 refine nx<|mw (vs h a.length i) ?_
 refine ug a wN rfl rfl rfl rfl Tryz.underlying22 Tryz.underlying5 Tryz.underlying9 o ?_
 refine mw (vs j b.length k) ?_
 refine ug b wN rfl rfl rfl rfl Tryz.underlying22 Tryz.underlying5 Tryz.underlying9 p ?_
 refine pu (vb (eqS (ByteArray.mk a.toArray) (ByteArray.mk b.toArray))) wN ?_
 refine aw (vb (eqS (ByteArray.mk a.toArray) (ByteArray.mk b.toArray))) ?_
 refine n3<|rt (vb (eqS (ByteArray.mk a.toArray) (ByteArray.mk b.toArray))) ?_
 refine ⟨Ch.refl _ _,?_⟩
 have q:oF a b=(eqS (ByteArray.mk a.toArray) (ByteArray.mk b.toArray)):=by rfl
 rw [q]
 exact rfl

theorem xJ (d:World) (r:Value) (a:List Int) (w:xQ d r a) (s:Value) (b:List Int) (y:xQ d s b) :Fn Tryz.prog 133 #[r,s] d (fun v j=>Keep d j∧O_4 j d.heap.size v (eqI a b)):=by
 obtain ⟨f,g,rfl,p,F⟩:=w
 obtain ⟨h,i,rfl,q,G⟩:=y
 refine nu (n:=26) [(vs f a.length g),(vs h b.length i)] Tryz.func133 rfl rfl ?_
 refine sr<|aw vF ?_
 refine n4<|mw (vs f a.length g) ?_
 refine ln wN nf p ?_
 refine mw (vs h b.length i) ?_
 refine ln wN nf q ?_
 refine pu (vb (!(decide ((a.length:Int)=(b.length:Int))))) wN ?_
 refine n2 ?_
 rcases bf (decide ((a.length:Int)=(b.length:Int))) with l|l
 ·have H:=dF l
  refine ct (cA not l)<|sr<|aw vF ?_
  refine n1<|rt vF ?_
  refine ⟨Ch.refl _ _,?_⟩
  have A:eqI a b=false:=by first|exact sT (by assumption)|exact uq (by assumption)|exact sU (by assumption) (by omega) (by omega)
  rw [A]
  exact rfl
 have I:=dT l
 refine cf (cA not l)<|y2<|mw (vs f a.length g) ?_
 refine ln wN nf p ?_
 refine mw (vi 0) ?_
 refine mW<|mP<|ng<|oa [(1,(vs h b.length i)),(12,(vs f a.length g)),(13,(vi (a.length:Int))),(14,(vi ((0:Nat):Int)))] ⟨rfl,rfl,rfl,(cA (Value.int .i64) (show (0:Int)=((0:Nat):Int) by omega)),trivial⟩ (fun e' j=>∃ (k:Nat) (t:Env),e'=pt t [(1,(vs h b.length i)),(12,(vs f a.length g)),(13,(vi (a.length:Int))),(14,(vi ((k:Nat):Int)))]∧Ch (fun k=>d.heap.size≤k) d j∧Ch (fun k=>d.heap.size≤k) d j∧k≤a.length∧a.take k=b.take k) (fun e' _=>a.length - ((intOf (e' 14))).toNat) ?_ ?_
 ·exact fun u=>⟨0,u,rfl,(Ch.base d),(Ch.refl (fun k=>d.heap.size≤k) d),(by omega),(by first|rfl|exact tu (by assumption) (by omega) (by omega) (by assumption))⟩
 ·rintro _ B ⟨k,t,rfl,e,C,J,K⟩
  refine sr<|pu (vb (decide (((k:Nat):Int) < (a.length:Int)))) wN ?_
  refine mW<|mP<|nh ?_
  rcases bf (decide (((k:Nat):Int) < (a.length:Int))) with m|m
  ·have L:=dF m
   refine cf m<|oh<|mU<|mU<|nq<|mP<|sr<|aw vT ?_
   refine n3<|rt vT ?_
   refine ⟨e.keep0,?_⟩
   have D:eqI a b=true:=by first|exact sT (by assumption)|exact uq (by assumption)|exact sU (by assumption) (by omega) (by omega)
   rw [D]
   exact rfl
  have M:=dT m
  refine ct m<|nm<|mP<|nh<|ng<|sr<|mw (vi ((k:Nat):Int)) ?_
  refine ix wN ((k:Nat):Int) nf (p.from0 e) ?_
  refine ei (x:=a) k wN mT (p.from0 e) ?_
  refine aw (vi ((k:Nat):Int)) ?_
  refine aw (vi (a.getD k 0)) ?_
  refine nx<|mw (vi (a.getD k 0)) ?_
  refine mw (vs h b.length i) ?_
  refine mw (vi ((k:Nat):Int)) ?_
  refine ix wN ((k:Nat):Int) nf (q.from0 e) ?_
  refine ei (x:=b) k wN mT (q.from0 e) ?_
  refine pu (vb (!(decide ((a.getD k 0)=(b.getD k 0))))) wN ?_
  refine n2 ?_
  rcases bf (decide ((a.getD k 0)=(b.getD k 0))) with o|o
  ·have N:=dF o
   refine ct (cA not o)<|sr<|aw vF ?_
   refine mW<|mP<|oY<|nR<|np<|np<|nR<|np<|rt vF ?_
   refine ⟨e.keep0,?_⟩
   have E:eqI a b=false:=by first|exact sT (by assumption)|exact uq (by assumption)|exact sU (by assumption) (by omega) (by omega)
   rw [E]
   exact rfl
  have O:=dT o
  refine cf (cA not o)<|nm<|mQ<|mP<|mV ?_
  refine ar (((k:Nat):Int)+1) wN ?_
  refine mw (vi (((k:Nat):Int)+1)) ?_
  refine mW<|nX (w0:=B) [(1,(vs h b.length i)),(12,(vs f a.length g)),(13,(vi (a.length:Int))),(14,(vi (((k+1):Nat):Int)))] ?_ ?_ ?_
  · exact ⟨rfl,rfl,rfl,(cA (Value.int .i64) (show ((((k:Nat):Int)+1):Int)=(((k+1):Nat):Int) by omega)),trivial⟩
  · exact fun u=>⟨(k+1),u,rfl,e,((Ch.refl (fun k=>d.heap.size≤k) d).ext C (fun k hk=>hk)),(by omega),(by first|rfl|exact tu (by assumption) (by omega) (by omega) (by assumption))⟩
  · show a.length - ((((k+1):Nat):Int)).toNat < a.length - (((k:Nat):Int)).toNat;omega

def i_sameEp (a:PEp) (b:PEp):(Bool):=bif (decide (a.N=b.N)) then (bif (oF a.Key b.Key) then (bif (decide (a.Seq=b.Seq)) then (bif (decide (a.Win.Top=b.Win.Top)) then ((eqI a.Win.Bits b.Win.Bits)) else (false)) else (false)) else (false)) else (false)
theorem Ad (j:World) (C:Value) (a:PEp) (G:xn j C a) (D:Value) (b:PEp) (H:xn j D b) :Fn Tryz.prog 95 #[C,D] j (fun v E=>Keep j E∧O_4 E j.heap.size v (i_sameEp a b)):=by
 obtain ⟨m,o,p,q,rfl,I,J,K,L⟩:=G
 obtain ⟨r,s,t,u,rfl,M,O,P,Q⟩:=H
 refine nu (n:=42) [(va (oi a m o p q)),(va (oi b r s t u))] Tryz.func95 rfl rfl ?_
 refine sr<|bx (oi a m o p q) wN ?_
 intro h Y Z aa R S
 refine bx (oi b r s t u) wN ?_
 intro i T ab ac F w
 have l:=((Ch.base j).extk R).extk F
 refine aw vF ?_
 refine nx<|pu (vp h 0) wN ?_
 have x:=(S.kp F)
 refine ld (vi a.N) wN mT x ?_
 refine pu (vp i 0) wN ?_
 refine ld (vi b.N) wN mT w ?_
 refine pu (vb (decide (a.N=b.N))) wN ?_
 refine mw (vb (decide (a.N=b.N))) ?_
 rcases bf (decide (a.N=b.N)) with d|d
 ·have ad:=dF d
  iterate 5 refine sk d ?_
  refine pf vF wN d ?_
  refine mw vF ?_
  iterate 5 refine sk F1 ?_
  refine pf vF wN F1 ?_
  refine mw vF ?_
  iterate 7 refine sk F1 ?_
  refine pf vF wN F1 ?_
  refine mw vF ?_
  iterate 7 refine sk F1 ?_
  refine pf vF wN F1 ?_
  refine aw vF ?_
  refine n3<|rt vF ?_
  refine ⟨l.keep0,?_⟩
  simp only [i_sameEp,d,cond_true,cond_false]
  exact rfl
 have ae:=dT d
 refine pu (vp h 1) (wS d) ?_
 refine ld (vs m a.Key.length o) (wS d) nd x ?_
 refine pu (vp i 1) (wS d) ?_
 refine ld (vs r b.Key.length s) (wS d) nd w ?_
 refine cl (wS d) (rY T _ a.Key (nH (I.from0 l) J) _ b.Key (nH (M.from0 l) O)) ?_
 rintro _ V ⟨y,rfl⟩
 have k:=l.extk y
 refine pk (vb (oF a.Key b.Key)) wN d ?_
 refine mw (vb (oF a.Key b.Key)) ?_
 rcases bf (oF a.Key b.Key) with g|g
 ·iterate 5 refine sk g ?_
  refine pf vF wN g ?_
  refine mw vF ?_
  iterate 7 refine sk F1 ?_
  refine pf vF wN F1 ?_
  refine mw vF ?_
  iterate 7 refine sk F1 ?_
  refine pf vF wN F1 ?_
  refine aw vF ?_
  refine n3<|rt vF ?_
  refine ⟨k.keep0,?_⟩
  simp only [i_sameEp,d,g,cond_true,cond_false]
  exact rfl
 refine pu (vp h 2) (wS g) ?_
 have A:=(x.kp y)
 refine ld (vi a.Seq) (wS g) mT A ?_
 refine pu (vp i 2) (wS g) ?_
 have B:=(w.kp y)
 refine ld (vi b.Seq) (wS g) mT B ?_
 refine pu (vb (decide (a.Seq=b.Seq))) (wS g) ?_
 refine pk (vb (decide (a.Seq=b.Seq))) wN g ?_
 refine mw (vb (decide (a.Seq=b.Seq))) ?_
 rcases bf (decide (a.Seq=b.Seq)) with e|e
 ·have af:=dF e
  iterate 7 refine sk e ?_
  refine pf vF wN e ?_
  refine mw vF ?_
  iterate 7 refine sk F1 ?_
  refine pf vF wN F1 ?_
  refine aw vF ?_
  refine n3<|rt vF ?_
  refine ⟨k.keep0,?_⟩
  simp only [i_sameEp,d,g,e,cond_true,cond_false]
  exact rfl
 have ah:=dT e
 refine pu (vp h 3) (wS e) ?_
 refine pu (vp h 3) (wS e) ?_
 refine ld (vi a.Win.Top) (wS e) mT A ?_
 refine pu (vp i 3) (wS e) ?_
 refine pu (vp i 3) (wS e) ?_
 refine ld (vi b.Win.Top) (wS e) mT B ?_
 refine pu (vb (decide (a.Win.Top=b.Win.Top))) (wS e) ?_
 refine pk (vb (decide (a.Win.Top=b.Win.Top))) wN e ?_
 refine mw (vb (decide (a.Win.Top=b.Win.Top))) ?_
 rcases bf (decide (a.Win.Top=b.Win.Top)) with f|f
 ·have ai:=dF f
  iterate 7 refine sk f ?_
  refine pf vF wN f ?_
  refine aw vF ?_
  refine n3<|rt vF ?_
  refine ⟨k.keep0,?_⟩
  simp only [i_sameEp,d,g,e,f,cond_true,cond_false]
  exact rfl
 have aj:=dT f
 refine pu (vp h 3) (wS f) ?_
 refine pu (vp h 4) (wS f) ?_
 refine ld (vs p a.Win.Bits.length q) (wS f) oA A ?_
 refine pu (vp i 3) (wS f) ?_
 refine pu (vp i 4) (wS f) ?_
 refine ld (vs t b.Win.Bits.length u) (wS f) oA B ?_
 refine cl (wS f) (xJ V _ a.Win.Bits (rX (K.from0 k) L) _ b.Win.Bits (rX (P.from0 k) Q)) ?_
 rintro _ ak ⟨W,rfl⟩
 have X:=k.extk W
 refine pk (vb (eqI a.Win.Bits b.Win.Bits)) wN f ?_
 refine aw (vb (eqI a.Win.Bits b.Win.Bits)) ?_
 refine n3<|rt (vb (eqI a.Win.Bits b.Win.Bits)) ?_
 refine ⟨X.keep0,?_⟩
 simp only [i_sameEp,d,g,e,f,cond_true,cond_false]
 exact rfl

def pq (a:PChan):(Bool):=bif a.HasOld then (bif (pd a.Old) then (bif (decide (a.Old.N=(a.Cur.N - 1))) then (bif (i_within a.Until 0 1000005) then (true) else (bif (decide (a.Until=(-1))) then (decide (a.Role=1)) else (false))) else (false)) else (false)) else (bif (i_sameEp a.Old {N:=0,Key:=[],Seq:=0,Win:={Top:=0,Bits:=[]:PWin}:PEp}) then (decide (a.Until=0)) else (false))
theorem Bu (k:World) (x:Value) (a:PChan) (S:zx k x a) (ab:0≤a.Cur.N) (ac:a.Cur.N≤4294967295):Fn Tryz.prog 58 #[x] k (fun v y=>Keep k y∧O_4 y k.heap.size v (pq a)):=by
 obtain ⟨A,B,C,D,E,F,m,o,p,q,G,H,rfl,ad,ae,af,ah,ai,aj,I,J,K,L,ak,am⟩:=S
 refine nu (n:=42) [(va (oj a A B C D E F m o p q G H))] Tryz.func58 rfl rfl ?_
 refine sr<|bx (oj a A B C D E F m o p q G H) wN ?_
 intro e t an ao T l
 have j:=(Ch.base k).extk T
 refine aw vF ?_
 refine n4<|pu (vp e 12) wN ?_
 refine ld (vb a.HasOld) wN qC l ?_
 refine pu (vb (!a.HasOld)) wN ?_
 refine n2 ?_
 rcases bf a.HasOld with g|g
 ·refine ct (cA not g)<|sr<|pu (vp e 7) wN ?_
  refine lN (oi a.Old m o p q) wN nv mY l ?_
  refine pu (va se) wN ?_
  refine cl wN (Ad t _ a.Old (qs (I.from0 j) J (K.from0 j) L) _ _ (show xn t (va se) {N:=0,Key:=[],Seq:=0,Win:={Top:=0,Bits:=[]:PWin}:PEp} from ⟨_,_,_,_,rfl,(Rd.nil _ _),(by simp),(Rd.nil _ _),(by simp)⟩)) ?_
  rintro _ u ⟨M,rfl⟩
  have O:=j.extk M
  refine mw (vb (i_sameEp a.Old {N:=0,Key:=[],Seq:=0,Win:={Top:=0,Bits:=[]:PWin}:PEp})) ?_
  rcases bf (i_sameEp a.Old {N:=0,Key:=[],Seq:=0,Win:={Top:=0,Bits:=[]:PWin}:PEp}) with h|h
  ·iterate 3 refine sk h ?_
   refine pf vF wN h ?_
   refine aw vF ?_
   refine n1<|rt vF ?_
   refine ⟨O.keep0,?_⟩
   simp only [pq,g,h,cond_true,cond_false]
   exact rfl
  refine pu (vp e 13) (wS h) ?_
  have V:=(l.kp M)
  refine ld (vi a.Until) (wS h) mT V ?_
  refine pu (vb (decide (a.Until=0))) (wS h) ?_
  refine pk (vb (decide (a.Until=0))) wN h ?_
  refine aw (vb (decide (a.Until=0))) ?_
  refine n1<|rt (vb (decide (a.Until=0))) ?_
  refine ⟨O.keep0,?_⟩
  simp only [pq,g,h,cond_true,cond_false]
  exact rfl
 refine cf (cA not g)<|y2<|jT1 [(1,(vp e 0)),(2,vF)] (pq a=false) ?_ fun P=>?_
 ·intro W u X ap
  have Y:=j.extk X
  refine sr<|aw vF ?_
  refine n1<|rt vF ?_
  refine ⟨Y.keep0,?_⟩
  rw [W]
  exact rfl
 refine pu (vp e 7) wN ?_
 refine lN (oi a.Old m o p q) wN nv mY l ?_
 refine cl wN (yZ t _ a.Old (qs (I.from0 j) J (K.from0 j) L)) ?_
 rintro _ u ⟨r,rfl⟩
 refine pu (vb (!(pd a.Old))) wN ?_
 refine mw (vb (!(pd a.Old))) ?_
 rcases bf (pd a.Old) with b|b
 ·iterate 8 refine sk (cA not b) ?_
  refine pk vT wN (cA not b) ?_
  refine n2<|ct T1 ?_
  have Z:pq a=false:=by simp only [pq,g,b,cond_true,cond_false]
  exact wj (P Z _ r)
 have aq:=rx b
 refine pu (vp e 7) (wS (cA not b)) ?_
 refine pu (vp e 7) (wS (cA not b)) ?_
 have s:=(l.kp r)
 refine ld (vi a.Old.N) (wS (cA not b)) mT s ?_
 refine pu (vp e 2) (wS (cA not b)) ?_
 refine pu (vp e 2) (wS (cA not b)) ?_
 refine ld (vi a.Cur.N) (wS (cA not b)) mT s ?_
 refine ar (a.Cur.N - 1) (wS (cA not b)) ?_
 refine pu (vb (!(decide (a.Old.N=(a.Cur.N - 1))))) (wS (cA not b)) ?_
 refine pf (vb (!(decide (a.Old.N=(a.Cur.N - 1))))) wN (cA not b) ?_
 refine n2 ?_
 rcases bf (decide (a.Old.N=(a.Cur.N - 1))) with i|i
 ·have au:=dF i
  refine ct (cA not i) ?_
  have aa:pq a=false:=by simp only [pq,g,b,i,cond_true,cond_false]
  exact wj (P aa _ r)
 have av:=dT i
 refine cf (cA not i)<|y1<|pu (vp e 13) wN ?_
 refine ld (vi a.Until) wN mT s ?_
 refine cl wN (oW u a.Until 0 1000005) ?_
 rintro _ ax ⟨Q,rfl⟩
 have w:=(j.extk r).extk Q
 refine mw (vb (i_within a.Until 0 1000005)) ?_
 rcases bt (i_within a.Until 0 1000005) with d|d
 ·have ay:=nD d
  iterate 4 refine sk d ?_
  refine su ?_
  refine su ?_
  refine su ?_
  refine sk d ?_
  refine pk vT wN d ?_
  refine aw vT ?_
  refine n3<|rt vT ?_
  refine ⟨w.keep0,?_⟩
  simp only [pq,g,b,i,d,cond_true,cond_false]
  exact rfl
 have az:=oe d
 refine pu (vp e 13) (wS d) ?_
 have R:=(s.kp Q)
 refine ld (vi a.Until) (wS d) mT R ?_
 refine pu (vb (decide (a.Until=(-1)))) (wS d) ?_
 refine mv (vb (decide (a.Until=(-1)))) (wS d) ?_
 rcases bf (decide (a.Until=(-1))) with f|f
 ·have a0:=dF f
  iterate 3 refine sk f ?_
  refine pf vF (wS d) f ?_
  refine pf vF wN d ?_
  refine aw vF ?_
  refine n3<|rt vF ?_
  refine ⟨w.keep0,?_⟩
  simp only [pq,g,b,i,d,f,cond_true,cond_false]
  exact rfl
 have a1:=dT f
 refine pu (vp e 0) (wS f) ?_
 refine ld (vi a.Role) (wS f) mT R ?_
 refine pu (vb (decide (a.Role=1))) (wS f) ?_
 refine pk (vb (decide (a.Role=1))) (wS d) f ?_
 refine pf (vb (decide (a.Role=1))) wN d ?_
 refine aw (vb (decide (a.Role=1))) ?_
 refine n3<|rt (vb (decide (a.Role=1))) ?_
 refine ⟨w.keep0,?_⟩
 simp only [pq,g,b,i,d,f,cond_true,cond_false]
 exact rfl

theorem rW {w:World} {x:PChan} {a:Option Addr} {b:Nat} {d:Option Addr} {e:Nat} {f:Option Addr} {g:Nat} {h:Option Addr} {i:Nat} {j:Option Addr} {k:Nat} {l:Option Addr} {m:Nat} (o:Rd w 1 (.slice a x.Sn.length b) x.Sn.length (x.Sn.map bV)) (p:x.Sn.length≤1073741824) (q:Rd w 1 (.slice d x.Cur.Key.length e) x.Cur.Key.length (x.Cur.Key.map bV)) (r:x.Cur.Key.length≤1073741824) (s:Rd w 1 (.slice f x.Cur.Win.Bits.length g) x.Cur.Win.Bits.length (x.Cur.Win.Bits.map iV)) (t:x.Cur.Win.Bits.length≤1073741824) (u:Rd w 1 (.slice h x.Old.Key.length i) x.Old.Key.length (x.Old.Key.map bV)) (v:x.Old.Key.length≤1073741824) (y:Rd w 1 (.slice j x.Old.Win.Bits.length k) x.Old.Win.Bits.length (x.Old.Win.Bits.map iV)) (A:x.Old.Win.Bits.length≤1073741824) (B:Rd w 1 (.slice l x.Next.length m) x.Next.length (x.Next.map bV)) (C:x.Next.length≤1073741824):zx w (va (oj x a b d e f g h i j k l m)) x:=⟨_,_,_,_,_,_,_,_,_,_,_,_,rfl,o,p,q,r,s,t,u,v,y,A,B,C⟩
def nY (a:PChan):(Bool):=bif (oV a.Role) then (bif (nZ a.Sn) then (bif (pd a.Cur) then (bif (pq a) then (bif (decide ((a.Next.length:Int)=0)) then (true) else (bif (decide (a.Role=0)) then (bif (decide ((a.Next.length:Int)=32)) then (decide (a.Cur.N < 4294967295)) else (false)) else (false))) else (false)) else (false)) else (false)) else (false)
theorem uZ (o:World) (K:Value) (a:PChan) (ab:zx o K a) :Fn Tryz.prog 24 #[K] o (fun v L=>Keep o L∧O_4 L o.heap.size v (nY a)):=by
 obtain ⟨s,t,u,w,x,y,D,E,F,G,p,q,rfl,M,O,P,Q,R,S,ac,ad,ae,af,H,ah⟩:=ab
 refine nu (n:=45) [(va (oj a s t u w x y D E F G p q))] Tryz.func24 rfl rfl ?_
 refine sr<|bx (oj a s t u w x y D E F G p q) wN ?_
 intro i ai ay az aj T
 have V:=(Ch.base o).extk aj
 refine aw vF ?_
 refine n4<|jT1 [(1,(vp i 0)),(2,vF)] (nY a=false) ?_ fun A=>?_
 ·intro ak W am a0
  have an:=V.extk am
  refine sr<|aw vF ?_
  refine n1<|rt vF ?_
  refine ⟨an.keep0,?_⟩
  rw [ak]
  exact rfl
 refine pu (vp i 0) wN ?_
 refine ld (vi a.Role) wN mT T ?_
 refine cl wN (uU ai a.Role) ?_
 rintro _ W ⟨l,rfl⟩
 have X:=V.extk l
 refine pu (vb (!(oV a.Role))) wN ?_
 refine mw (vb (!(oV a.Role))) ?_
 rcases bf (oV a.Role) with d|d
 ·have a1:=uG d
  iterate 4 refine sk (cA not d) ?_
  refine pk vT wN (cA not d) ?_
  refine mw vT ?_
  iterate 4 refine sk T1 ?_
  refine pk vT wN T1 ?_
  refine mw vT ?_
  iterate 3 refine sk T1 ?_
  refine pk vT wN T1 ?_
  refine n2<|ct T1 ?_
  have ao:nY a=false:=by simp only [nY,d,cond_true,cond_false]
  exact wj (A ao _ l)
 have a2:=tp d
 refine pu (vp i 1) (wS (cA not d)) ?_
 have Y:=(T.kp l)
 refine ld (vs s a.Sn.length t) (wS (cA not d)) nd Y ?_
 refine cl (wS (cA not d)) (qy W _ a.Sn (nH (M.from0 X) O)) ?_
 rintro _ ap ⟨r,rfl⟩
 have I:=X.extk r
 refine pu (vb (!(nZ a.Sn))) (wS (cA not d)) ?_
 refine pf (vb (!(nZ a.Sn))) wN (cA not d) ?_
 refine mw (vb (!(nZ a.Sn))) ?_
 rcases bf (nZ a.Sn) with e|e
 ·have a3:=qv e
  iterate 4 refine sk (cA not e) ?_
  refine pk vT wN (cA not e) ?_
  refine mw vT ?_
  iterate 3 refine sk T1 ?_
  refine pk vT wN T1 ?_
  refine n2<|ct T1 ?_
  have aq:nY a=false:=by simp only [nY,d,e,cond_true,cond_false]
  exact wj (A aq _ (l.trans r))
 have a4:=qu e
 refine pu (vp i 2) (wS (cA not e)) ?_
 have Z:=(Y.kp r)
 refine lN (oi a.Cur u w x y) (wS (cA not e)) nv mY Z ?_
 refine cl (wS (cA not e)) (yZ ap _ a.Cur (qs (P.from0 I) Q (R.from0 I) S)) ?_
 rintro _ au ⟨B,rfl⟩
 have k:=I.extk B
 refine pu (vb (!(pd a.Cur))) (wS (cA not e)) ?_
 refine pf (vb (!(pd a.Cur))) wN (cA not e) ?_
 refine mw (vb (!(pd a.Cur))) ?_
 rcases bf (pd a.Cur) with f|f
 ·iterate 3 refine sk (cA not f) ?_
  refine pk vT wN (cA not f) ?_
  refine n2<|ct T1 ?_
  have av:nY a=false:=by simp only [nY,d,e,f,cond_true,cond_false]
  exact wj (A av _ ((l.trans r).trans B))
 have a5:=rx f
 have aa:=(Z.kp B)
 refine lN (oj a s t u w x y D E F G p q) (wS (cA not f)) nj mX aa ?_
 refine cl (wS (cA not f)) (Bu au _ a (rW (M.from0 k) O (P.from0 k) Q (R.from0 k) S (ac.from0 k) ad (ae.from0 k) af (H.from0 k) ah) (by omega) (by omega)) ?_
 rintro _ a6 ⟨J,rfl⟩
 have m:=k.extk J
 refine pu (vb (!(pq a))) (wS (cA not f)) ?_
 refine pf (vb (!(pq a))) wN (cA not f) ?_
 refine n2 ?_
 rcases bf (pq a) with j|j
 ·refine ct (cA not j) ?_
  have ax:nY a=false:=by simp only [nY,d,e,f,j,cond_true,cond_false]
  exact wj (A ax _ (((l.trans r).trans B).trans J))
 refine cf (cA not j)<|y1<|pu (vp i 14) wN ?_
 have C:=(aa.kp J)
 refine ld (vs p a.Next.length q) wN nd C ?_
 refine ln wN mR (H.from0 m) ?_
 refine pu (vb (decide ((a.Next.length:Int)=0))) wN ?_
 refine mw (vb (decide ((a.Next.length:Int)=0))) ?_
 rcases bt (decide ((a.Next.length:Int)=0)) with b|b
 ·have a7:=dT b
  iterate 4 refine sk b ?_
  refine su ?_
  refine su ?_
  refine su ?_
  refine su ?_
  iterate 2 refine sk b ?_
  refine su ?_
  refine su ?_
  refine su ?_
  refine su ?_
  refine sk b ?_
  refine pk vT wN b ?_
  refine aw vT ?_
  refine n3<|rt vT ?_
  refine ⟨m.keep0,?_⟩
  simp only [nY,d,e,f,j,b,cond_true,cond_false]
  exact rfl
 have a8:=dF b
 refine pu (vp i 0) (wS b) ?_
 refine ld (vi a.Role) (wS b) mT C ?_
 refine pu (vb (decide (a.Role=0))) (wS b) ?_
 refine mv (vb (decide (a.Role=0))) (wS b) ?_
 rcases bf (decide (a.Role=0)) with g|g
 ·have a9:=dF g
  iterate 4 refine sk g ?_
  refine pf vF (wS b) g ?_
  refine mv vF (wS b) ?_
  iterate 4 refine sk F1 ?_
  refine pf vF (wS b) F1 ?_
  refine pf vF wN b ?_
  refine aw vF ?_
  refine n3<|rt vF ?_
  refine ⟨m.keep0,?_⟩
  simp only [nY,d,e,f,j,b,g,cond_true,cond_false]
  exact rfl
 have aA:=dT g
 refine pu (vp i 14) (wS g) ?_
 refine ld (vs p a.Next.length q) (wS g) nd C ?_
 refine ln (wS g) mR (H.from0 m) ?_
 refine pu (vb (decide ((a.Next.length:Int)=32))) (wS g) ?_
 refine pk (vb (decide ((a.Next.length:Int)=32))) (wS b) g ?_
 refine mv (vb (decide ((a.Next.length:Int)=32))) (wS b) ?_
 rcases bf (decide ((a.Next.length:Int)=32)) with h|h
 ·have aB:=dF h
  iterate 4 refine sk h ?_
  refine pf vF (wS b) h ?_
  refine pf vF wN b ?_
  refine aw vF ?_
  refine n3<|rt vF ?_
  refine ⟨m.keep0,?_⟩
  simp only [nY,d,e,f,j,b,g,h,cond_true,cond_false]
  exact rfl
 have aC:=dT h
 refine pu (vp i 2) (wS h) ?_
 refine pu (vp i 2) (wS h) ?_
 refine ld (vi a.Cur.N) (wS h) mT C ?_
 refine pu (vb (decide (a.Cur.N < 4294967295))) (wS h) ?_
 refine pk (vb (decide (a.Cur.N < 4294967295))) (wS b) h ?_
 refine pf (vb (decide (a.Cur.N < 4294967295))) wN b ?_
 refine aw (vb (decide (a.Cur.N < 4294967295))) ?_
 refine n3<|rt (vb (decide (a.Cur.N < 4294967295))) ?_
 refine ⟨m.keep0,?_⟩
 simp only [nY,d,e,f,j,b,g,h,cond_true,cond_false]
 exact rfl
theorem sx {c:PChan} (h:nY c=true):0≤c.Cur.N∧c.Cur.N≤4294967295∧0≤c.Role∧c.Role≤1:=by
  simp only [nY,Bool.cond_false_right,Bool.and_eq_true] at h
  have b:=tp h.1
  have a:=rx h.2.2.1
  exact ⟨a.1,a.2.1,by omega,by omega⟩

def oZ (a:Int):(Bool):=(i_within a 4 8)
theorem uX (b:World) (a:Int) :Fn Tryz.prog 43 #[(vi a)] b (fun v d=>Keep b d∧O_4 d b.heap.size v (oZ a)):=by
 refine nu (n:=5) [(vi a)] Tryz.func43 rfl rfl ?_
 refine sr<|aw vF ?_
 refine nx<|mw (vi a) ?_
 refine cl wN (oW b a 4 8) ?_
 rintro _ h ⟨e,rfl⟩
 have f:=(Ch.base b).extk e
 refine aw (vb (i_within a 4 8)) ?_
 refine n3<|rt (vb (i_within a 4 8)) ?_
 refine ⟨f.keep0,?_⟩
 have g:oZ a=(i_within a 4 8):=by rfl
 rw [g]
 exact rfl

def pO (b:Int) (a:Int):(Bool):=bif (decide (b=4)) then (decide (a≤40)) else (bif (decide (b=5)) then (decide (a=12)) else (bif (decide (b=6)) then (decide (a=12)) else (decide (a=4))))
theorem Ae (g:World) (b:Int) (a:Int) :Fn Tryz.prog 80 #[(vi b),(vi a)] g (fun v h=>Keep g h∧O_4 h g.heap.size v (pO b a)):=by
 refine nu (n:=17) [(vi b),(vi a)] Tryz.func80 rfl rfl ?_
 refine sr<|aw vF ?_
 refine n4<|mw (vi b) ?_
 refine mW<|mP<|ng<|sr<|pu (vb (decide (b=4))) wN ?_
 refine aw (vb (decide (b=4))) ?_
 refine n2 ?_
 rcases bt (decide (b=4)) with d|d
 ·have i:=dT d
  refine ct d<|sr<|mw (vi a) ?_
  refine pu (vb (decide (a≤40))) wN ?_
  refine aw (vb (decide (a≤40))) ?_
  refine mW<|mP<|oY<|nR<|np<|rt (vb (decide (a≤40))) ?_
  refine ⟨Ch.refl _ _,?_⟩
  simp only [pO,d,cond_true,cond_false]
  exact rfl
 have j:=dF d
 refine cf d<|nh<|sr<|pu (vb (decide (b=5))) wN ?_
 refine aw (vb (decide (b=5))) ?_
 refine n2 ?_
 rcases bt (decide (b=5)) with e|e
 ·have k:=dT e
  refine ct e<|nm<|mP<|ct e<|sr<|mw (vi a) ?_
  refine pu (vb (decide (a=12))) wN ?_
  refine aw (vb (decide (a=12))) ?_
  refine mW<|mP<|oY<|nR<|np<|rt (vb (decide (a=12))) ?_
  refine ⟨Ch.refl _ _,?_⟩
  simp only [pO,d,e,cond_true,cond_false]
  exact rfl
 have l:=dF e
 refine cf e<|mV ?_
 refine pu (vb (decide (b=6))) wN ?_
 refine aw (vb (decide (b=6))) ?_
 refine n2 ?_
 rcases bt (decide (b=6)) with f|f
 ·have m:=dT f
  refine ct f<|sr<|mw (vi a) ?_
  refine pu (vb (decide (a=12))) wN ?_
  refine aw (vb (decide (a=12))) ?_
  refine mW<|mP<|oY<|nR<|np<|rt (vb (decide (a=12))) ?_
  refine ⟨Ch.refl _ _,?_⟩
  simp only [pO,d,e,f,cond_true,cond_false]
  exact rfl
 have o:=dF f
 refine cf f<|nm<|mQ<|mP<|sr ?_
 refine mw (vi a) ?_
 refine pu (vb (decide (a=4))) wN ?_
 refine aw (vb (decide (a=4))) ?_
 refine n3<|rt (vb (decide (a=4))) ?_
 refine ⟨Ch.refl _ _,?_⟩
 simp only [pO,d,e,f,cond_true,cond_false]
 exact rfl

def nO (a:PFrame) (b:PFrame):(Bool):=bif (decide (a.Kind=b.Kind)) then (bif (decide (a.Id=b.Id)) then (bif (decide (a.Tick=b.Tick)) then (bif (decide (a.Epoch=b.Epoch)) then (bif (decide (a.Seq=b.Seq)) then (bif (oF a.Cn b.Cn) then (bif (oF a.Sn b.Sn) then (bif (oF a.Cookie b.Cookie) then (bif (oF a.Proof b.Proof) then (bif (oF a.Body b.Body) then ((oF a.Tag b.Tag)) else (false)) else (false)) else (false)) else (false)) else (false)) else (false)) else (false)) else (false)) else (false)) else (false)
theorem ry (t:World) (af:Value) (a:PFrame) (ax:vg t af a) (ah:Value) (b:PFrame) (ay:vg t ah b) :Fn Tryz.prog 81 #[af,ah] t (fun v ai=>Keep t ai∧O_4 ai t.heap.size v (nO a b)):=by
 obtain ⟨B,C,D,E,F,G,H,I,J,K,L,M,rfl,az,a0,a1,a2,a3,a4,a5,a6,a7,a8,a9,aA⟩:=ax
 obtain ⟨N,O,P,Q,R,S,T,V,W,X,Y,Z,rfl,aB,aC,aD,aE,aF,aG,aH,aI,aJ,aK,aL,aM⟩:=ay
 refine nu (n:=80) [(va (oD a B C D E F G H I J K L M)),(va (oD b N O P Q R S T V W X Y Z))] Tryz.func81 rfl rfl ?_
 refine sr<|bx (oD a B C D E F G H I J K L M) wN ?_
 intro m aZ ba bb aN aO
 refine bx (oD b N O P Q R S T V W X Y Z) wN ?_
 intro o aP bc bd aj r
 have q:=((Ch.base t).extk aN).extk aj
 refine aw vF ?_
 refine nx<|pu (vp m 0) wN ?_
 have s:=(aO.kp aj)
 refine ld (vi a.Kind) wN mT s ?_
 refine pu (vp o 0) wN ?_
 refine ld (vi b.Kind) wN mT r ?_
 refine pu (vb (decide (a.Kind=b.Kind))) wN ?_
 refine mw (vb (decide (a.Kind=b.Kind))) ?_
 rcases bf (decide (a.Kind=b.Kind)) with d|d
 ·have be:=dF d
  iterate 5 refine sk d ?_
  refine pf vF wN d ?_
  refine mw vF ?_
  iterate 5 refine sk F1 ?_
  refine pf vF wN F1 ?_
  refine mw vF ?_
  iterate 5 refine sk F1 ?_
  refine pf vF wN F1 ?_
  refine mw vF ?_
  iterate 5 refine sk F1 ?_
  refine pf vF wN F1 ?_
  refine mw vF ?_
  iterate 5 refine sk F1 ?_
  refine pf vF wN F1 ?_
  refine mw vF ?_
  iterate 5 refine sk F1 ?_
  refine pf vF wN F1 ?_
  refine mw vF ?_
  iterate 5 refine sk F1 ?_
  refine pf vF wN F1 ?_
  refine mw vF ?_
  iterate 5 refine sk F1 ?_
  refine pf vF wN F1 ?_
  refine mw vF ?_
  iterate 5 refine sk F1 ?_
  refine pf vF wN F1 ?_
  refine mw vF ?_
  iterate 5 refine sk F1 ?_
  refine pf vF wN F1 ?_
  refine aw vF ?_
  refine n3<|rt vF ?_
  refine ⟨q.keep0,?_⟩
  simp only [nO,d,cond_true,cond_false]
  exact rfl
 have bg:=dT d
 refine pu (vp m 1) (wS d) ?_
 refine ld (vi a.Id) (wS d) mT s ?_
 refine pu (vp o 1) (wS d) ?_
 refine ld (vi b.Id) (wS d) mT r ?_
 refine pu (vb (decide (a.Id=b.Id))) (wS d) ?_
 refine pk (vb (decide (a.Id=b.Id))) wN d ?_
 refine mw (vb (decide (a.Id=b.Id))) ?_
 rcases bf (decide (a.Id=b.Id)) with e|e
 ·have bh:=dF e
  iterate 5 refine sk e ?_
  refine pf vF wN e ?_
  refine mw vF ?_
  iterate 5 refine sk F1 ?_
  refine pf vF wN F1 ?_
  refine mw vF ?_
  iterate 5 refine sk F1 ?_
  refine pf vF wN F1 ?_
  refine mw vF ?_
  iterate 5 refine sk F1 ?_
  refine pf vF wN F1 ?_
  refine mw vF ?_
  iterate 5 refine sk F1 ?_
  refine pf vF wN F1 ?_
  refine mw vF ?_
  iterate 5 refine sk F1 ?_
  refine pf vF wN F1 ?_
  refine mw vF ?_
  iterate 5 refine sk F1 ?_
  refine pf vF wN F1 ?_
  refine mw vF ?_
  iterate 5 refine sk F1 ?_
  refine pf vF wN F1 ?_
  refine mw vF ?_
  iterate 5 refine sk F1 ?_
  refine pf vF wN F1 ?_
  refine aw vF ?_
  refine n3<|rt vF ?_
  refine ⟨q.keep0,?_⟩
  simp only [nO,d,e,cond_true,cond_false]
  exact rfl
 have bi:=dT e
 refine pu (vp m 4) (wS e) ?_
 refine ld (vi a.Tick) (wS e) mT s ?_
 refine pu (vp o 4) (wS e) ?_
 refine ld (vi b.Tick) (wS e) mT r ?_
 refine pu (vb (decide (a.Tick=b.Tick))) (wS e) ?_
 refine pk (vb (decide (a.Tick=b.Tick))) wN e ?_
 refine mw (vb (decide (a.Tick=b.Tick))) ?_
 rcases bf (decide (a.Tick=b.Tick)) with f|f
 ·have bj:=dF f
  iterate 5 refine sk f ?_
  refine pf vF wN f ?_
  refine mw vF ?_
  iterate 5 refine sk F1 ?_
  refine pf vF wN F1 ?_
  refine mw vF ?_
  iterate 5 refine sk F1 ?_
  refine pf vF wN F1 ?_
  refine mw vF ?_
  iterate 5 refine sk F1 ?_
  refine pf vF wN F1 ?_
  refine mw vF ?_
  iterate 5 refine sk F1 ?_
  refine pf vF wN F1 ?_
  refine mw vF ?_
  iterate 5 refine sk F1 ?_
  refine pf vF wN F1 ?_
  refine mw vF ?_
  iterate 5 refine sk F1 ?_
  refine pf vF wN F1 ?_
  refine mw vF ?_
  iterate 5 refine sk F1 ?_
  refine pf vF wN F1 ?_
  refine aw vF ?_
  refine n3<|rt vF ?_
  refine ⟨q.keep0,?_⟩
  simp only [nO,d,e,f,cond_true,cond_false]
  exact rfl
 have bk:=dT f
 refine pu (vp m 7) (wS f) ?_
 refine ld (vi a.Epoch) (wS f) mT s ?_
 refine pu (vp o 7) (wS f) ?_
 refine ld (vi b.Epoch) (wS f) mT r ?_
 refine pu (vb (decide (a.Epoch=b.Epoch))) (wS f) ?_
 refine pk (vb (decide (a.Epoch=b.Epoch))) wN f ?_
 refine mw (vb (decide (a.Epoch=b.Epoch))) ?_
 rcases bf (decide (a.Epoch=b.Epoch)) with g|g
 ·have bl:=dF g
  iterate 5 refine sk g ?_
  refine pf vF wN g ?_
  refine mw vF ?_
  iterate 5 refine sk F1 ?_
  refine pf vF wN F1 ?_
  refine mw vF ?_
  iterate 5 refine sk F1 ?_
  refine pf vF wN F1 ?_
  refine mw vF ?_
  iterate 5 refine sk F1 ?_
  refine pf vF wN F1 ?_
  refine mw vF ?_
  iterate 5 refine sk F1 ?_
  refine pf vF wN F1 ?_
  refine mw vF ?_
  iterate 5 refine sk F1 ?_
  refine pf vF wN F1 ?_
  refine mw vF ?_
  iterate 5 refine sk F1 ?_
  refine pf vF wN F1 ?_
  refine aw vF ?_
  refine n3<|rt vF ?_
  refine ⟨q.keep0,?_⟩
  simp only [nO,d,e,f,g,cond_true,cond_false]
  exact rfl
 have bm:=dT g
 refine pu (vp m 8) (wS g) ?_
 refine ld (vi a.Seq) (wS g) mT s ?_
 refine pu (vp o 8) (wS g) ?_
 refine ld (vi b.Seq) (wS g) mT r ?_
 refine pu (vb (decide (a.Seq=b.Seq))) (wS g) ?_
 refine pk (vb (decide (a.Seq=b.Seq))) wN g ?_
 refine mw (vb (decide (a.Seq=b.Seq))) ?_
 rcases bf (decide (a.Seq=b.Seq)) with h|h
 ·have bn:=dF h
  iterate 5 refine sk h ?_
  refine pf vF wN h ?_
  refine mw vF ?_
  iterate 5 refine sk F1 ?_
  refine pf vF wN F1 ?_
  refine mw vF ?_
  iterate 5 refine sk F1 ?_
  refine pf vF wN F1 ?_
  refine mw vF ?_
  iterate 5 refine sk F1 ?_
  refine pf vF wN F1 ?_
  refine mw vF ?_
  iterate 5 refine sk F1 ?_
  refine pf vF wN F1 ?_
  refine mw vF ?_
  iterate 5 refine sk F1 ?_
  refine pf vF wN F1 ?_
  refine aw vF ?_
  refine n3<|rt vF ?_
  refine ⟨q.keep0,?_⟩
  simp only [nO,d,e,f,g,h,cond_true,cond_false]
  exact rfl
 have bo:=dT h
 refine pu (vp m 2) (wS h) ?_
 refine ld (vs B a.Cn.length C) (wS h) nd s ?_
 refine pu (vp o 2) (wS h) ?_
 refine ld (vs N b.Cn.length O) (wS h) nd r ?_
 refine cl (wS h) (rY aP _ a.Cn (nH (az.from0 q) a0) _ b.Cn (nH (aB.from0 q) aC)) ?_
 rintro _ aQ ⟨aa,rfl⟩
 have u:=q.extk aa
 refine pk (vb (oF a.Cn b.Cn)) wN h ?_
 refine mw (vb (oF a.Cn b.Cn)) ?_
 rcases bf (oF a.Cn b.Cn) with i|i
 ·iterate 5 refine sk i ?_
  refine pf vF wN i ?_
  refine mw vF ?_
  iterate 5 refine sk F1 ?_
  refine pf vF wN F1 ?_
  refine mw vF ?_
  iterate 5 refine sk F1 ?_
  refine pf vF wN F1 ?_
  refine mw vF ?_
  iterate 5 refine sk F1 ?_
  refine pf vF wN F1 ?_
  refine mw vF ?_
  iterate 5 refine sk F1 ?_
  refine pf vF wN F1 ?_
  refine aw vF ?_
  refine n3<|rt vF ?_
  refine ⟨u.keep0,?_⟩
  simp only [nO,d,e,f,g,h,i,cond_true,cond_false]
  exact rfl
 refine pu (vp m 3) (wS i) ?_
 have ak:=(s.kp aa)
 refine ld (vs D a.Sn.length E) (wS i) nd ak ?_
 refine pu (vp o 3) (wS i) ?_
 have am:=(r.kp aa)
 refine ld (vs P b.Sn.length Q) (wS i) nd am ?_
 refine cl (wS i) (rY aQ _ a.Sn (nH (a1.from0 u) a2) _ b.Sn (nH (aD.from0 u) aE)) ?_
 rintro _ aR ⟨ab,rfl⟩
 have w:=u.extk ab
 refine pk (vb (oF a.Sn b.Sn)) wN i ?_
 refine mw (vb (oF a.Sn b.Sn)) ?_
 rcases bf (oF a.Sn b.Sn) with j|j
 ·iterate 5 refine sk j ?_
  refine pf vF wN j ?_
  refine mw vF ?_
  iterate 5 refine sk F1 ?_
  refine pf vF wN F1 ?_
  refine mw vF ?_
  iterate 5 refine sk F1 ?_
  refine pf vF wN F1 ?_
  refine mw vF ?_
  iterate 5 refine sk F1 ?_
  refine pf vF wN F1 ?_
  refine aw vF ?_
  refine n3<|rt vF ?_
  refine ⟨w.keep0,?_⟩
  simp only [nO,d,e,f,g,h,i,j,cond_true,cond_false]
  exact rfl
 refine pu (vp m 5) (wS j) ?_
 have an:=(ak.kp ab)
 refine ld (vs F a.Cookie.length G) (wS j) nd an ?_
 refine pu (vp o 5) (wS j) ?_
 have ao:=(am.kp ab)
 refine ld (vs R b.Cookie.length S) (wS j) nd ao ?_
 refine cl (wS j) (rY aR _ a.Cookie (nH (a3.from0 w) a4) _ b.Cookie (nH (aF.from0 w) aG)) ?_
 rintro _ aS ⟨ac,rfl⟩
 have x:=w.extk ac
 refine pk (vb (oF a.Cookie b.Cookie)) wN j ?_
 refine mw (vb (oF a.Cookie b.Cookie)) ?_
 rcases bf (oF a.Cookie b.Cookie) with k|k
 ·iterate 5 refine sk k ?_
  refine pf vF wN k ?_
  refine mw vF ?_
  iterate 5 refine sk F1 ?_
  refine pf vF wN F1 ?_
  refine mw vF ?_
  iterate 5 refine sk F1 ?_
  refine pf vF wN F1 ?_
  refine aw vF ?_
  refine n3<|rt vF ?_
  refine ⟨x.keep0,?_⟩
  simp only [nO,d,e,f,g,h,i,j,k,cond_true,cond_false]
  exact rfl
 refine pu (vp m 6) (wS k) ?_
 have ap:=(an.kp ac)
 refine ld (vs H a.Proof.length I) (wS k) nd ap ?_
 refine pu (vp o 6) (wS k) ?_
 have aq:=(ao.kp ac)
 refine ld (vs T b.Proof.length V) (wS k) nd aq ?_
 refine cl (wS k) (rY aS _ a.Proof (nH (a5.from0 x) a6) _ b.Proof (nH (aH.from0 x) aI)) ?_
 rintro _ aT ⟨ad,rfl⟩
 have y:=x.extk ad
 refine pk (vb (oF a.Proof b.Proof)) wN k ?_
 refine mw (vb (oF a.Proof b.Proof)) ?_
 rcases bf (oF a.Proof b.Proof) with l|l
 ·iterate 5 refine sk l ?_
  refine pf vF wN l ?_
  refine mw vF ?_
  iterate 5 refine sk F1 ?_
  refine pf vF wN F1 ?_
  refine aw vF ?_
  refine n3<|rt vF ?_
  refine ⟨y.keep0,?_⟩
  simp only [nO,d,e,f,g,h,i,j,k,l,cond_true,cond_false]
  exact rfl
 refine pu (vp m 9) (wS l) ?_
 have au:=(ap.kp ad)
 refine ld (vs J a.Body.length K) (wS l) nd au ?_
 refine pu (vp o 9) (wS l) ?_
 have av:=(aq.kp ad)
 refine ld (vs W b.Body.length X) (wS l) nd av ?_
 refine cl (wS l) (rY aT _ a.Body (nH (a7.from0 y) a8) _ b.Body (nH (aJ.from0 y) aK)) ?_
 rintro _ aU ⟨ae,rfl⟩
 have A:=y.extk ae
 refine pk (vb (oF a.Body b.Body)) wN l ?_
 refine mw (vb (oF a.Body b.Body)) ?_
 rcases bf (oF a.Body b.Body) with p|p
 ·iterate 5 refine sk p ?_
  refine pf vF wN p ?_
  refine aw vF ?_
  refine n3<|rt vF ?_
  refine ⟨A.keep0,?_⟩
  simp only [nO,d,e,f,g,h,i,j,k,l,p,cond_true,cond_false]
  exact rfl
 refine pu (vp m 10) (wS p) ?_
 have aV:=(au.kp ae)
 refine ld (vs L a.Tag.length M) (wS p) nd aV ?_
 refine pu (vp o 10) (wS p) ?_
 have aW:=(av.kp ae)
 refine ld (vs Y b.Tag.length Z) (wS p) nd aW ?_
 refine cl (wS p) (rY aU _ a.Tag (nH (a9.from0 A) aA) _ b.Tag (nH (aL.from0 A) aM)) ?_
 rintro _ bp ⟨aX,rfl⟩
 have aY:=A.extk aX
 refine pk (vb (oF a.Tag b.Tag)) wN p ?_
 refine aw (vb (oF a.Tag b.Tag)) ?_
 refine n3<|rt (vb (oF a.Tag b.Tag)) ?_
 refine ⟨aY.keep0,?_⟩
 simp only [nO,d,e,f,g,h,i,j,k,l,p,cond_true,cond_false]
 exact rfl

def nW (a:PFrame):(Bool):=bif (decide (a.Kind=1)) then (bif (i_within a.Id 1 9) then (bif (nZ a.Cn) then ((nO a {Kind:=a.Kind,Id:=a.Id,Cn:=a.Cn,Sn:=[],Tick:=0,Cookie:=[],Proof:=[],Epoch:=0,Seq:=0,Body:=[],Tag:=[]:PFrame})) else (false)) else (false)) else (bif (decide (a.Kind=2)) then (bif (nZ a.Cn) then (bif (nZ a.Sn) then (bif (i_within a.Tick 0 1000000) then (bif (decide ((a.Cookie.length:Int)=16)) then ((nO a {Kind:=a.Kind,Id:=0,Cn:=a.Cn,Sn:=a.Sn,Tick:=a.Tick,Cookie:=a.Cookie,Proof:=[],Epoch:=0,Seq:=0,Body:=[],Tag:=[]:PFrame})) else (false)) else (false)) else (false)) else (false)) else (bif (decide (a.Kind=3)) then (bif (i_within a.Id 1 9) then (bif (nZ a.Cn) then (bif (nZ a.Sn) then (bif (i_within a.Tick 0 1000000) then (bif (decide ((a.Cookie.length:Int)=16)) then (bif (decide ((a.Proof.length:Int)=16)) then ((nO a {a with Epoch:=0,Seq:=0,Body:=[],Tag:=[]:PFrame})) else (false)) else (false)) else (false)) else (false)) else (false)) else (false)) else (bif (oZ a.Kind) then (bif (nZ a.Sn) then (bif (i_within a.Epoch 0 4294967295) then (bif (i_within a.Seq 0 281474976710655) then (bif (decide ((a.Tag.length:Int)=16)) then (bif (pO a.Kind (a.Body.length:Int)) then ((nO a {a with Id:=0,Cn:=[],Tick:=0,Cookie:=[],Proof:=[]:PFrame})) else (false)) else (false)) else (false)) else (false)) else (false)) else (false))))
theorem vV (az:World) (aS:Value) (a:PFrame) (b3:vg az aS a) :Fn Tryz.prog 44 #[aS] az (fun v o=>Keep az o∧O_4 o az.heap.size v (nW a)):=by
 obtain ⟨i,j,f,g,s,u,J,K,C,D,L,M,rfl,ac,ad,ae,af,am,au,av,a0,ax,a1,ay,a2⟩:=b3
 refine nu (n:=165) [(va (oD a i j f g s u J K C D L M))] Tryz.func44 rfl rfl ?_
 refine sr<|bx (oD a i j f g s u J K C D L M) wN ?_
 intro d di dj r ah aT
 refine aw vF ?_
 refine nx<|pu (vp d 0) wN ?_
 refine ld (vi a.Kind) wN mT aT ?_
 refine pu (va [(vi a.Kind),(vi 0),(vs none 0 0),(vs none 0 0),(vi 0),(vs none 0 0),(vs none 0 0),(vi 0),(vi 0),(vs none 0 0),(vs none 0 0)]) wN ?_
 refine al vf wN pW ?_
 intro b dk l dl aU b4
 refine sv [(vi a.Kind),(vi 0),(vs none 0 0),(vs none 0 0),(vi 0),(vs none 0 0),(vs none 0 0),(vi 0),(vi 0),(vs none 0 0),(vs none 0 0)] wN mZ b4 ?_
 intro a5 aV a6 dm
 have a7:=(((Ch.base az).extk ah).extk aU).ext aV (fun k hk=>by subst hk;exact nT ah.size l)
 refine nx<|aw vF ?_
 refine mW<|mP<|nh<|ng<|sr<|pu (vp d 0) wN ?_
 have x:=((aT.kp aU).ch aV (nN (nL r (l))))
 refine ld (vi a.Kind) wN mT x ?_
 refine pu (vb (decide (a.Kind=1))) wN ?_
 refine aw (vb (decide (a.Kind=1))) ?_
 refine n2 ?_
 rcases bt (decide (a.Kind=1)) with p|p
 ·have dn:=dT p
  refine ct p<|nh<|ob ([(12,[],[],(fun _ v _=>v=(vp d 1))),(13,[],[0],(fun _ v _=>v=(vi a.Id))),(14,[],[],(fun _ v _=>v=(vp d 2))),(15,[],[2],(fun _ v _=>v=(vs i a.Cn.length j))),(16,[],[0,1],(fun _ v _=>v=(vp b 1))),(170,[],[0,1,4],(fun _ _ w=>BK w b 42 1 ([(vi a.Id)])))]:GV) (fun lf o=>Ch (fun k=>k=b) a5 o∧RK lf o b 42 [(vi a.Kind),(vi 0),(vs none 0 0),(vs none 0 0),(vi 0),(vs none 0 0),(vs none 0 0),(vi 0),(vi 0),(vs none 0 0),(vs none 0 0)] [(5,1,1)]) [(5,TK b 42 1 1)] oM rfl (by kernel_rfl) (by kernel_rfl) ?_ (fun _ _ h=>⟨h.to _,RK.z a6 h⟩) (fun _ _ _ _ h mo k=>by obtain ⟨hc,m⟩:=h;exact ⟨hc.comp k (fun _ _ q=>q.elim),m.kp mo k⟩) ⟨(fun _ _ w o h mo hj t=>by obtain ⟨hc,m⟩:=h;exact ⟨hc.comp t.1 (fun _ _ q=>q),m.st mo hj (.head _) t⟩),trivial⟩ ?_ ?_ ?_
  ·exact ⟨hV,hE,⟨hV,hE,⟨hV,hE,⟨hV,hE,⟨hV,hE,⟨sK,hE,trivial⟩⟩⟩⟩⟩⟩
  ·exact ⟨⟨.inr hV,⟨.inr hV,⟨.inr hV,⟨.inr hV,⟨.inr hV,⟨.inl rfl,trivial⟩⟩⟩⟩⟩⟩,trivial⟩
  ·refine ⟨?_,⟨?_,⟨?_,⟨?_,⟨?_,⟨?_,trivial⟩⟩⟩⟩⟩⟩
   ·rintro lf e ⟨dp,dq⟩ ⟨dr,-⟩
    rintro _ _ _ _ _ _
    refine sw<|pu (vp d 1) wN ?_
    exact f1
   ·rintro lf e ⟨b5,ds⟩ ⟨dt,-⟩
    rintro _ rfl _ _ _ _ _
    refine sw ?_
    have b6:=(x.ch b5 (nN (nL r (l))))
    refine ld (vi a.Id) wN mT b6 ?_
    exact f1
   ·rintro lf e ⟨du,dv⟩ ⟨dw,-⟩
    rintro _ _ _ _ _ _
    refine sw<|pu (vp d 2) wN ?_
    exact f1
   ·rintro lf e ⟨b7,dx⟩ ⟨dy,-⟩
    rintro _ _ _ rfl _ _ _
    refine sw ?_
    have b8:=(x.ch b7 (nN (nL r (l))))
    refine ld (vs i a.Cn.length j) wN nd b8 ?_
    exact f1
   ·rintro lf e ⟨dz,d0⟩ ⟨d1,-⟩
    rintro _ rfl _ rfl _ _ _ _
    refine sw<|pu (vp b 1) wN ?_
    exact f1
   ·rintro lf e ⟨d2,b9⟩ ⟨d3,-⟩
    rintro _ rfl _ rfl _ _ _ rfl _
    exact sw<|stK (vi a.Id) [(vi a.Id)] wN nV b9 (fun _ h=>h) (fun _ t=>t)
  ·rintro lf e ⟨aW,bA⟩
   have bB:=a7.ext aW (fun k hk=>by subst hk;exact nT ah.size l)
   rintro _ rfl _ rfl _ rfl _ rfl _ rfl _ bC
   have bD:Blk e b 42 [(vi a.Kind),(vi a.Id),(vs none 0 0),(vs none 0 0),(vi 0),(vs none 0 0),(vs none 0 0),(vi 0),(vi 0),(vs none 0 0),(vs none 0 0)]:=RK.fin bA [(1,[(vi a.Id)])] ⟨bC,trivial⟩
   refine sw<|pu (vp b 2) wN ?_
   refine sf (vs i a.Cn.length j) wN nG bD ?_
   intro y aX bE d4
   have bF:=bB.ext aX (fun k hk=>by subst hk;exact nT ah.size l)
   refine mW<|mP<|mV ?_
   refine pu (vp d 1) wN ?_
   have aY:=((x.ch aW (nN (nL r (l)))).ch aX (nN (nL r (l))))
   refine ld (vi a.Id) wN mT aY ?_
   refine cl wN (oW y a.Id 1 9) ?_
   rintro _ ap ⟨a9,rfl⟩
   have aA:=bF.extk a9
   refine mw (vb (i_within a.Id 1 9)) ?_
   rcases bf (i_within a.Id 1 9) with X|X
   ·have d5:=oe X
    iterate 3 refine sk X ?_
    refine pf vF wN X ?_
    refine aw vF ?_
    refine mW<|mQ<|mP<|sr ?_
    refine mw vF ?_
    refine mw vF ?_
    iterate 3 refine sk F1 ?_
    refine pf vF wN F1 ?_
    refine aw vF ?_
    refine n3<|rt vF ?_
    refine ⟨aA.keep0,?_⟩
    simp only [nW,p,X,cond_true,cond_false]
    exact rfl
   have d6:=nD X
   refine pu (vp d 2) (wS X) ?_
   have aZ:=(aY.kp a9)
   refine ld (vs i a.Cn.length j) (wS X) nd aZ ?_
   refine cl (wS X) (qy ap _ a.Cn (nH (ac.from0 aA) ad)) ?_
   rintro _ an ⟨aB,rfl⟩
   have aj:=aA.extk aB
   refine pk (vb (nZ a.Cn)) wN X ?_
   refine aw (vb (nZ a.Cn)) ?_
   refine mW<|mQ<|mP<|sr ?_
   refine mw (vb (nZ a.Cn)) ?_
   refine mw (vb (nZ a.Cn)) ?_
   rcases bf (nZ a.Cn) with Y|Y
   ·have d7:=qv Y
    iterate 3 refine sk Y ?_
    refine pf vF wN Y ?_
    refine aw vF ?_
    refine n3<|rt vF ?_
    refine ⟨aj.keep0,?_⟩
    simp only [nW,p,X,Y,cond_true,cond_false]
    exact rfl
   have d8:=qu Y
   have bG:=(aZ.kp aB)
   refine lN (oD a i j f g s u J K C D L M) (wS Y) nk mZ bG ?_
   have bH:=((bE.kp a9).kp aB)
   refine lN [(vi a.Kind),(vi a.Id),(vs i a.Cn.length j),(vs none 0 0),(vi 0),(vs none 0 0),(vs none 0 0),(vi 0),(vi 0),(vs none 0 0),(vs none 0 0)] (wS Y) nk mZ bH ?_
   refine cl (wS Y) (ry an _ a (qI (ac.from0 aj) ad (ae.from0 aj) af (am.from0 aj) au (av.from0 aj) a0 (ax.from0 aj) a1 (ay.from0 aj) a2) _ _ (show vg an (va [(vi a.Kind),(vi a.Id),(vs i a.Cn.length j),(vs none 0 0),(vi 0),(vs none 0 0),(vs none 0 0),(vi 0),(vi 0),(vs none 0 0),(vs none 0 0)]) {Kind:=a.Kind,Id:=a.Id,Cn:=a.Cn,Sn:=[],Tick:=0,Cookie:=[],Proof:=[],Epoch:=0,Seq:=0,Body:=[],Tag:=[]:PFrame} from ⟨_,_,_,_,_,_,_,_,_,_,_,_,rfl,(ac.from0 aj),ad,(Rd.nil _ _),(by simp),(Rd.nil _ _),(by simp),(Rd.nil _ _),(by simp),(Rd.nil _ _),(by simp),(Rd.nil _ _),(by simp)⟩)) ?_
   rintro _ aq ⟨bI,rfl⟩
   have bJ:=aj.extk bI
   refine pk (vb (nO a {Kind:=a.Kind,Id:=a.Id,Cn:=a.Cn,Sn:=[],Tick:=0,Cookie:=[],Proof:=[],Epoch:=0,Seq:=0,Body:=[],Tag:=[]:PFrame})) wN Y ?_
   refine aw (vb (nO a {Kind:=a.Kind,Id:=a.Id,Cn:=a.Cn,Sn:=[],Tick:=0,Cookie:=[],Proof:=[],Epoch:=0,Seq:=0,Body:=[],Tag:=[]:PFrame})) ?_
   refine n3<|rt (vb (nO a {Kind:=a.Kind,Id:=a.Id,Cn:=a.Cn,Sn:=[],Tick:=0,Cookie:=[],Proof:=[],Epoch:=0,Seq:=0,Body:=[],Tag:=[]:PFrame})) ?_
   refine ⟨bJ.keep0,?_⟩
   simp only [nW,p,X,Y,cond_true,cond_false]
   exact rfl
 have d9:=dF p
 refine cf p<|sr<|pu (vp d 0) wN ?_
 refine ld (vi a.Kind) wN mT x ?_
 refine pu (vb (decide (a.Kind=2))) wN ?_
 refine aw (vb (decide (a.Kind=2))) ?_
 refine n2 ?_
 rcases bt (decide (a.Kind=2)) with A|A
 ·have dA:=dT A
  refine ct A<|nh<|ob ([(30,[],[],(fun _ v _=>v=(vp d 2))),(31,[],[0],(fun _ v _=>v=(vs i a.Cn.length j))),(32,[],[],(fun _ v _=>v=(vp d 3))),(33,[],[2],(fun _ v _=>v=(vs f a.Sn.length g))),(34,[],[],(fun _ v _=>v=(vp d 4))),(35,[],[4],(fun _ v _=>v=(vi a.Tick))),(36,[],[],(fun _ v _=>v=(vp d 5))),(37,[],[6],(fun _ v _=>v=(vs s a.Cookie.length u))),(38,[],[0,1],(fun _ v _=>v=(vp b 2))),(174,[],[0,1,8],(fun _ _ w=>BK w b 42 2 ([(vs i a.Cn.length j)]))),(39,[],[0,1,2,3,8,9],(fun _ v _=>v=(vp b 3))),(176,[],[0,1,2,3,8,9,10],(fun _ _ w=>BK w b 42 3 ([(vs f a.Sn.length g)]))),(40,[],[0,1,2,3,4,5,8,9,10,11],(fun _ v _=>v=(vp b 4))),(178,[],[0,1,2,3,4,5,8,9,10,11,12],(fun _ _ w=>BK w b 42 4 ([(vi a.Tick)])))]:GV) (fun lf o=>Ch (fun k=>k=b) a5 o∧RK lf o b 42 [(vi a.Kind),(vi 0),(vs none 0 0),(vs none 0 0),(vi 0),(vs none 0 0),(vs none 0 0),(vi 0),(vi 0),(vs none 0 0),(vs none 0 0)] [(9,2,1),(11,3,1),(13,4,1)]) [(9,TK b 42 2 1),(11,TK b 42 3 1),(13,TK b 42 4 1)] oM rfl (by kernel_rfl) (by kernel_rfl) ?_ (fun _ _ h=>⟨h.to _,RK.z a6 h⟩) (fun _ _ _ _ h mo k=>by obtain ⟨hc,m⟩:=h;exact ⟨hc.comp k (fun _ _ q=>q.elim),m.kp mo k⟩) ⟨(fun _ _ w o h mo hj t=>by obtain ⟨hc,m⟩:=h;exact ⟨hc.comp t.1 (fun _ _ q=>q),m.st mo hj (.head _) t⟩),⟨(fun _ _ w o h mo hj t=>by obtain ⟨hc,m⟩:=h;exact ⟨hc.comp t.1 (fun _ _ q=>q),m.st mo hj (.tail _ (.head _)) t⟩),⟨(fun _ _ w o h mo hj t=>by obtain ⟨hc,m⟩:=h;exact ⟨hc.comp t.1 (fun _ _ q=>q),m.st mo hj (.tail _ (.tail _ (.head _))) t⟩),trivial⟩⟩⟩ ?_ ?_ ?_
  ·exact ⟨hV,hE,⟨hV,hE,⟨hV,hE,⟨hV,hE,⟨hV,hE,⟨hV,hE,⟨hV,hE,⟨hV,hE,⟨hV,hE,⟨sK,hE,⟨hV,hE,⟨sK,hE,⟨hV,hE,⟨sK,hE,trivial⟩⟩⟩⟩⟩⟩⟩⟩⟩⟩⟩⟩⟩⟩
  ·exact ⟨⟨.inr hV,⟨.inr hV,⟨.inr hV,⟨.inr hV,⟨.inr hV,⟨.inr hV,⟨.inr hV,⟨.inr hV,⟨.inr hV,⟨.inl rfl,⟨.inr hV,⟨.inr (sKs 1 (.inl rfl)),⟨.inr hV,⟨.inr (sKs 1 (.inl rfl)),trivial⟩⟩⟩⟩⟩⟩⟩⟩⟩⟩⟩⟩⟩⟩,⟨⟨.inr hV,⟨.inr hV,⟨.inr hV,⟨.inr hV,⟨.inr hV,⟨.inr hV,⟨.inr hV,⟨.inr hV,⟨.inr hV,⟨.inr (sKs 1 (.inr rfl)),⟨.inr hV,⟨.inl rfl,⟨.inr hV,⟨.inr (sKs 1 (.inl rfl)),trivial⟩⟩⟩⟩⟩⟩⟩⟩⟩⟩⟩⟩⟩⟩,⟨⟨.inr hV,⟨.inr hV,⟨.inr hV,⟨.inr hV,⟨.inr hV,⟨.inr hV,⟨.inr hV,⟨.inr hV,⟨.inr hV,⟨.inr (sKs 1 (.inr rfl)),⟨.inr hV,⟨.inr (sKs 1 (.inr rfl)),⟨.inr hV,⟨.inl rfl,trivial⟩⟩⟩⟩⟩⟩⟩⟩⟩⟩⟩⟩⟩⟩,trivial⟩⟩⟩
  ·refine ⟨?_,⟨?_,⟨?_,⟨?_,⟨?_,⟨?_,⟨?_,⟨?_,⟨?_,⟨?_,⟨?_,⟨?_,⟨?_,⟨?_,trivial⟩⟩⟩⟩⟩⟩⟩⟩⟩⟩⟩⟩⟩⟩
   ·rintro lf e ⟨dB,dC⟩ ⟨dD,dE,dG,-⟩
    iterate 14 intro _
    refine sw<|pu (vp d 2) wN ?_
    exact f1
   ·rintro lf e ⟨bK,dH⟩ ⟨dI,dJ,dK,-⟩
    rintro _ rfl;iterate 13 intro _
    refine sw ?_
    have bL:=(x.ch bK (nN (nL r (l))))
    refine ld (vs i a.Cn.length j) wN nd bL ?_
    exact f1
   ·rintro lf e ⟨dL,dM⟩ ⟨dN,dO,dP,-⟩
    iterate 14 intro _
    refine sw<|pu (vp d 3) wN ?_
    exact f1
   ·rintro lf e ⟨bM,dQ⟩ ⟨dR,dS,dU,-⟩
    rintro _ _ _ rfl _ _ _ _ _ _ _ _ _ _ _
    refine sw ?_
    have bN:=(x.ch bM (nN (nL r (l))))
    refine ld (vs f a.Sn.length g) wN nd bN ?_
    exact f1
   ·rintro lf e ⟨dV,dW⟩ ⟨dX,dY,dZ,-⟩
    iterate 14 intro _
    refine sw<|pu (vp d 4) wN ?_
    exact f1
   ·rintro lf e ⟨bO,ea⟩ ⟨ec,ed,ee,-⟩
    rintro _ _ _ _ _ rfl _ _ _ _ _ _ _ _ _
    refine sw ?_
    have bP:=(x.ch bO (nN (nL r (l))))
    refine ld (vi a.Tick) wN mT bP ?_
    exact f1
   ·rintro lf e ⟨ef,eg⟩ ⟨eh,ej,ek,-⟩
    iterate 14 intro _
    refine sw<|pu (vp d 5) wN ?_
    exact f1
   ·rintro lf e ⟨bQ,em⟩ ⟨en,eo,ep,-⟩
    rintro _ _ _ _ _ _ _ rfl _ _ _ _ _ _ _
    refine sw ?_
    have bR:=(x.ch bQ (nN (nL r (l))))
    refine ld (vs s a.Cookie.length u) wN nd bR ?_
    exact f1
   ·rintro lf e ⟨er,es⟩ ⟨et,eu,ew,-⟩
    rintro _ rfl _ rfl _ _ _ _ _ _ _ _ _ _ _ _
    refine sw<|pu (vp b 2) wN ?_
    exact f1
   ·rintro lf e ⟨ex,bS⟩ ⟨ey,ez,e0,-⟩
    rintro _ rfl _ rfl _ _ _ _ _ _ _ rfl _ _ _ _ _
    exact sw<|stK (vs i a.Cn.length j) [(vs i a.Cn.length j)] wN nG bS (fun _ h=>h) (fun _ t=>t)
   ·rintro lf e ⟨e1,e2⟩ ⟨e3,e4,e5,-⟩
    rintro _ rfl _ rfl _ rfl _ rfl _ _ _ _ _ rfl _ _ _ _ _ _
    refine sw<|pu (vp b 3) wN ?_
    exact f1
   ·rintro lf e ⟨e6,bT⟩ ⟨e7,e8,e9,-⟩
    rintro _ rfl _ rfl _ rfl _ rfl _ _ _ _ _ rfl _ _ _ rfl _ _ _
    exact sw<|stK (vs f a.Sn.length g) [(vs f a.Sn.length g)] wN nG bT (fun _ h=>h) (fun _ t=>t)
   ·rintro lf e ⟨eA,eB⟩ ⟨eC,eD,eE,-⟩
    rintro _ rfl _ rfl _ rfl _ rfl _ rfl _ rfl _ _ _ rfl _ _ _ rfl _ _ _ _
    refine sw<|pu (vp b 4) wN ?_
    exact f1
   ·rintro lf e ⟨eF,bU⟩ ⟨eG,eH,eI,-⟩
    rintro _ rfl _ rfl _ rfl _ rfl _ rfl _ rfl _ _ _ rfl _ _ _ rfl _ _ _ rfl _
    exact sw<|stK (vi a.Tick) [(vi a.Tick)] wN nV bU (fun _ h=>h) (fun _ t=>t)
  ·rintro lf e ⟨ba,bW⟩
   have bX:=a7.ext ba (fun k hk=>by subst hk;exact nT ah.size l)
   iterate 9 rintro _ rfl
   rintro _ bY _ rfl _ bZ _ rfl _ ca
   have cb:Blk e b 42 [(vi a.Kind),(vi 0),(vs i a.Cn.length j),(vs f a.Sn.length g),(vi a.Tick),(vs none 0 0),(vs none 0 0),(vi 0),(vi 0),(vs none 0 0),(vs none 0 0)]:=RK.fin bW [(2,[(vs i a.Cn.length j)]),(3,[(vs f a.Sn.length g)]),(4,[(vi a.Tick)])] ⟨bY,bZ,ca,trivial⟩
   refine sw<|pu (vp b 5) wN ?_
   refine sf (vs s a.Cookie.length u) wN nG cb ?_
   intro y bb cc eJ
   have bc:=bX.ext bb (fun k hk=>by subst hk;exact nT ah.size l)
   refine mW<|mP<|mV ?_
   refine pu (vp d 2) wN ?_
   have bd:=((x.ch ba (nN (nL r (l)))).ch bb (nN (nL r (l))))
   refine ld (vs i a.Cn.length j) wN nd bd ?_
   refine cl wN (qy y _ a.Cn (nH (ac.from0 bc) ad)) ?_
   rintro _ ap ⟨aC,rfl⟩
   have aD:=bc.extk aC
   refine mw (vb (nZ a.Cn)) ?_
   rcases bf (nZ a.Cn) with N|N
   ·have eK:=qv N
    iterate 3 refine sk N ?_
    refine pf vF wN N ?_
    refine mw vF ?_
    iterate 3 refine sk F1 ?_
    refine pf vF wN F1 ?_
    refine mw vF ?_
    iterate 4 refine sk F1 ?_
    refine pf vF wN F1 ?_
    refine aw vF ?_
    refine mW<|mQ<|mP<|sr ?_
    refine mw vF ?_
    refine mw vF ?_
    iterate 3 refine sk F1 ?_
    refine pf vF wN F1 ?_
    refine aw vF ?_
    refine n3<|rt vF ?_
    refine ⟨aD.keep0,?_⟩
    simp only [nW,p,A,N,cond_true,cond_false]
    exact rfl
   have eL:=qu N
   refine pu (vp d 3) (wS N) ?_
   have be:=(bd.kp aC)
   refine ld (vs f a.Sn.length g) (wS N) nd be ?_
   refine cl (wS N) (qy ap _ a.Sn (nH (ae.from0 aD) af)) ?_
   rintro _ an ⟨aE,rfl⟩
   have bg:=aD.extk aE
   refine pk (vb (nZ a.Sn)) wN N ?_
   refine mw (vb (nZ a.Sn)) ?_
   rcases bf (nZ a.Sn) with S|S
   ·have eM:=qv S
    iterate 3 refine sk S ?_
    refine pf vF wN S ?_
    refine mw vF ?_
    iterate 4 refine sk F1 ?_
    refine pf vF wN F1 ?_
    refine aw vF ?_
    refine mW<|mQ<|mP<|sr ?_
    refine mw vF ?_
    refine mw vF ?_
    iterate 3 refine sk F1 ?_
    refine pf vF wN F1 ?_
    refine aw vF ?_
    refine n3<|rt vF ?_
    refine ⟨bg.keep0,?_⟩
    simp only [nW,p,A,N,S,cond_true,cond_false]
    exact rfl
   have eN:=qu S
   refine pu (vp d 4) (wS S) ?_
   have bh:=(be.kp aE)
   refine ld (vi a.Tick) (wS S) mT bh ?_
   refine cl (wS S) (oW an a.Tick 0 1000000) ?_
   rintro _ aq ⟨aF,rfl⟩
   have T:=bg.extk aF
   refine pk (vb (i_within a.Tick 0 1000000)) wN S ?_
   refine mw (vb (i_within a.Tick 0 1000000)) ?_
   rcases bf (i_within a.Tick 0 1000000) with V|V
   ·have eO:=oe V
    iterate 4 refine sk V ?_
    refine pf vF wN V ?_
    refine aw vF ?_
    refine mW<|mQ<|mP<|sr ?_
    refine mw vF ?_
    refine mw vF ?_
    iterate 3 refine sk F1 ?_
    refine pf vF wN F1 ?_
    refine aw vF ?_
    refine n3<|rt vF ?_
    refine ⟨T.keep0,?_⟩
    simp only [nW,p,A,N,S,V,cond_true,cond_false]
    exact rfl
   have eP:=nD V
   refine pu (vp d 5) (wS V) ?_
   have bi:=(bh.kp aF)
   refine ld (vs s a.Cookie.length u) (wS V) nd bi ?_
   refine ln (wS V) mR (am.from0 T) ?_
   refine pu (vb (decide ((a.Cookie.length:Int)=16))) (wS V) ?_
   refine pk (vb (decide ((a.Cookie.length:Int)=16))) wN V ?_
   refine aw (vb (decide ((a.Cookie.length:Int)=16))) ?_
   refine mW<|mQ<|mP<|sr ?_
   refine mw (vb (decide ((a.Cookie.length:Int)=16))) ?_
   refine mw (vb (decide ((a.Cookie.length:Int)=16))) ?_
   rcases bf (decide ((a.Cookie.length:Int)=16)) with Z|Z
   ·have eQ:=dF Z
    iterate 3 refine sk Z ?_
    refine pf vF wN Z ?_
    refine aw vF ?_
    refine n3<|rt vF ?_
    refine ⟨T.keep0,?_⟩
    simp only [nW,p,A,N,S,V,Z,cond_true,cond_false]
    exact rfl
   have eR:=dT Z
   refine lN (oD a i j f g s u J K C D L M) (wS Z) nk mZ bi ?_
   have cd:=(((cc.kp aC).kp aE).kp aF)
   refine lN [(vi a.Kind),(vi 0),(vs i a.Cn.length j),(vs f a.Sn.length g),(vi a.Tick),(vs s a.Cookie.length u),(vs none 0 0),(vi 0),(vi 0),(vs none 0 0),(vs none 0 0)] (wS Z) nk mZ cd ?_
   refine cl (wS Z) (ry aq _ a (qI (ac.from0 T) ad (ae.from0 T) af (am.from0 T) au (av.from0 T) a0 (ax.from0 T) a1 (ay.from0 T) a2) _ _ (show vg aq (va [(vi a.Kind),(vi 0),(vs i a.Cn.length j),(vs f a.Sn.length g),(vi a.Tick),(vs s a.Cookie.length u),(vs none 0 0),(vi 0),(vi 0),(vs none 0 0),(vs none 0 0)]) {Kind:=a.Kind,Id:=0,Cn:=a.Cn,Sn:=a.Sn,Tick:=a.Tick,Cookie:=a.Cookie,Proof:=[],Epoch:=0,Seq:=0,Body:=[],Tag:=[]:PFrame} from ⟨_,_,_,_,_,_,_,_,_,_,_,_,rfl,(ac.from0 T),ad,(ae.from0 T),af,(am.from0 T),au,(Rd.nil _ _),(by simp),(Rd.nil _ _),(by simp),(Rd.nil _ _),(by simp)⟩)) ?_
   rintro _ a3 ⟨ce,rfl⟩
   have cg:=T.extk ce
   refine pk (vb (nO a {Kind:=a.Kind,Id:=0,Cn:=a.Cn,Sn:=a.Sn,Tick:=a.Tick,Cookie:=a.Cookie,Proof:=[],Epoch:=0,Seq:=0,Body:=[],Tag:=[]:PFrame})) wN Z ?_
   refine aw (vb (nO a {Kind:=a.Kind,Id:=0,Cn:=a.Cn,Sn:=a.Sn,Tick:=a.Tick,Cookie:=a.Cookie,Proof:=[],Epoch:=0,Seq:=0,Body:=[],Tag:=[]:PFrame})) ?_
   refine n3<|rt (vb (nO a {Kind:=a.Kind,Id:=0,Cn:=a.Cn,Sn:=a.Sn,Tick:=a.Tick,Cookie:=a.Cookie,Proof:=[],Epoch:=0,Seq:=0,Body:=[],Tag:=[]:PFrame})) ?_
   refine ⟨cg.keep0,?_⟩
   simp only [nW,p,A,N,S,V,Z,cond_true,cond_false]
   exact rfl
 have eS:=dF A
 refine cf A<|sr<|pu (vp d 0) wN ?_
 refine ld (vi a.Kind) wN mT x ?_
 refine pu (vb (decide (a.Kind=3))) wN ?_
 refine aw (vb (decide (a.Kind=3))) ?_
 refine n2 ?_
 rcases bf (decide (a.Kind=3)) with B|B
 ·have eT:=dF B
  refine cf B<|sr<|pu (vp d 0) wN ?_
  refine ld (vi a.Kind) wN mT x ?_
  refine cl wN (uX a5 a.Kind) ?_
  rintro _ e ⟨ao,rfl⟩
  have bj:=a7.extk ao
  refine aw (vb (oZ a.Kind)) ?_
  refine n2 ?_
  rcases bf (oZ a.Kind) with ai|ai
  ·refine cf ai<|nm<|mQ<|mP<|sr ?_
   refine mw vF ?_
   refine mw vF ?_
   iterate 3 refine sk F1 ?_
   refine pf vF wN F1 ?_
   refine aw vF ?_
   refine n3<|rt vF ?_
   refine ⟨bj.keep0,?_⟩
   simp only [nW,p,A,B,ai,cond_true,cond_false]
   exact rfl
  refine ct ai<|nh ?_
  have ci:=(a6.kp ao)
  refine ob ([(117,[],[],(fun _ v _=>v=(vp d 3))),(118,[],[0],(fun _ v _=>v=(vs f a.Sn.length g))),(119,[],[],(fun _ v _=>v=(vp d 7))),(120,[],[2],(fun _ v _=>v=(vi a.Epoch))),(121,[],[],(fun _ v _=>v=(vp d 8))),(122,[],[4],(fun _ v _=>v=(vi a.Seq))),(123,[],[],(fun _ v _=>v=(vp d 9))),(124,[],[6],(fun _ v _=>v=(vs C a.Body.length D))),(125,[],[],(fun _ v _=>v=(vp d 10))),(126,[],[8],(fun _ v _=>v=(vs L a.Tag.length M))),(127,[],[0,1],(fun _ v _=>v=(vp b 3))),(176,[],[0,1,10],(fun _ _ w=>BK w b 42 3 ([(vs f a.Sn.length g)]))),(128,[],[0,1,2,3,10,11],(fun _ v _=>v=(vp b 7))),(178,[],[0,1,2,3,10,11,12],(fun _ _ w=>BK w b 42 7 ([(vi a.Epoch)]))),(129,[],[0,1,2,3,4,5,10,11,12,13],(fun _ v _=>v=(vp b 8))),(180,[],[0,1,2,3,4,5,10,11,12,13,14],(fun _ _ w=>BK w b 42 8 ([(vi a.Seq)]))),(130,[],[0,1,2,3,4,5,6,7,10,11,12,13,14,15],(fun _ v _=>v=(vp b 9))),(182,[],[0,1,2,3,4,5,6,7,10,11,12,13,14,15,16],(fun _ _ w=>BK w b 42 9 ([(vs C a.Body.length D)])))]:GV) (fun lf o=>Ch (fun k=>k=b) e o∧RK lf o b 42 [(vi a.Kind),(vi 0),(vs none 0 0),(vs none 0 0),(vi 0),(vs none 0 0),(vs none 0 0),(vi 0),(vi 0),(vs none 0 0),(vs none 0 0)] [(11,3,1),(13,7,1),(15,8,1),(17,9,1)]) [(11,TK b 42 3 1),(13,TK b 42 7 1),(15,TK b 42 8 1),(17,TK b 42 9 1)] oM rfl (by kernel_rfl) (by kernel_rfl) ?_ (fun _ _ h=>⟨h.to _,RK.z ci h⟩) (fun _ _ _ _ h mo k=>by obtain ⟨hc,m⟩:=h;exact ⟨hc.comp k (fun _ _ q=>q.elim),m.kp mo k⟩) ⟨(fun _ _ w o h mo hj t=>by obtain ⟨hc,m⟩:=h;exact ⟨hc.comp t.1 (fun _ _ q=>q),m.st mo hj (.head _) t⟩),⟨(fun _ _ w o h mo hj t=>by obtain ⟨hc,m⟩:=h;exact ⟨hc.comp t.1 (fun _ _ q=>q),m.st mo hj (.tail _ (.head _)) t⟩),⟨(fun _ _ w o h mo hj t=>by obtain ⟨hc,m⟩:=h;exact ⟨hc.comp t.1 (fun _ _ q=>q),m.st mo hj (.tail _ (.tail _ (.head _))) t⟩),⟨(fun _ _ w o h mo hj t=>by obtain ⟨hc,m⟩:=h;exact ⟨hc.comp t.1 (fun _ _ q=>q),m.st mo hj (.tail _ (.tail _ (.tail _ (.head _)))) t⟩),trivial⟩⟩⟩⟩ ?_ ?_ ?_
  ·exact ⟨hV,hE,⟨hV,hE,⟨hV,hE,⟨hV,hE,⟨hV,hE,⟨hV,hE,⟨hV,hE,⟨hV,hE,⟨hV,hE,⟨hV,hE,⟨hV,hE,⟨sK,hE,⟨hV,hE,⟨sK,hE,⟨hV,hE,⟨sK,hE,⟨hV,hE,⟨sK,hE,trivial⟩⟩⟩⟩⟩⟩⟩⟩⟩⟩⟩⟩⟩⟩⟩⟩⟩⟩
  ·exact ⟨⟨.inr hV,⟨.inr hV,⟨.inr hV,⟨.inr hV,⟨.inr hV,⟨.inr hV,⟨.inr hV,⟨.inr hV,⟨.inr hV,⟨.inr hV,⟨.inr hV,⟨.inl rfl,⟨.inr hV,⟨.inr (sKs 1 (.inl rfl)),⟨.inr hV,⟨.inr (sKs 1 (.inl rfl)),⟨.inr hV,⟨.inr (sKs 1 (.inl rfl)),trivial⟩⟩⟩⟩⟩⟩⟩⟩⟩⟩⟩⟩⟩⟩⟩⟩⟩⟩,⟨⟨.inr hV,⟨.inr hV,⟨.inr hV,⟨.inr hV,⟨.inr hV,⟨.inr hV,⟨.inr hV,⟨.inr hV,⟨.inr hV,⟨.inr hV,⟨.inr hV,⟨.inr (sKs 1 (.inr rfl)),⟨.inr hV,⟨.inl rfl,⟨.inr hV,⟨.inr (sKs 1 (.inl rfl)),⟨.inr hV,⟨.inr (sKs 1 (.inl rfl)),trivial⟩⟩⟩⟩⟩⟩⟩⟩⟩⟩⟩⟩⟩⟩⟩⟩⟩⟩,⟨⟨.inr hV,⟨.inr hV,⟨.inr hV,⟨.inr hV,⟨.inr hV,⟨.inr hV,⟨.inr hV,⟨.inr hV,⟨.inr hV,⟨.inr hV,⟨.inr hV,⟨.inr (sKs 1 (.inr rfl)),⟨.inr hV,⟨.inr (sKs 1 (.inr rfl)),⟨.inr hV,⟨.inl rfl,⟨.inr hV,⟨.inr (sKs 1 (.inl rfl)),trivial⟩⟩⟩⟩⟩⟩⟩⟩⟩⟩⟩⟩⟩⟩⟩⟩⟩⟩,⟨⟨.inr hV,⟨.inr hV,⟨.inr hV,⟨.inr hV,⟨.inr hV,⟨.inr hV,⟨.inr hV,⟨.inr hV,⟨.inr hV,⟨.inr hV,⟨.inr hV,⟨.inr (sKs 1 (.inr rfl)),⟨.inr hV,⟨.inr (sKs 1 (.inr rfl)),⟨.inr hV,⟨.inr (sKs 1 (.inr rfl)),⟨.inr hV,⟨.inl rfl,trivial⟩⟩⟩⟩⟩⟩⟩⟩⟩⟩⟩⟩⟩⟩⟩⟩⟩⟩,trivial⟩⟩⟩⟩
  ·refine ⟨?_,⟨?_,⟨?_,⟨?_,⟨?_,⟨?_,⟨?_,⟨?_,⟨?_,⟨?_,⟨?_,⟨?_,⟨?_,⟨?_,⟨?_,⟨?_,⟨?_,⟨?_,trivial⟩⟩⟩⟩⟩⟩⟩⟩⟩⟩⟩⟩⟩⟩⟩⟩⟩⟩
   ·rintro lf y ⟨eU,eV⟩ ⟨eW,eX,eY,eZ,-⟩
    iterate 18 intro _
    refine sw<|pu (vp d 3) wN ?_
    exact f1
   ·rintro lf y ⟨cj,fa⟩ ⟨fb,fc,fd,fe,-⟩
    rintro _ rfl;iterate 17 intro _
    refine sw ?_
    have ck:=((x.kp ao).ch cj (nN (nL r (l))))
    refine ld (vs f a.Sn.length g) wN nd ck ?_
    exact f1
   ·rintro lf y ⟨ff,fg⟩ ⟨fh,fi,fj,fk,-⟩
    iterate 18 intro _
    refine sw<|pu (vp d 7) wN ?_
    exact f1
   ·rintro lf y ⟨cm,fl⟩ ⟨fm,fo,fp,fq,-⟩
    rintro _ _ _ rfl;iterate 15 intro _
    refine sw ?_
    have cn:=((x.kp ao).ch cm (nN (nL r (l))))
    refine ld (vi a.Epoch) wN mT cn ?_
    exact f1
   ·rintro lf y ⟨fr,fs⟩ ⟨ft,fu,fv,fw,-⟩
    iterate 18 intro _
    refine sw<|pu (vp d 8) wN ?_
    exact f1
   ·rintro lf y ⟨co,fx⟩ ⟨fy,fz,f0,f3,-⟩
    rintro _ _ _ _ _ rfl;iterate 13 intro _
    refine sw ?_
    have cp:=((x.kp ao).ch co (nN (nL r (l))))
    refine ld (vi a.Seq) wN mT cp ?_
    exact f1
   ·rintro lf y ⟨f4,f5⟩ ⟨f6,f7,f8,f9,-⟩
    iterate 18 intro _
    refine sw<|pu (vp d 9) wN ?_
    exact f1
   ·rintro lf y ⟨cq,fA⟩ ⟨fB,fC,fD,fE,-⟩
    rintro _ _ _ _ _ _ _ rfl _ _ _ _ _ _ _ _ _ _ _
    refine sw ?_
    have cr:=((x.kp ao).ch cq (nN (nL r (l))))
    refine ld (vs C a.Body.length D) wN nd cr ?_
    exact f1
   ·rintro lf y ⟨fF,fG⟩ ⟨fH,fI,fJ,fK,-⟩
    iterate 18 intro _
    refine sw<|pu (vp d 10) wN ?_
    exact f1
   ·rintro lf y ⟨cs,fL⟩ ⟨fM,fN,fO,fP,-⟩
    rintro _ _ _ _ _ _ _ _ _ rfl _ _ _ _ _ _ _ _ _
    refine sw ?_
    have cu:=((x.kp ao).ch cs (nN (nL r (l))))
    refine ld (vs L a.Tag.length M) wN nd cu ?_
    exact f1
   ·rintro lf y ⟨fQ,fR⟩ ⟨fS,fT,fU,fV,-⟩
    rintro _ rfl _ rfl;iterate 16 intro _
    refine sw<|pu (vp b 3) wN ?_
    exact f1
   ·rintro lf y ⟨fW,cv⟩ ⟨fX,fY,fZ,ga,-⟩
    rintro _ rfl _ rfl _ _ _ _ _ _ _ _ _ rfl _ _ _ _ _ _ _
    exact sw<|stK (vs f a.Sn.length g) [(vs f a.Sn.length g)] wN nG cv (fun _ h=>h) (fun _ t=>t)
   ·rintro lf y ⟨gb,gd⟩ ⟨ge,gf,gg,gh,-⟩
    rintro _ rfl _ rfl _ rfl _ rfl _ _ _ _ _ _ _ rfl _ _ _ _ _ _ _ _
    refine sw<|pu (vp b 7) wN ?_
    exact f1
   ·rintro lf y ⟨gi,cw⟩ ⟨gj,gk,gl,gm,-⟩
    rintro _ rfl _ rfl _ rfl _ rfl _ _ _ _ _ _ _ rfl _ _ _ rfl _ _ _ _ _
    exact sw<|stK (vi a.Epoch) [(vi a.Epoch)] wN nV cw (fun _ h=>h) (fun _ t=>t)
   ·rintro lf y ⟨gn,gp⟩ ⟨gq,gr,gs,gt,-⟩
    rintro _ rfl _ rfl _ rfl _ rfl _ rfl _ rfl _ _ _ _ _ rfl _ _ _ rfl _ _ _ _ _ _
    refine sw<|pu (vp b 8) wN ?_
    exact f1
   ·rintro lf y ⟨gu,cy⟩ ⟨gv,gw,gx,gy,-⟩
    rintro _ rfl _ rfl _ rfl _ rfl _ rfl _ rfl _ _ _ _ _ rfl _ _ _ rfl _ _ _ rfl _ _ _
    exact sw<|stK (vi a.Seq) [(vi a.Seq)] wN nV cy (fun _ h=>h) (fun _ t=>t)
   ·rintro lf y ⟨gz,g0⟩ ⟨g1,g2,g3,g4,-⟩
    iterate 8 rintro _ rfl
    rintro _ _ _ rfl _ _ _ rfl _ _ _ rfl _ _ _ _
    refine sw<|pu (vp b 9) wN ?_
    exact f1
   ·rintro lf y ⟨g5,cz⟩ ⟨g6,g7,g8,g9,-⟩
    iterate 8 rintro _ rfl
    rintro _ _ _ rfl _ _ _ rfl _ _ _ rfl _ _ _ rfl _
    exact sw<|stK (vs C a.Body.length D) [(vs C a.Body.length D)] wN nG cz (fun _ h=>h) (fun _ t=>t)
  ·rintro lf y ⟨bk,c0⟩
   have c1:=bj.ext bk (fun k hk=>by subst hk;exact nT ah.size l)
   iterate 11 rintro _ rfl
   rintro _ c2 _ rfl _ c3 _ rfl _ c4 _ rfl _ c5
   have c6:Blk y b 42 [(vi a.Kind),(vi 0),(vs none 0 0),(vs f a.Sn.length g),(vi 0),(vs none 0 0),(vs none 0 0),(vi a.Epoch),(vi a.Seq),(vs C a.Body.length D),(vs none 0 0)]:=RK.fin c0 [(3,[(vs f a.Sn.length g)]),(7,[(vi a.Epoch)]),(8,[(vi a.Seq)]),(9,[(vs C a.Body.length D)])] ⟨c2,c3,c4,c5,trivial⟩
   refine sw<|pu (vp b 10) wN ?_
   refine sf (vs L a.Tag.length M) wN nG c6 ?_
   intro ap bl c7 gA
   have bm:=c1.ext bl (fun k hk=>by subst hk;exact nT ah.size l)
   refine mW<|mP<|mV ?_
   refine pu (vp d 3) wN ?_
   have bn:=(((x.kp ao).ch bk (nN (nL r (l)))).ch bl (nN (nL r (l))))
   refine ld (vs f a.Sn.length g) wN nd bn ?_
   refine cl wN (qy ap _ a.Sn (nH (ae.from0 bm) af)) ?_
   rintro _ an ⟨aG,rfl⟩
   have bo:=bm.extk aG
   refine mw (vb (nZ a.Sn)) ?_
   rcases bf (nZ a.Sn) with G|G
   ·have gB:=qv G
    iterate 3 refine sk G ?_
    refine pf vF wN G ?_
    refine mw vF ?_
    iterate 3 refine sk F1 ?_
    refine pf vF wN F1 ?_
    refine mw vF ?_
    iterate 4 refine sk F1 ?_
    refine pf vF wN F1 ?_
    refine mw vF ?_
    iterate 6 refine sk F1 ?_
    refine pf vF wN F1 ?_
    refine aw vF ?_
    refine mW<|mQ<|mP<|sr ?_
    refine mw vF ?_
    refine mw vF ?_
    iterate 3 refine sk F1 ?_
    refine pf vF wN F1 ?_
    refine aw vF ?_
    refine n3<|rt vF ?_
    refine ⟨bo.keep0,?_⟩
    simp only [nW,p,A,B,ai,G,cond_true,cond_false]
    exact rfl
   have gC:=qu G
   refine pu (vp d 7) (wS G) ?_
   have bp:=(bn.kp aG)
   refine ld (vi a.Epoch) (wS G) mT bp ?_
   refine cl (wS G) (oW an a.Epoch 0 4294967295) ?_
   rintro _ aq ⟨aH,rfl⟩
   have bq:=bo.extk aH
   refine pk (vb (i_within a.Epoch 0 4294967295)) wN G ?_
   refine mw (vb (i_within a.Epoch 0 4294967295)) ?_
   rcases bf (i_within a.Epoch 0 4294967295) with O|O
   ·have gD:=oe O
    iterate 3 refine sk O ?_
    refine pf vF wN O ?_
    refine mw vF ?_
    iterate 4 refine sk F1 ?_
    refine pf vF wN F1 ?_
    refine mw vF ?_
    iterate 6 refine sk F1 ?_
    refine pf vF wN F1 ?_
    refine aw vF ?_
    refine mW<|mQ<|mP<|sr ?_
    refine mw vF ?_
    refine mw vF ?_
    iterate 3 refine sk F1 ?_
    refine pf vF wN F1 ?_
    refine aw vF ?_
    refine n3<|rt vF ?_
    refine ⟨bq.keep0,?_⟩
    simp only [nW,p,A,B,ai,G,O,cond_true,cond_false]
    exact rfl
   have gE:=nD O
   refine pu (vp d 8) (wS O) ?_
   have br:=(bp.kp aH)
   refine ld (vi a.Seq) (wS O) mT br ?_
   refine cl (wS O) (oW aq a.Seq 0 281474976710655) ?_
   rintro _ a3 ⟨aI,rfl⟩
   have a4:=bq.extk aI
   refine pk (vb (i_within a.Seq 0 281474976710655)) wN O ?_
   refine mw (vb (i_within a.Seq 0 281474976710655)) ?_
   rcases bf (i_within a.Seq 0 281474976710655) with P|P
   ·have gF:=oe P
    iterate 4 refine sk P ?_
    refine pf vF wN P ?_
    refine mw vF ?_
    iterate 6 refine sk F1 ?_
    refine pf vF wN F1 ?_
    refine aw vF ?_
    refine mW<|mQ<|mP<|sr ?_
    refine mw vF ?_
    refine mw vF ?_
    iterate 3 refine sk F1 ?_
    refine pf vF wN F1 ?_
    refine aw vF ?_
    refine n3<|rt vF ?_
    refine ⟨a4.keep0,?_⟩
    simp only [nW,p,A,B,ai,G,O,P,cond_true,cond_false]
    exact rfl
   have gG:=nD P
   refine pu (vp d 10) (wS P) ?_
   have a8:=(br.kp aI)
   refine ld (vs L a.Tag.length M) (wS P) nd a8 ?_
   refine ln (wS P) mR (ay.from0 a4) ?_
   refine pu (vb (decide ((a.Tag.length:Int)=16))) (wS P) ?_
   refine pk (vb (decide ((a.Tag.length:Int)=16))) wN P ?_
   refine mw (vb (decide ((a.Tag.length:Int)=16))) ?_
   rcases bf (decide ((a.Tag.length:Int)=16)) with H|H
   ·have gH:=dF H
    iterate 6 refine sk H ?_
    refine pf vF wN H ?_
    refine aw vF ?_
    refine mW<|mQ<|mP<|sr ?_
    refine mw vF ?_
    refine mw vF ?_
    iterate 3 refine sk F1 ?_
    refine pf vF wN F1 ?_
    refine aw vF ?_
    refine n3<|rt vF ?_
    refine ⟨a4.keep0,?_⟩
    simp only [nW,p,A,B,ai,G,O,P,H,cond_true,cond_false]
    exact rfl
   have gI:=dT H
   refine pu (vp d 0) (wS H) ?_
   refine ld (vi a.Kind) (wS H) mT a8 ?_
   refine pu (vp d 9) (wS H) ?_
   refine ld (vs C a.Body.length D) (wS H) nd a8 ?_
   refine ln (wS H) mR (ax.from0 a4) ?_
   refine cl (wS H) (Ae a3 a.Kind (a.Body.length:Int)) ?_
   rintro _ aJ ⟨aK,rfl⟩
   have aa:=a4.extk aK
   refine pk (vb (pO a.Kind (a.Body.length:Int))) wN H ?_
   refine aw (vb (pO a.Kind (a.Body.length:Int))) ?_
   refine mW<|mQ<|mP<|sr ?_
   refine mw (vb (pO a.Kind (a.Body.length:Int))) ?_
   refine mw (vb (pO a.Kind (a.Body.length:Int))) ?_
   rcases bf (pO a.Kind (a.Body.length:Int)) with ak|ak
   ·iterate 3 refine sk ak ?_
    refine pf vF wN ak ?_
    refine aw vF ?_
    refine n3<|rt vF ?_
    refine ⟨aa.keep0,?_⟩
    simp only [nW,p,A,B,ai,G,O,P,H,ak,cond_true,cond_false]
    exact rfl
   have c8:=(a8.kp aK)
   refine lN (oD a i j f g s u J K C D L M) (wS ak) nk mZ c8 ?_
   have c9:=((((c7.kp aG).kp aH).kp aI).kp aK)
   refine lN [(vi a.Kind),(vi 0),(vs none 0 0),(vs f a.Sn.length g),(vi 0),(vs none 0 0),(vs none 0 0),(vi a.Epoch),(vi a.Seq),(vs C a.Body.length D),(vs L a.Tag.length M)] (wS ak) nk mZ c9 ?_
   refine cl (wS ak) (ry aJ _ a (qI (ac.from0 aa) ad (ae.from0 aa) af (am.from0 aa) au (av.from0 aa) a0 (ax.from0 aa) a1 (ay.from0 aa) a2) _ _ (show vg aJ (va [(vi a.Kind),(vi 0),(vs none 0 0),(vs f a.Sn.length g),(vi 0),(vs none 0 0),(vs none 0 0),(vi a.Epoch),(vi a.Seq),(vs C a.Body.length D),(vs L a.Tag.length M)]) {a with Id:=0,Cn:=[],Tick:=0,Cookie:=[],Proof:=[]:PFrame} from ⟨_,_,_,_,_,_,_,_,_,_,_,_,rfl,(Rd.nil _ _),(by simp),(ae.from0 aa),af,(Rd.nil _ _),(by simp),(Rd.nil _ _),(by simp),(ax.from0 aa),a1,(ay.from0 aa),a2⟩)) ?_
   rintro _ gJ ⟨cC,rfl⟩
   have cD:=aa.extk cC
   refine pk (vb (nO a {a with Id:=0,Cn:=[],Tick:=0,Cookie:=[],Proof:=[]:PFrame})) wN ak ?_
   refine aw (vb (nO a {a with Id:=0,Cn:=[],Tick:=0,Cookie:=[],Proof:=[]:PFrame})) ?_
   refine n3<|rt (vb (nO a {a with Id:=0,Cn:=[],Tick:=0,Cookie:=[],Proof:=[]:PFrame})) ?_
   refine ⟨cD.keep0,?_⟩
   simp only [nW,p,A,B,ai,G,O,P,H,ak,cond_true,cond_false]
   exact rfl
 have gK:=dT B
 refine ct B<|nh<|ob ([(65,[],[],(fun _ v _=>v=(vp d 1))),(66,[],[0],(fun _ v _=>v=(vi a.Id))),(67,[],[],(fun _ v _=>v=(vp d 2))),(68,[],[2],(fun _ v _=>v=(vs i a.Cn.length j))),(69,[],[],(fun _ v _=>v=(vp d 3))),(70,[],[4],(fun _ v _=>v=(vs f a.Sn.length g))),(71,[],[],(fun _ v _=>v=(vp d 4))),(72,[],[6],(fun _ v _=>v=(vi a.Tick))),(73,[],[],(fun _ v _=>v=(vp d 5))),(74,[],[8],(fun _ v _=>v=(vs s a.Cookie.length u))),(75,[],[],(fun _ v _=>v=(vp d 6))),(76,[],[10],(fun _ v _=>v=(vs J a.Proof.length K))),(77,[],[0,1],(fun _ v _=>v=(vp b 1))),(178,[],[0,1,12],(fun _ _ w=>BK w b 42 1 ([(vi a.Id)]))),(78,[],[0,1,2,3,12,13],(fun _ v _=>v=(vp b 2))),(180,[],[0,1,2,3,12,13,14],(fun _ _ w=>BK w b 42 2 ([(vs i a.Cn.length j)]))),(79,[],[0,1,2,3,4,5,12,13,14,15],(fun _ v _=>v=(vp b 3))),(182,[],[0,1,2,3,4,5,12,13,14,15,16],(fun _ _ w=>BK w b 42 3 ([(vs f a.Sn.length g)]))),(80,[],[0,1,2,3,4,5,6,7,12,13,14,15,16,17],(fun _ v _=>v=(vp b 4))),(184,[],[0,1,2,3,4,5,6,7,12,13,14,15,16,17,18],(fun _ _ w=>BK w b 42 4 ([(vi a.Tick)]))),(81,[],[0,1,2,3,4,5,6,7,8,9,12,13,14,15,16,17,18,19],(fun _ v _=>v=(vp b 5))),(186,[],[0,1,2,3,4,5,6,7,8,9,12,13,14,15,16,17,18,19,20],(fun _ _ w=>BK w b 42 5 ([(vs s a.Cookie.length u)])))]:GV) (fun lf o=>Ch (fun k=>k=b) a5 o∧RK lf o b 42 [(vi a.Kind),(vi 0),(vs none 0 0),(vs none 0 0),(vi 0),(vs none 0 0),(vs none 0 0),(vi 0),(vi 0),(vs none 0 0),(vs none 0 0)] [(13,1,1),(15,2,1),(17,3,1),(19,4,1),(21,5,1)]) [(13,TK b 42 1 1),(15,TK b 42 2 1),(17,TK b 42 3 1),(19,TK b 42 4 1),(21,TK b 42 5 1)] oM rfl (by kernel_rfl) (by kernel_rfl) ?_ (fun _ _ h=>⟨h.to _,RK.z a6 h⟩) (fun _ _ _ _ h mo k=>by obtain ⟨hc,m⟩:=h;exact ⟨hc.comp k (fun _ _ q=>q.elim),m.kp mo k⟩) ⟨(fun _ _ w o h mo hj t=>by obtain ⟨hc,m⟩:=h;exact ⟨hc.comp t.1 (fun _ _ q=>q),m.st mo hj (.head _) t⟩),⟨(fun _ _ w o h mo hj t=>by obtain ⟨hc,m⟩:=h;exact ⟨hc.comp t.1 (fun _ _ q=>q),m.st mo hj (.tail _ (.head _)) t⟩),⟨(fun _ _ w o h mo hj t=>by obtain ⟨hc,m⟩:=h;exact ⟨hc.comp t.1 (fun _ _ q=>q),m.st mo hj (.tail _ (.tail _ (.head _))) t⟩),⟨(fun _ _ w o h mo hj t=>by obtain ⟨hc,m⟩:=h;exact ⟨hc.comp t.1 (fun _ _ q=>q),m.st mo hj (.tail _ (.tail _ (.tail _ (.head _)))) t⟩),⟨(fun _ _ w o h mo hj t=>by obtain ⟨hc,m⟩:=h;exact ⟨hc.comp t.1 (fun _ _ q=>q),m.st mo hj (.tail _ (.tail _ (.tail _ (.tail _ (.head _))))) t⟩),trivial⟩⟩⟩⟩⟩ ?_ ?_ ?_
 ·exact ⟨hV,hE,⟨hV,hE,⟨hV,hE,⟨hV,hE,⟨hV,hE,⟨hV,hE,⟨hV,hE,⟨hV,hE,⟨hV,hE,⟨hV,hE,⟨hV,hE,⟨hV,hE,⟨hV,hE,⟨sK,hE,⟨hV,hE,⟨sK,hE,⟨hV,hE,⟨sK,hE,⟨hV,hE,⟨sK,hE,⟨hV,hE,⟨sK,hE,trivial⟩⟩⟩⟩⟩⟩⟩⟩⟩⟩⟩⟩⟩⟩⟩⟩⟩⟩⟩⟩⟩⟩
 ·exact ⟨⟨.inr hV,⟨.inr hV,⟨.inr hV,⟨.inr hV,⟨.inr hV,⟨.inr hV,⟨.inr hV,⟨.inr hV,⟨.inr hV,⟨.inr hV,⟨.inr hV,⟨.inr hV,⟨.inr hV,⟨.inl rfl,⟨.inr hV,⟨.inr (sKs 1 (.inl rfl)),⟨.inr hV,⟨.inr (sKs 1 (.inl rfl)),⟨.inr hV,⟨.inr (sKs 1 (.inl rfl)),⟨.inr hV,⟨.inr (sKs 1 (.inl rfl)),trivial⟩⟩⟩⟩⟩⟩⟩⟩⟩⟩⟩⟩⟩⟩⟩⟩⟩⟩⟩⟩⟩⟩,⟨⟨.inr hV,⟨.inr hV,⟨.inr hV,⟨.inr hV,⟨.inr hV,⟨.inr hV,⟨.inr hV,⟨.inr hV,⟨.inr hV,⟨.inr hV,⟨.inr hV,⟨.inr hV,⟨.inr hV,⟨.inr (sKs 1 (.inr rfl)),⟨.inr hV,⟨.inl rfl,⟨.inr hV,⟨.inr (sKs 1 (.inl rfl)),⟨.inr hV,⟨.inr (sKs 1 (.inl rfl)),⟨.inr hV,⟨.inr (sKs 1 (.inl rfl)),trivial⟩⟩⟩⟩⟩⟩⟩⟩⟩⟩⟩⟩⟩⟩⟩⟩⟩⟩⟩⟩⟩⟩,⟨⟨.inr hV,⟨.inr hV,⟨.inr hV,⟨.inr hV,⟨.inr hV,⟨.inr hV,⟨.inr hV,⟨.inr hV,⟨.inr hV,⟨.inr hV,⟨.inr hV,⟨.inr hV,⟨.inr hV,⟨.inr (sKs 1 (.inr rfl)),⟨.inr hV,⟨.inr (sKs 1 (.inr rfl)),⟨.inr hV,⟨.inl rfl,⟨.inr hV,⟨.inr (sKs 1 (.inl rfl)),⟨.inr hV,⟨.inr (sKs 1 (.inl rfl)),trivial⟩⟩⟩⟩⟩⟩⟩⟩⟩⟩⟩⟩⟩⟩⟩⟩⟩⟩⟩⟩⟩⟩,⟨⟨.inr hV,⟨.inr hV,⟨.inr hV,⟨.inr hV,⟨.inr hV,⟨.inr hV,⟨.inr hV,⟨.inr hV,⟨.inr hV,⟨.inr hV,⟨.inr hV,⟨.inr hV,⟨.inr hV,⟨.inr (sKs 1 (.inr rfl)),⟨.inr hV,⟨.inr (sKs 1 (.inr rfl)),⟨.inr hV,⟨.inr (sKs 1 (.inr rfl)),⟨.inr hV,⟨.inl rfl,⟨.inr hV,⟨.inr (sKs 1 (.inl rfl)),trivial⟩⟩⟩⟩⟩⟩⟩⟩⟩⟩⟩⟩⟩⟩⟩⟩⟩⟩⟩⟩⟩⟩,⟨⟨.inr hV,⟨.inr hV,⟨.inr hV,⟨.inr hV,⟨.inr hV,⟨.inr hV,⟨.inr hV,⟨.inr hV,⟨.inr hV,⟨.inr hV,⟨.inr hV,⟨.inr hV,⟨.inr hV,⟨.inr (sKs 1 (.inr rfl)),⟨.inr hV,⟨.inr (sKs 1 (.inr rfl)),⟨.inr hV,⟨.inr (sKs 1 (.inr rfl)),⟨.inr hV,⟨.inr (sKs 1 (.inr rfl)),⟨.inr hV,⟨.inl rfl,trivial⟩⟩⟩⟩⟩⟩⟩⟩⟩⟩⟩⟩⟩⟩⟩⟩⟩⟩⟩⟩⟩⟩,trivial⟩⟩⟩⟩⟩
 ·refine ⟨?_,⟨?_,⟨?_,⟨?_,⟨?_,⟨?_,⟨?_,⟨?_,⟨?_,⟨?_,⟨?_,⟨?_,⟨?_,⟨?_,⟨?_,⟨?_,⟨?_,⟨?_,⟨?_,⟨?_,⟨?_,⟨?_,trivial⟩⟩⟩⟩⟩⟩⟩⟩⟩⟩⟩⟩⟩⟩⟩⟩⟩⟩⟩⟩⟩⟩
  ·rintro lf e ⟨gL,gM⟩ ⟨gN,gO,gP,gQ,gR,-⟩
   iterate 22 intro _
   refine sw<|pu (vp d 1) wN ?_
   exact f1
  ·rintro lf e ⟨cE,gS⟩ ⟨gT,gU,gV,gW,gX,-⟩
   rintro _ rfl;iterate 21 intro _
   refine sw ?_
   have cF:=(x.ch cE (nN (nL r (l))))
   refine ld (vi a.Id) wN mT cF ?_
   exact f1
  ·rintro lf e ⟨gY,gZ⟩ ⟨ha,hb,hd,he,hf,-⟩
   iterate 22 intro _
   refine sw<|pu (vp d 2) wN ?_
   exact f1
  ·rintro lf e ⟨cG,hg⟩ ⟨hh,hi,hl,hm,hn,-⟩
   rintro _ _ _ rfl;iterate 19 intro _
   refine sw ?_
   have cH:=(x.ch cG (nN (nL r (l))))
   refine ld (vs i a.Cn.length j) wN nd cH ?_
   exact f1
  ·rintro lf e ⟨ho,hp⟩ ⟨hq,hr,hs,ht,hu,-⟩
   iterate 22 intro _
   refine sw<|pu (vp d 3) wN ?_
   exact f1
  ·rintro lf e ⟨cI,hv⟩ ⟨hw,hx,hy,hz,h0,-⟩
   rintro _ _ _ _ _ rfl;iterate 17 intro _
   refine sw ?_
   have cJ:=(x.ch cI (nN (nL r (l))))
   refine ld (vs f a.Sn.length g) wN nd cJ ?_
   exact f1
  ·rintro lf e ⟨h1,h2⟩ ⟨h3,h4,h5,h6,h7,-⟩
   iterate 22 intro _
   refine sw<|pu (vp d 4) wN ?_
   exact f1
  ·rintro lf e ⟨cK,h8⟩ ⟨h9,hA,hB,hC,hD,-⟩
   rintro _ _ _ _ _ _ _ rfl;iterate 15 intro _
   refine sw ?_
   have cL:=(x.ch cK (nN (nL r (l))))
   refine ld (vi a.Tick) wN mT cL ?_
   exact f1
  ·rintro lf e ⟨hF,hG⟩ ⟨hH,hI,hJ,hK,hL,-⟩
   iterate 22 intro _
   refine sw<|pu (vp d 5) wN ?_
   exact f1
  ·rintro lf e ⟨cM,hM⟩ ⟨hN,hO,hP,hQ,hR,-⟩
   rintro _ _ _ _ _ _ _ _ _ rfl;iterate 13 intro _
   refine sw ?_
   have cN:=(x.ch cM (nN (nL r (l))))
   refine ld (vs s a.Cookie.length u) wN nd cN ?_
   exact f1
  ·rintro lf e ⟨hS,hT⟩ ⟨hU,hW,hX,hY,hZ,-⟩
   iterate 22 intro _
   refine sw<|pu (vp d 6) wN ?_
   exact f1
  ·rintro lf e ⟨cO,ia⟩ ⟨ib,ic,ie,ig,ih,-⟩
   rintro _ _ _ _ _ _ _ _ _ _ _ rfl _ _ _ _ _ _ _ _ _ _ _
   refine sw ?_
   have cP:=(x.ch cO (nN (nL r (l))))
   refine ld (vs J a.Proof.length K) wN nd cP ?_
   exact f1
  ·rintro lf e ⟨ii,ij⟩ ⟨ik,il,im,io,ip,-⟩
   rintro _ rfl _ rfl;iterate 20 intro _
   refine sw<|pu (vp b 1) wN ?_
   exact f1
  ·rintro lf e ⟨iq,cQ⟩ ⟨ir,it,iu,iv,iw,-⟩
   rintro _ rfl _ rfl _ _ _ _ _ _ _ _ _ _ _ rfl _ _ _ _ _ _ _ _ _
   exact sw<|stK (vi a.Id) [(vi a.Id)] wN nV cQ (fun _ h=>h) (fun _ t=>t)
  ·rintro lf e ⟨iy,iz⟩ ⟨i0,i1,i2,i3,i4,-⟩
   rintro _ rfl _ rfl _ rfl _ rfl _ _ _ _ _ _ _ _ _ rfl _ _ _ _ _ _ _ _ _ _
   refine sw<|pu (vp b 2) wN ?_
   exact f1
  ·rintro lf e ⟨i5,cR⟩ ⟨i6,i7,i8,i9,iA,-⟩
   rintro _ rfl _ rfl _ rfl _ rfl _ _ _ _ _ _ _ _ _ rfl _ _ _ rfl _ _ _ _ _ _ _
   exact sw<|stK (vs i a.Cn.length j) [(vs i a.Cn.length j)] wN nG cR (fun _ h=>h) (fun _ t=>t)
  ·rintro lf e ⟨iB,iC⟩ ⟨iD,iE,iF,iG,iH,-⟩
   rintro _ rfl _ rfl _ rfl _ rfl _ rfl _ rfl _ _ _ _ _ _ _ rfl _ _ _ rfl _ _ _ _ _ _ _ _
   refine sw<|pu (vp b 3) wN ?_
   exact f1
  ·rintro lf e ⟨iI,cS⟩ ⟨iJ,iK,iM,iN,iO,-⟩
   rintro _ rfl _ rfl _ rfl _ rfl _ rfl _ rfl _ _ _ _ _ _ _ rfl _ _ _ rfl _ _ _ rfl _ _ _ _ _
   exact sw<|stK (vs f a.Sn.length g) [(vs f a.Sn.length g)] wN nG cS (fun _ h=>h) (fun _ t=>t)
  ·rintro lf e ⟨iP,iQ⟩ ⟨iR,iS,iT,iU,iW,-⟩
   iterate 8 rintro _ rfl
   rintro _ _ _ _ _ rfl _ _ _ rfl _ _ _ rfl _ _ _ _ _ _
   refine sw<|pu (vp b 4) wN ?_
   exact f1
  ·rintro lf e ⟨iX,cT⟩ ⟨iY,iZ,ja,jb,jc,-⟩
   iterate 8 rintro _ rfl
   rintro _ _ _ _ _ rfl _ _ _ rfl _ _ _ rfl _ _ _ rfl _ _ _
   exact sw<|stK (vi a.Tick) [(vi a.Tick)] wN nV cT (fun _ h=>h) (fun _ t=>t)
  ·rintro lf e ⟨jd,je⟩ ⟨jf,jg,jh,ji,jj,-⟩
   iterate 10 rintro _ rfl
   rintro _ _ _ rfl _ _ _ rfl _ _ _ rfl _ _ _ rfl _ _ _ _
   refine sw<|pu (vp b 5) wN ?_
   exact f1
  ·rintro lf e ⟨jk,cU⟩ ⟨jl,jm,jn,jo,jp,-⟩
   iterate 10 rintro _ rfl
   rintro _ _ _ rfl _ _ _ rfl _ _ _ rfl _ _ _ rfl _ _ _ rfl _
   exact sw<|stK (vs s a.Cookie.length u) [(vs s a.Cookie.length u)] wN nG cU (fun _ h=>h) (fun _ t=>t)
 ·rintro lf e ⟨bu,cV⟩
  have cW:=a7.ext bu (fun k hk=>by subst hk;exact nT ah.size l)
  iterate 13 rintro _ rfl
  rintro _ cX _ rfl _ cY _ rfl _ cZ _ rfl _ da _ rfl _ db
  have dc:Blk e b 42 [(vi a.Kind),(vi a.Id),(vs i a.Cn.length j),(vs f a.Sn.length g),(vi a.Tick),(vs s a.Cookie.length u),(vs none 0 0),(vi 0),(vi 0),(vs none 0 0),(vs none 0 0)]:=RK.fin cV [(1,[(vi a.Id)]),(2,[(vs i a.Cn.length j)]),(3,[(vs f a.Sn.length g)]),(4,[(vi a.Tick)]),(5,[(vs s a.Cookie.length u)])] ⟨cX,cY,cZ,da,db,trivial⟩
  refine sw<|pu (vp b 6) wN ?_
  refine sf (vs J a.Proof.length K) wN nG dc ?_
  intro y bv dd jq
  have de:=cW.ext bv (fun k hk=>by subst hk;exact nT ah.size l)
  refine mW<|mP<|mV ?_
  refine pu (vp d 1) wN ?_
  have bw:=((x.ch bu (nN (nL r (l)))).ch bv (nN (nL r (l))))
  refine ld (vi a.Id) wN mT bw ?_
  refine cl wN (oW y a.Id 1 9) ?_
  rintro _ ap ⟨aL,rfl⟩
  have aM:=de.extk aL
  refine mw (vb (i_within a.Id 1 9)) ?_
  rcases bf (i_within a.Id 1 9) with E|E
  ·have jr:=oe E
   iterate 3 refine sk E ?_
   refine pf vF wN E ?_
   refine mw vF ?_
   iterate 3 refine sk F1 ?_
   refine pf vF wN F1 ?_
   refine mw vF ?_
   iterate 3 refine sk F1 ?_
   refine pf vF wN F1 ?_
   refine mw vF ?_
   iterate 4 refine sk F1 ?_
   refine pf vF wN F1 ?_
   refine mw vF ?_
   iterate 4 refine sk F1 ?_
   refine pf vF wN F1 ?_
   refine aw vF ?_
   refine mW<|mQ<|mP<|sr ?_
   refine mw vF ?_
   refine mw vF ?_
   iterate 3 refine sk F1 ?_
   refine pf vF wN F1 ?_
   refine aw vF ?_
   refine n3<|rt vF ?_
   refine ⟨aM.keep0,?_⟩
   simp only [nW,p,A,B,E,cond_true,cond_false]
   exact rfl
  have js:=nD E
  refine pu (vp d 2) (wS E) ?_
  have bz:=(bw.kp aL)
  refine ld (vs i a.Cn.length j) (wS E) nd bz ?_
  refine cl (wS E) (qy ap _ a.Cn (nH (ac.from0 aM) ad)) ?_
  rintro _ an ⟨aN,rfl⟩
  have aO:=aM.extk aN
  refine pk (vb (nZ a.Cn)) wN E ?_
  refine mw (vb (nZ a.Cn)) ?_
  rcases bf (nZ a.Cn) with I|I
  ·have jt:=qv I
   iterate 3 refine sk I ?_
   refine pf vF wN I ?_
   refine mw vF ?_
   iterate 3 refine sk F1 ?_
   refine pf vF wN F1 ?_
   refine mw vF ?_
   iterate 4 refine sk F1 ?_
   refine pf vF wN F1 ?_
   refine mw vF ?_
   iterate 4 refine sk F1 ?_
   refine pf vF wN F1 ?_
   refine aw vF ?_
   refine mW<|mQ<|mP<|sr ?_
   refine mw vF ?_
   refine mw vF ?_
   iterate 3 refine sk F1 ?_
   refine pf vF wN F1 ?_
   refine aw vF ?_
   refine n3<|rt vF ?_
   refine ⟨aO.keep0,?_⟩
   simp only [nW,p,A,B,E,I,cond_true,cond_false]
   exact rfl
  have ju:=qu I
  refine pu (vp d 3) (wS I) ?_
  have b0:=(bz.kp aN)
  refine ld (vs f a.Sn.length g) (wS I) nd b0 ?_
  refine cl (wS I) (qy an _ a.Sn (nH (ae.from0 aO) af)) ?_
  rintro _ aq ⟨aP,rfl⟩
  have b1:=aO.extk aP
  refine pk (vb (nZ a.Sn)) wN I ?_
  refine mw (vb (nZ a.Sn)) ?_
  rcases bf (nZ a.Sn) with Q|Q
  ·have jv:=qv Q
   iterate 3 refine sk Q ?_
   refine pf vF wN Q ?_
   refine mw vF ?_
   iterate 4 refine sk F1 ?_
   refine pf vF wN F1 ?_
   refine mw vF ?_
   iterate 4 refine sk F1 ?_
   refine pf vF wN F1 ?_
   refine aw vF ?_
   refine mW<|mQ<|mP<|sr ?_
   refine mw vF ?_
   refine mw vF ?_
   iterate 3 refine sk F1 ?_
   refine pf vF wN F1 ?_
   refine aw vF ?_
   refine n3<|rt vF ?_
   refine ⟨b1.keep0,?_⟩
   simp only [nW,p,A,B,E,I,Q,cond_true,cond_false]
   exact rfl
  have jw:=qu Q
  refine pu (vp d 4) (wS Q) ?_
  have b2:=(b0.kp aP)
  refine ld (vi a.Tick) (wS Q) mT b2 ?_
  refine cl (wS Q) (oW aq a.Tick 0 1000000) ?_
  rintro _ a3 ⟨aQ,rfl⟩
  have F:=b1.extk aQ
  refine pk (vb (i_within a.Tick 0 1000000)) wN Q ?_
  refine mw (vb (i_within a.Tick 0 1000000)) ?_
  rcases bf (i_within a.Tick 0 1000000) with R|R
  ·have jx:=oe R
   iterate 4 refine sk R ?_
   refine pf vF wN R ?_
   refine mw vF ?_
   iterate 4 refine sk F1 ?_
   refine pf vF wN F1 ?_
   refine aw vF ?_
   refine mW<|mQ<|mP<|sr ?_
   refine mw vF ?_
   refine mw vF ?_
   iterate 3 refine sk F1 ?_
   refine pf vF wN F1 ?_
   refine aw vF ?_
   refine n3<|rt vF ?_
   refine ⟨F.keep0,?_⟩
   simp only [nW,p,A,B,E,I,Q,R,cond_true,cond_false]
   exact rfl
  have jy:=nD R
  refine pu (vp d 5) (wS R) ?_
  have aR:=(b2.kp aQ)
  refine ld (vs s a.Cookie.length u) (wS R) nd aR ?_
  refine ln (wS R) mR (am.from0 F) ?_
  refine pu (vb (decide ((a.Cookie.length:Int)=16))) (wS R) ?_
  refine pk (vb (decide ((a.Cookie.length:Int)=16))) wN R ?_
  refine mw (vb (decide ((a.Cookie.length:Int)=16))) ?_
  rcases bf (decide ((a.Cookie.length:Int)=16)) with W|W
  ·have jz:=dF W
   iterate 4 refine sk W ?_
   refine pf vF wN W ?_
   refine aw vF ?_
   refine mW<|mQ<|mP<|sr ?_
   refine mw vF ?_
   refine mw vF ?_
   iterate 3 refine sk F1 ?_
   refine pf vF wN F1 ?_
   refine aw vF ?_
   refine n3<|rt vF ?_
   refine ⟨F.keep0,?_⟩
   simp only [nW,p,A,B,E,I,Q,R,W,cond_true,cond_false]
   exact rfl
  have j0:=dT W
  refine pu (vp d 6) (wS W) ?_
  refine ld (vs J a.Proof.length K) (wS W) nd aR ?_
  refine ln (wS W) mR (av.from0 F) ?_
  refine pu (vb (decide ((a.Proof.length:Int)=16))) (wS W) ?_
  refine pk (vb (decide ((a.Proof.length:Int)=16))) wN W ?_
  refine aw (vb (decide ((a.Proof.length:Int)=16))) ?_
  refine mW<|mQ<|mP<|sr ?_
  refine mw (vb (decide ((a.Proof.length:Int)=16))) ?_
  refine mw (vb (decide ((a.Proof.length:Int)=16))) ?_
  rcases bf (decide ((a.Proof.length:Int)=16)) with ab|ab
  ·have j1:=dF ab
   iterate 3 refine sk ab ?_
   refine pf vF wN ab ?_
   refine aw vF ?_
   refine n3<|rt vF ?_
   refine ⟨F.keep0,?_⟩
   simp only [nW,p,A,B,E,I,Q,R,W,ab,cond_true,cond_false]
   exact rfl
  have j2:=dT ab
  refine lN (oD a i j f g s u J K C D L M) (wS ab) nk mZ aR ?_
  have df:=((((dd.kp aL).kp aN).kp aP).kp aQ)
  refine lN [(vi a.Kind),(vi a.Id),(vs i a.Cn.length j),(vs f a.Sn.length g),(vi a.Tick),(vs s a.Cookie.length u),(vs J a.Proof.length K),(vi 0),(vi 0),(vs none 0 0),(vs none 0 0)] (wS ab) nk mZ df ?_
  refine cl (wS ab) (ry a3 _ a (qI (ac.from0 F) ad (ae.from0 F) af (am.from0 F) au (av.from0 F) a0 (ax.from0 F) a1 (ay.from0 F) a2) _ _ (show vg a3 (va [(vi a.Kind),(vi a.Id),(vs i a.Cn.length j),(vs f a.Sn.length g),(vi a.Tick),(vs s a.Cookie.length u),(vs J a.Proof.length K),(vi 0),(vi 0),(vs none 0 0),(vs none 0 0)]) {a with Epoch:=0,Seq:=0,Body:=[],Tag:=[]:PFrame} from ⟨_,_,_,_,_,_,_,_,_,_,_,_,rfl,(ac.from0 F),ad,(ae.from0 F),af,(am.from0 F),au,(av.from0 F),a0,(Rd.nil _ _),(by simp),(Rd.nil _ _),(by simp)⟩)) ?_
  rintro _ aJ ⟨dg,rfl⟩
  have dh:=F.extk dg
  refine pk (vb (nO a {a with Epoch:=0,Seq:=0,Body:=[],Tag:=[]:PFrame})) wN ab ?_
  refine aw (vb (nO a {a with Epoch:=0,Seq:=0,Body:=[],Tag:=[]:PFrame})) ?_
  refine n3<|rt (vb (nO a {a with Epoch:=0,Seq:=0,Body:=[],Tag:=[]:PFrame})) ?_
  refine ⟨dh.keep0,?_⟩
  simp only [nW,p,A,B,E,I,Q,R,W,ab,cond_true,cond_false]
  exact rfl
theorem vJ {f:PFrame} (h:nW f=true):f.Body.length≤40:=by
  have hs:∀ g:PFrame,nO f g=true→f.Body=g.Body:=fun g hg=>by
    simp only [nO,Bool.cond_false_right,Bool.and_eq_true,oF,vP,decide_eq_true_eq] at hg
    exact hg.2.2.2.2.2.2.2.2.2.1
  simp only [nW,Bool.cond_false_right] at h
  cases h1:decide (f.Kind=1)
  · cases h2:decide (f.Kind=2)
    · cases h3:decide (f.Kind=3)
      · simp only [h1,h2,h3,cond_false,Bool.and_eq_true] at h
        have hb:=h.2.2.2.2.2.1
        simp only [pO,cond_eq_ite,decide_eq_true_eq] at hb
        (repeat' split at hb) <;> (have hq:=dT hb;omega)
      · simp only [h1,h2,h3,cond_false,cond_true,Bool.and_eq_true] at h
        have hq:=hs _ h.2.2.2.2.2.2
        rw [hq];exact Nat.zero_le _
    · simp only [h1,h2,cond_false,cond_true,Bool.and_eq_true] at h
      have hq:=hs _ h.2.2.2.2
      rw [hq];exact Nat.zero_le _
  · simp only [h1,cond_true,Bool.and_eq_true] at h
    have hq:=hs _ h.2.2
    rw [hq];exact Nat.zero_le _

theorem AM (f:World) (w:Value) (d:List UInt8) (D:pI f w d) (y:Value) (e:List UInt8) (E:pI f y e) :Fn Tryz.prog 45 #[w,y] f (fun v o=>Keep f o∧O_3 o f.heap.size v (qh d e)):=by
 obtain ⟨i,j,rfl,s,R⟩:=D
 obtain ⟨l,m,rfl,t,S⟩:=E
 refine nu (n:=31) [(vs i d.length j),(vs l e.length m)] Tryz.func45 rfl rfl ?_
 refine sr<|aw (vi 0) ?_
 refine n4<|mw (vs i d.length j) ?_
 refine ln wN mR s ?_
 refine mw (vs l e.length m) ?_
 refine ln wN mR t ?_
 refine pu (vb (!(decide ((d.length:Int)=(e.length:Int))))) wN ?_
 refine n2 ?_
 rcases bf (decide ((d.length:Int)=(e.length:Int))) with q|q
 ·have T:=dF q
  refine ct (cA not q)<|sr<|aw (vi (-1)) ?_
  refine n1<|rt (vi (-1)) ?_
  refine ⟨Ch.refl _ _,?_⟩
  have F:qh d e=(-1):=by first|exact tJ (by omega)|exact tI (by omega) (by omega) (by omega)
  rw [F]
  exact rfl
 have V:=dT q
 refine cf (cA not q)<|y1<|aw (vi 0) ?_
 refine n4<|mw (vs i d.length j) ?_
 refine ln wN mR s ?_
 refine mw (vi 0) ?_
 refine mW<|mP<|ng<|oa [(0,(vs i d.length j)),(1,(vs l e.length m)),(4,(vi 0)),(5,(vi (orX d e 0))),(13,(vi (d.length:Int))),(14,(vi ((0:Nat):Int)))] ⟨rfl,rfl,rfl,(cA (Value.int .i64) (show (0:Int)=(orX d e 0) by rfl)),rfl,(cA (Value.int .i64) (show (0:Int)=((0:Nat):Int) by omega)),trivial⟩ (fun e' o=>∃ (k:Nat) (A:Env),e'=pt A [(0,(vs i d.length j)),(1,(vs l e.length m)),(4,(vi 0)),(5,(vi (orX d e k))),(13,(vi (d.length:Int))),(14,(vi ((k:Nat):Int)))]∧Ch (fun k=>f.heap.size≤k) f o∧Ch (fun k=>f.heap.size≤k) f o∧k≤d.length) (fun e' _=>d.length - ((intOf (e' 14))).toNat) ?_ ?_
 ·exact fun u=>⟨0,u,rfl,(Ch.base f),(Ch.refl (fun k=>f.heap.size≤k) f),(by omega)⟩
 ·rintro _ B ⟨k,A,rfl,p,G,W⟩
  have hob:=BW d e k
  have X:(d.getD k 0^^^e.getD k 0).toNat < 256:=UInt8.toNat_lt _
  refine sr<|pu (vb (decide (((k:Nat):Int) < (d.length:Int)))) wN ?_
  refine mW<|mP<|nh ?_
  rcases bf (decide (((k:Nat):Int) < (d.length:Int))) with r|r
  ·have Y:=dF r
   refine cf r<|oh<|mU<|mU<|nq<|mP<|sr<|mw (vi (orX d e k)) ?_
   refine aw (vi (orX d e k)) ?_
   refine n3<|rt (vi (orX d e k)) ?_
   refine ⟨p.keep0,?_⟩
   have H:qh d e=(orX d e k):=by first|exact tJ (by omega)|exact tI (by omega) (by omega) (by omega)
   rw [H]
   exact rfl
  have Z:=dT r
  refine ct r<|nm<|mP<|nh<|ng<|sr<|mw (vi ((k:Nat):Int)) ?_
  refine aw (vi ((k:Nat):Int)) ?_
  refine n2<|ob ([(17,[],[],(fun _ v _=>v=(vi (orX d e k)))),(18,[],[],(fun _ v _=>v=(vs i d.length j))),(19,[],[],(fun _ v _=>v=(vi ((k:Nat):Int)))),(20,[],[1,2],(fun _ v _=>v=(ve (vs i d.length j) ((((k:Nat):Int)).toNat*1)))),(21,[],[1,2,3],(fun _ v _=>v=(v8 ((d.getD k 0).toNat:Int)))),(22,[],[],(fun _ v _=>v=(vs l e.length m))),(23,[],[],(fun _ v _=>v=(vi ((k:Nat):Int)))),(24,[],[5,6],(fun _ v _=>v=(ve (vs l e.length m) ((((k:Nat):Int)).toNat*1)))),(25,[],[5,6,7],(fun _ v _=>v=(v8 ((e.getD k 0).toNat:Int)))),(26,[],[1,2,3,4,5,6,7,8],(fun _ v _=>v=(v8 (((d.getD k 0)^^^(e.getD k 0)).toNat:Int)))),(27,[],[1,2,3,4,5,6,7,8,9],(fun _ v _=>v=(vi (((d.getD k 0)^^^(e.getD k 0)).toNat:Int))))]:GV) (fun _ o=>Keep B o) [] oM rfl (by kernel_rfl) (by kernel_rfl) ?_ (fun _ _ h=>h) (fun _ _ _ _ h _ k=>h.trans k) trivial ?_ ?_ ?_
  ·exact ⟨hV,hE,⟨hV,hE,⟨hV,hE,⟨hV,hE,⟨hV,hE,⟨hV,hE,⟨hV,hE,⟨hV,hE,⟨hV,hE,⟨hV,hE,⟨hV,hE,trivial⟩⟩⟩⟩⟩⟩⟩⟩⟩⟩⟩
  ·exact trivial
  ·refine ⟨?_,⟨?_,⟨?_,⟨?_,⟨?_,⟨?_,⟨?_,⟨?_,⟨?_,⟨?_,⟨?_,trivial⟩⟩⟩⟩⟩⟩⟩⟩⟩⟩⟩
   ·intro _ g aa _
    rintro _ _ _ _ _ _ _ _ _ _ _
    refine sw<|mw (vi (orX d e k)) ?_
    exact f1
   ·intro _ g ab _
    rintro _ _ _ _ _ _ _ _ _ _ _
    refine sw<|mw (vs i d.length j) ?_
    exact f1
   ·intro _ g ac _
    rintro _ _ _ _ _ _ _ _ _ _ _
    refine sw<|mw (vi ((k:Nat):Int)) ?_
    exact f1
   ·intro _ g I _
    have J:=p.extk I
    rintro _ _ rfl _ rfl _ _ _ _ _ _ _ _
    refine sw<|ix wN ((k:Nat):Int) mR (s.from0 J) ?_
    exact f1
   ·intro _ g K _
    have L:=p.extk K
    rintro _ _ rfl _ rfl _ rfl _ _ _ _ _ _ _
    refine sw<|eb (x:=d) k wN pP (s.from0 L) ?_
    exact f1
   ·intro _ g ad _
    rintro _ _ _ _ _ _ _ _ _ _ _
    refine sw<|mw (vs l e.length m) ?_
    exact f1
   ·intro _ g ae _
    rintro _ _ _ _ _ _ _ _ _ _ _
    refine sw<|mw (vi ((k:Nat):Int)) ?_
    exact f1
   ·intro _ g M _
    have N:=p.extk M
    rintro _ _ _ _ _ _ rfl _ rfl _ _ _ _
    refine sw<|ix wN ((k:Nat):Int) mR (t.from0 N) ?_
    exact f1
   ·intro _ g O _
    have P:=p.extk O
    rintro _ _ _ _ _ _ rfl _ rfl _ rfl _ _ _
    refine sw<|eb (x:=e) k wN pP (t.from0 P) ?_
    exact f1
   ·intro _ g af _
    rintro _
    iterate 8 rintro _ rfl
    intro _ _
    refine sw<|rC (d.getD k 0) (e.getD k 0) wN rfl rfl (by kernel_rfl) ?_
    exact f1
   ·intro _ g ah _
    rintro _
    iterate 9 rintro _ rfl
    intro _
    refine sw<|ar (((d.getD k 0)^^^(e.getD k 0)).toNat:Int) wN ?_
    exact f1
  ·intro _ g C
   have Q:=p.extk C
   iterate 11 rintro _ rfl
   refine sw<|we (orX d e k) (((d.getD k 0)^^^(e.getD k 0)).toNat:Int) wN rfl rfl (by kernel_rfl) (by omega) (by omega) (by omega) (by omega) ?_
   have ai:=uD (a:=(orX d e k)) (b:=(((d.getD k 0)^^^(e.getD k 0)).toNat:Int)) (by omega) (by omega)
   refine aw (vi (orI (orX d e k) (((d.getD k 0)^^^(e.getD k 0)).toNat:Int))) ?_
   refine mW<|mQ<|mP<|mV ?_
   refine ar (((k:Nat):Int)+1) wN ?_
   refine mw (vi (((k:Nat):Int)+1)) ?_
   refine mW<|nX (w0:=B) [(0,(vs i d.length j)),(1,(vs l e.length m)),(4,(vi 0)),(5,(vi (orX d e (k+1)))),(13,(vi (d.length:Int))),(14,(vi (((k+1):Nat):Int)))] ?_ ?_ ?_
   · exact ⟨rfl,rfl,rfl,(cA (Value.int .i64) (show ((orI (orX d e k) (((d.getD k 0)^^^(e.getD k 0)).toNat:Int)):Int)=(orX d e (k+1)) by rfl)),rfl,(cA (Value.int .i64) (show ((((k:Nat):Int)+1):Int)=(((k+1):Nat):Int) by omega)),trivial⟩
   · exact fun u=>⟨(k+1),u,rfl,Q,(((Ch.refl (fun k=>f.heap.size≤k) f).ext G (fun k hk=>hk)).extk C),(by omega)⟩
   · show d.length - ((((k+1):Nat):Int)).toNat < d.length - (((k:Nat):Int)).toNat;omega

def ql :(PWin):={Top:=(-1),Bits:=(List.replicate 32 (0:Int)):PWin}
theorem Af (a:World)  :Fn Tryz.prog 82 #[] a (fun v e=>Keep a e∧BD e a.heap.size v (ql)):=by
 refine nu (n:=3) [] Tryz.func82 rfl rfl ?_
 refine sr<|al [(vi 0),(vs none 0 0)] wN pX ?_
 intro t u j l f m
 refine nx<|wC (32) wN rfl rfl rfl nf 32 rfl (by omega) (by first|(simp only [List.length_append,List.length_cons,List.length_nil,List.length_replicate,List.length_take,List.length_drop];omega)|omega) (by first|(simp only [List.length_append,List.length_cons,List.length_nil,List.length_replicate,List.length_take,List.length_drop];omega)|omega) ?_
 intro b d w g h
 refine pu (va [(vi (-1)),(vs b (List.replicate 32 (0:Int)).length d)]) wN ?_
 have o:=(m.kp g)
 refine sv [(vi (-1)),(vs b (List.replicate 32 (0:Int)).length d)] wN ni o ?_
 intro x i p y
 have q:=(((Ch.base a).extk f).extk g).ext i (fun k hk=>by subst hk;exact j)
 refine n3 ?_
 have r:=(gc h i (ne1 h (l)))
 refine rc [(vi (-1)),(vs b (List.replicate 32 (0:Int)).length d)] p nJ ni ?_
 refine ⟨q.keep0,?_⟩
 have s:ql={Top:=(-1),Bits:=(List.replicate 32 (0:Int)):PWin}:=by rfl
 rw [s]
 exact ⟨_,_,rfl,(mO r f.size),(by rw [List.length_replicate];first|assumption|omega),⟨trivial,trivial⟩⟩

def nU (a:Int) (b:List UInt8):(PEp):=bif (i_within a 0 4294967295) then (bif (decide ((b.length:Int)=32)) then ({N:=a,Key:=(b),Seq:=0,Win:=(ql):PEp}) else ({N:=0,Key:=[],Seq:=0,Win:={Top:=0,Bits:=[]:PWin}:PEp})) else ({N:=0,Key:=[],Seq:=0,Win:={Top:=0,Bits:=[]:PWin}:PEp})
theorem Bx (g:World) (a:Int) (y:Value) (b:List UInt8) (J:pI g y b) :Fn Tryz.prog 46 #[(vi a),y] g (fun v A=>Keep g A∧Ar A g.heap.size v (nU a b)):=by
 obtain ⟨h,i,rfl,B,K⟩:=J
 refine nu (n:=19) [(vi a),(vs h b.length i)] Tryz.func46 rfl rfl ?_
 refine sr<|al se wN pm ?_
 intro L M C D q E
 have F:=(Ch.base g).extk q
 refine n4<|jT1 [(0,(vi a)),(1,(vs h b.length i)),(4,(vp L 0))] (nU a b={N:=0,Key:=[],Seq:=0,Win:={Top:=0,Bits:=[]:PWin}:PEp}) ?_ fun G=>?_
 ·intro O H I ad
  refine sr<|pu (va se) wN ?_
  have P:=(E.kp I)
  refine sv se wN mY P ?_
  intro r Q R ae
  have S:=(F.extk I).ext Q (fun k hk=>by subst hk;exact C)
  refine n1<|rc se R nv mY ?_
  refine ⟨S.keep0,?_⟩
  rw [O]
  exact ⟨_,_,_,_,rfl,(nM _ _ _ _),(by simp),(nM _ _ _ _),(by simp),⟨⟨(Ap.nl _),trivial⟩,⟨trivial,trivial⟩⟩⟩
 refine mw (vi a) ?_
 refine cl wN (oW M a 0 4294967295) ?_
 rintro _ H ⟨e,rfl⟩
 have s:=F.extk e
 refine pu (vb (!(i_within a 0 4294967295))) wN ?_
 refine mw (vb (!(i_within a 0 4294967295))) ?_
 rcases bf (i_within a 0 4294967295) with d|d
 ·have af:=oe d
  iterate 3 refine sk (cA not d) ?_
  refine pk vT wN (cA not d) ?_
  refine n2<|ct T1 ?_
  have T:nU a b={N:=0,Key:=[],Seq:=0,Win:={Top:=0,Bits:=[]:PWin}:PEp}:=by simp only [nU,d,cond_true,cond_false]
  exact wj (G T _ e)
 have ah:=nD d
 refine mv (vs h b.length i) (wS (cA not d)) ?_
 refine ln (wS (cA not d)) mR (B.from0 s) ?_
 refine pu (vb (!(decide ((b.length:Int)=32)))) (wS (cA not d)) ?_
 refine pf (vb (!(decide ((b.length:Int)=32)))) wN (cA not d) ?_
 refine n2 ?_
 rcases bf (decide ((b.length:Int)=32)) with f|f
 ·have ai:=dF f
  refine ct (cA not f) ?_
  have V:nU a b={N:=0,Key:=[],Seq:=0,Win:={Top:=0,Bits:=[]:PWin}:PEp}:=by simp only [nU,d,f,cond_true,cond_false]
  exact wj (G V _ e)
 have aj:=dT f
 refine cf (cA not f)<|y1<|mw (vi a) ?_
 refine mw (vs h b.length i) ?_
 refine cl wN (rA H _ b (nH (B.from0 s) K)) ?_
 rintro _ r ⟨j,⟨l,m,rfl,t,W,ak⟩⟩
 refine cl wN (Af r ) ?_
 rintro _ am ⟨u,⟨o,p,rfl,w,X,an⟩⟩
 refine pu (va [(vi a),(vs l (b).length m),(vi 0),(vi ((ql).Top)),(vs o ((ql).Bits).length p)]) wN ?_
 have Y:=(((E.kp e).kp j).kp u)
 refine sv [(vi a),(vs l (b).length m),(vi 0),(vi ((ql).Top)),(vs o ((ql).Bits).length p)] wN mY Y ?_
 intro ao x Z ap
 have aa:=((s.extk j).extk u).ext x (fun k hk=>by subst hk;exact C)
 refine n3 ?_
 have ab:=(gc (mz t u) x (ne1 t (nL D e.size)))
 have ac:=(gc w x (ne1 w (nL D (z2 e j))))
 refine rc [(vi a),(vs l (b).length m),(vi 0),(vi ((ql).Top)),(vs o ((ql).Bits).length p)] Z nv mY ?_
 refine ⟨aa.keep0,?_⟩
 simp only [nU,d,f,cond_true,cond_false]
 exact ⟨_,_,_,_,rfl,(mO ab (z2 q e)),W,(mO ac (z3 q e j)),X,⟨⟨(Ap.lt t w (Nat.le_refl r.heap.size)),trivial⟩,⟨trivial,trivial⟩⟩⟩

theorem vU (e:World) (B:Value) (d:List UInt8) (S:pI e B d) (b:Int) (a:Int) (aj:d.length≤1000000):Fn Tryz.prog 147 #[B,(vi b),(vi a)] e (fun v o=>Keep e o∧rr o e.heap.size v (pB d b a)):=by
 obtain ⟨C,D,rfl,T,E⟩:=S
 refine nu (n:=35) [(vs C d.length D),(vi b),(vi a)] Tryz.func147 rfl rfl ?_
 refine sr<|aw (vs none 0 0) ?_
 refine nx<|nF wN rfl rfl mR (fun w=>by kernel_rfl) ?_
 intro ak am y V
 have F:=(Ch.base e).extk y
 refine mw (vs C d.length D) ?_
 refine ap0 d wN mR V (T.from0 F) y.size ?_
 intro f g A G H an
 have I:=F.extk G
 refine aw (vs f d.length g) ?_
 refine n4<|jT1 [(1,(vi b)),(2,(vi a)),(6,(vs none 0 0)),(7,(vs f d.length g))] (pB d b a=d) ?_ fun J=>?_
 ·intro W K L ao
  have X:=I.extk L
  refine sr<|mw (vs f d.length g) ?_
  refine aw (vs f d.length g) ?_
  refine n1 ?_
  have Y:=(mz H L)
  refine rt (vs f d.length g) ?_
  refine ⟨X.keep0,?_⟩
  rw [W]
  exact ⟨_,_,rfl,Y,E,⟨trivial,trivial⟩⟩
 refine mw (vi a) ?_
 refine pu (vb (decide (a < 1))) wN ?_
 refine mw (vb (decide (a < 1))) ?_
 rcases bt (decide (a < 1)) with h|h
 ·have ap:=dT h
  iterate 2 refine sk h ?_
  refine pk vT wN h ?_
  refine n2<|ct T1 ?_
  have Z:pB d b a=d:=by first|exact rM (by omega)|exact rN (by omega) (by omega) (by omega)
  exact wj (J Z _ (Ch.refl _ _))
 have aq:=dF h
 refine mv (vi a) (wS h) ?_
 refine pu (vb (decide (6 < a))) (wS h) ?_
 refine pf (vb (decide (6 < a))) wN h ?_
 refine n2 ?_
 rcases bt (decide (6 < a)) with p|p
 ·have au:=dT p
  refine ct p ?_
  have aa:pB d b a=d:=by first|exact rM (by omega)|exact rN (by omega) (by omega) (by omega)
  exact wj (J aa _ (Ch.refl _ _))
 have av:=dF p
 refine cf p<|y2<|mw (vi a) ?_
 refine ar (a - 1) wN ?_
 refine aw (vi (a - 1)) ?_
 refine mW<|mP<|ng ?_
 have M:(d:List UInt8)=d++qg b a 0:=by simp [qg]
 refine oa [(1,(vi b)),(6,(vs none 0 0)),(7,(.slice f (d++qg b a 0).length g)),(8,(vi (a - 1 - ((0:Nat):Int))))] ⟨rfl,rfl,(cA (fun l:List UInt8=>Value.slice f l.length g) M),(cA (Value.int .i64) (show ((a - 1):Int)=(a - 1 - ((0:Nat):Int)) by omega)),trivial⟩ (fun e' o=>∃ (j:Nat) (N:Env) (i:Option Addr) (m:Nat),e'=pt N [(1,(vi b)),(6,(vs none 0 0)),(7,(.slice i (d++qg b a j).length m)),(8,(vi (a - 1 - ((j:Nat):Int))))]∧Ch (fun k=>e.heap.size≤k) e o∧Ch (fun k=>e.heap.size≤k) A o∧((j:Nat):Int)≤a∧(World.ownsRow o e.heap.size 5 1 (.slice i (d++qg b a j).length m) (d++qg b a j).length ((d++qg b a j).map bV)∧(d++qg b a j).length≤1073741824)) (fun e' _=>((intOf (e' 8))+1).toNat) ?_ ?_
 ·exact fun u=>⟨0,u,f,g,rfl,I,(Ch.refl (fun k=>e.heap.size≤k) A),(by omega),(M ▸ ⟨H,E⟩)⟩
 ·rintro _ K ⟨j,N,i,m,rfl,O,P,ax,⟨r,ab⟩⟩
  have hpl:=ru b a j
  refine nh<|sr<|mw (vi (a - 1 - ((j:Nat):Int))) ?_
  refine pu (vb (decide (0≤(a - 1 - ((j:Nat):Int))))) wN ?_
  refine n2 ?_
  rcases bf (decide (0≤(a - 1 - ((j:Nat):Int)))) with q|q
  ·have ay:=dF q
   refine cf q<|oh<|mU<|mU<|nq<|mP<|sr<|mw (vs i (d++qg b a j).length m) ?_
   refine aw (vs i (d++qg b a j).length m) ?_
   refine n3<|rt (vs i (d++qg b a j).length m) ?_
   refine ⟨O.keep0,?_⟩
   have ac:pB d b a=(d++qg b a j):=by first|exact rM (by omega)|exact rN (by omega) (by omega) (by omega)
   rw [ac]
   exact ⟨_,_,rfl,r,ab,⟨trivial,trivial⟩⟩
  have az:=dT q
  refine ct q<|nm<|mP<|nh<|ng<|mV ?_
  refine mw (vs i (d++qg b a j).length m) ?_
  refine mw (vi b) ?_
  refine mw (vi (a - 1 - ((j:Nat):Int))) ?_
  refine ar (8*(a - 1 - ((j:Nat):Int))) wN ?_
  refine uf b (8*(a - 1 - ((j:Nat):Int))) wN rfl rfl rfl rfl rfl (by omega) (by omega) ?_
  refine qc (b / (2:Int) ^ ((8*(a - 1 - ((j:Nat):Int)))).toNat) 255 256 8 wN rfl rfl (by decide) (by decide) (by decide) (by kernel_rfl) ?_
  refine qj ((b / (2:Int) ^ ((8*(a - 1 - ((j:Nat):Int)))).toNat) % 256) wN rfl rfl (by kernel_rfl) ?_
  refine ltB ([(by8 ((b / (2:Int) ^ ((8*(a - 1 - ((j:Nat):Int)))).toNat) % 256))]:List UInt8) wN mR ?_
  intro a0 a1 a2 s ad
  have ae:=(mz r s)
  refine apB (d++qg b a j) ([(by8 ((b / (2:Int) ^ ((8*(a - 1 - ((j:Nat):Int)))).toNat) % 256))]:List UInt8) wN mR ae (Rd.of_own ad) (z4 y G P s) ?_
  intro t x a3 Q af a4 ah
  have ai:=(O.extk s).ext Q (fun k hk=>nT (Nat.le_refl e.heap.size) (nb r k hk).1)
  refine aw (vs t ((d++qg b a j)++([(by8 ((b / (2:Int) ^ ((8*(a - 1 - ((j:Nat):Int)))).toNat) % 256))]:List UInt8)).length x) ?_
  refine mW<|mQ<|mP<|mV ?_
  refine mw (vi (a - 1 - ((j:Nat):Int))) ?_
  refine ar ((a - 1 - ((j:Nat):Int)) - 1) wN ?_
  refine aw (vi ((a - 1 - ((j:Nat):Int)) - 1)) ?_
  refine mW ?_
  have R:(((d++qg b a j)++([(by8 ((b / (2:Int) ^ ((8*(a - 1 - ((j:Nat):Int)))).toNat) % 256))]:List UInt8)):List UInt8)=d++qg b a (j+1):=by simp [qg]
  refine nX (w0:=K) [(1,(vi b)),(6,(vs none 0 0)),(7,(.slice t (d++qg b a (j+1)).length x)),(8,(vi (a - 1 - (((j+1):Nat):Int))))] ?_ ?_ ?_
  · exact ⟨rfl,rfl,(cA (fun l:List UInt8=>Value.slice t l.length x) R),(cA (Value.int .i64) (show (((a - 1 - ((j:Nat):Int)) - 1):Int)=(a - 1 - (((j+1):Nat):Int)) by omega)),trivial⟩
  · exact fun u=>⟨(j+1),u,t,x,rfl,ai,((((Ch.refl (fun k=>e.heap.size≤k) A).ext P (fun k hk=>hk)).extk s).ext Q (fun k hk=>nT (Nat.le_refl e.heap.size) (nb r k hk).1)),(by omega),(R ▸ ⟨af,ah⟩)⟩
  · show ((a - 1 - (((j+1):Nat):Int))+1).toNat < ((a - 1 - ((j:Nat):Int))+1).toNat;omega

def vh:LTy (List UInt8):={E:=22,Eb:=5,sz:=1,enc:=fun e=>[vs (Dk e.2 0).1 e.1.length (Dk e.2 0).2],bs:=fun x=>[x],len:=fun _=>rfl,one:=fun _=>uF rfl,pos:=by decide,ne:=by decide}
def z_B:List UInt8:=[]
theorem qG:SlTy Tryz.prog 141 22 1 24 (vs none 0 0):=CN Tryz.underlying141 (by kernel_rfl) rfl rfl
def CB (w:World) (v:Value) (x:(List (List UInt8))):Prop:=∃ (a:Option Addr) (b:Nat),v=.slice a x.length b∧RLv vh w 1073741824 a x.length b x∧x.length≤1073741824
theorem rz (b:World) (B:Value) (a:List (List UInt8)) (K:CB b B a) (aa:(ns a).length≤4000000):Fn Tryz.prog 117 #[B] b (fun v f=>Keep b f∧rr f b.heap.size v (ns a)):=by
 obtain ⟨g,h,rfl,r,ab⟩:=K
 refine nu (n:=18) [(vs g a.length h)] Tryz.func117 rfl rfl ?_
 refine sr<|aw (vs none 0 0) ?_
 refine nx<|nF wN rfl rfl mR (fun w=>by kernel_rfl) ?_
 intro s t C L
 have D:=(Ch.base b).extk C
 refine aw (vs (some s) 0 0) ?_
 refine n4<|mw (vs g a.length h) ?_
 obtain ⟨ac,M⟩:=RLv.row (r.from0 D)
 refine ln wN qG M ?_
 refine mw (vi 0) ?_
 refine mW<|mP<|ng ?_
 have E:([]:List UInt8)=ns (a.take 0):=by rfl
 have F:0=(ns (a.take 0)).length:=by rw [← E];try (first|rfl|simp only [List.length_set]|simp)
 refine oa [(2,(vs none 0 0)),(3,(.slice (some s) (ns (a.take 0)).length 0)),(7,(vs g a.length h)),(8,(vi (a.length:Int))),(9,(vi ((0:Nat):Int)))] ⟨rfl,rfl,rfl,rfl,(cA (Value.int .i64) (show (0:Int)=((0:Nat):Int) by omega)),trivial⟩ (fun e' f=>∃ (k:Nat) (G:Env) (d:Option Addr) (e:Nat),e'=pt G [(2,(vs none 0 0)),(3,(.slice d (ns (a.take k)).length e)),(7,(vs g a.length h)),(8,(vi (a.length:Int))),(9,(vi ((k:Nat):Int)))]∧Ch (fun k=>b.heap.size≤k) b f∧Ch (fun k=>b.heap.size≤k) t f∧k≤a.length∧(World.ownsRow f b.heap.size 5 1 (.slice d (ns (a.take k)).length e) (ns (a.take k)).length ((ns (a.take k)).map bV)∧(ns (a.take k)).length≤1073741824)) (fun e' _=>a.length - ((intOf (e' 9))).toNat) ?_ ?_
 ·exact fun u=>⟨0,u,(some s),0,rfl,D,(Ch.refl (fun k=>b.heap.size≤k) t),(by omega),⟨(by rw [← F,← E];exact L),(by rw [← F];first|exact (by simp)|(simp only [List.length_append,List.length_take,List.length_replicate];omega))⟩⟩
 ·rintro _ N ⟨k,G,d,e,rfl,j,H,ad,⟨o,O⟩⟩
  have hfl:=Bj (z:=z_B) (x:=a) (k:=k)
  refine sr<|pu (vb (decide (((k:Nat):Int) < (a.length:Int)))) wN ?_
  refine mW<|mP<|nh ?_
  rcases bf (decide (((k:Nat):Int) < (a.length:Int))) with m|m
  ·have ae:=dF m
   refine cf m<|oh<|mU<|mU<|nq<|mP<|sr<|mw (vs d (ns (a.take k)).length e) ?_
   refine aw (vs d (ns (a.take k)).length e) ?_
   refine n3<|rt (vs d (ns (a.take k)).length e) ?_
   refine ⟨j.keep0,?_⟩
   have P:ns a=(ns (a.take k)):=by exact zQ (by omega)
   rw [P]
   exact ⟨_,_,rfl,o,O,⟨trivial,trivial⟩⟩
  have af:=dT m
  refine ct m<|nm<|mP<|nh<|ng<|sr ?_
  obtain ⟨ah,Q⟩:=RLv.row (r.from0 j)
  refine ix wN ((k:Nat):Int) qG Q ?_
  obtain ⟨ai,aj,R,S,T⟩:=RLv.el z_B (i:=k) r (by first|omega|(simp <;> omega))
  obtain ⟨y,A,ak,rfl,V,am,W⟩:=tx.c T
  obtain rfl:=tx.n W
  refine pE (vs y (a.getD k z_B).length A) wN rfl rfl rfl rfl nd (R.from0 j) ((Cg (off:=0) S (by first|rfl|simp|omega) (by decide)).trans rfl) ?_
  refine aw (vs y (a.getD k z_B).length A) ?_
  refine mW<|mP<|mV ?_
  refine mw (vs d (ns (a.take k)).length e) ?_
  refine mw (vs y (a.getD k z_B).length A) ?_
  refine apB (ns (a.take k)) (a.getD k z_B) wN mR o (V.from0 j) (z2 C H) ?_
  intro p q an I X ao Y
  have Z:=j.ext I (fun k hk=>nT (Nat.le_refl b.heap.size) (nb o k hk).1)
  refine aw (vs p ((ns (a.take k))++(a.getD k z_B)).length q) ?_
  refine mW<|mQ<|mP<|mV ?_
  refine ar (((k:Nat):Int)+1) wN ?_
  refine mw (vi (((k:Nat):Int)+1)) ?_
  refine mW ?_
  have J:(((ns (a.take k))++(a.getD k z_B)):List UInt8)=ns (a.take (k+1)):=by exact vN (by omega)
  refine nX (w0:=N) [(2,(vs none 0 0)),(3,(.slice p (ns (a.take (k+1))).length q)),(7,(vs g a.length h)),(8,(vi (a.length:Int))),(9,(vi (((k+1):Nat):Int)))] ?_ ?_ ?_
  · exact ⟨rfl,(cA (fun l:List UInt8=>Value.slice p l.length q) J),rfl,rfl,(cA (Value.int .i64) (show ((((k:Nat):Int)+1):Int)=(((k+1):Nat):Int) by omega)),trivial⟩
  · exact fun u=>⟨(k+1),u,p,q,rfl,Z,(((Ch.refl (fun k=>b.heap.size≤k) t).ext H (fun k hk=>hk)).ext I (fun k hk=>nT (Nat.le_refl b.heap.size) (nb o k hk).1)),(by omega),(J ▸ ⟨X,Y⟩)⟩
  · show a.length - ((((k+1):Nat):Int)).toNat < a.length - (((k:Nat):Int)).toNat;omega
end Go.Proofs.YtacoceibbheccaaGreat.K
