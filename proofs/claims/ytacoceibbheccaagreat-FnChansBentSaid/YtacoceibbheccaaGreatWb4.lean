import Derived.Test.YtacoceibbheccaaGreatWb3
namespace Go.Proofs.YtacoceibbheccaaGreat.K
open Go.RowKit
set_option linter.unusedVariables false
set_option linter.unusedSimpArgs false
set_option maxRecDepth 100000
set_option maxHeartbeats 4000000
def Dp (w:World) (g:Nat) (v:Value) (x:(PFrame)):Prop:=∃ (a:Option Addr) (i:Nat) (b:Option Addr) (j:Nat) (d:Option Addr) (k:Nat) (e:Option Addr) (l:Nat) (f:Option Addr) (m:Nat) (h:Option Addr) (o:Nat),v=.agg #[.int .i64 x.Kind,.int .i64 x.Id,.slice a x.Cn.length i,.slice b x.Sn.length j,.int .i64 x.Tick,.slice d x.Cookie.length k,.slice e x.Proof.length l,.int .i64 x.Epoch,.int .i64 x.Seq,.slice f x.Body.length m,.slice h x.Tag.length o]∧Rd w 1 (.slice a x.Cn.length i) x.Cn.length (x.Cn.map bV)∧x.Cn.length≤1073741824∧(0 < x.Cn.length→∀ z,a=some z→z.block ≠ g)∧Rd w 1 (.slice b x.Sn.length j) x.Sn.length (x.Sn.map bV)∧x.Sn.length≤1073741824∧(0 < x.Sn.length→∀ z,b=some z→z.block ≠ g)∧Rd w 1 (.slice d x.Cookie.length k) x.Cookie.length (x.Cookie.map bV)∧x.Cookie.length≤1073741824∧(0 < x.Cookie.length→∀ z,d=some z→z.block ≠ g)∧Rd w 1 (.slice e x.Proof.length l) x.Proof.length (x.Proof.map bV)∧x.Proof.length≤1073741824∧(0 < x.Proof.length→∀ z,e=some z→z.block ≠ g)∧Rd w 1 (.slice f x.Body.length m) x.Body.length (x.Body.map bV)∧x.Body.length≤1073741824∧(0 < x.Body.length→∀ z,f=some z→z.block ≠ g)∧Rd w 1 (.slice h x.Tag.length o) x.Tag.length (x.Tag.map bV)∧x.Tag.length≤1073741824∧(0 < x.Tag.length→∀ z,h=some z→z.block ≠ g)
theorem zU (ax:World) (g:Nat) (ca:Option Addr) (cc:Nat) (cb:List UInt8) (c6:ph ax g 110 ca cc cb) (bW:Value) (m:PFrame) (c7:Dp ax g bW m) (fq:m.Sn.length≤12) (fr:m.Body.length≤40) (fs:m.Tag.length≤16):Fn Tryz.prog 102 #[(vp g 0),bW] ax (fun v T=>∃ x:(PFrame),Ch (fun k=>k=g) ax T∧ph T g 110 ca cc cb∧CD T ax.heap.size v x∧(True)):=by
 obtain ⟨ci,chh,hcb,hcr,hcl,hci,hcn⟩:=c6
 have hgl:=Blk.lt hcb
 obtain ⟨an,b7,b8,b9,bA,bB,bC,bD,bE,bF,bG,bH,rfl,c8,c9,cC,cD,cE,cF,cG,cH,cI,cJ,cK,cL,cM,cN,cO,cP,cQ,cR⟩:=c7
 refine nu (n:=57) [(vp g 0),(va (oD m an b7 b8 b9 bA bB bC bD bE bF bG bH))] Tryz.func102 rfl rfl ?_
 refine sr<|bx (oD m an b7 b8 b9 bA bB bC bD bE bF bG bH) wN ?_
 intro ft bX fu fv a cS
 have cT:=ChG.extk (Ch.refl (fun k=>k=g) ax) a
 refine al vf wN pW ?_
 intro aQ X V O b a7
 have a8:=ChG.extk cT b
 refine nx ?_
 have cU:=(cS.kp b)
 refine lN (oD m an b7 b8 b9 bA bB bC bD bE bF bG bH) wN nk mZ cU ?_
 refine cl wN (zX X _ m (qI (Rd.chP c8 a8 cC) c9 (Rd.chP cD a8 cF) cE (Rd.chP cG a8 cI) cH (Rd.chP cJ a8 cL) cK (Rd.chP cM a8 cO) cN (Rd.chP cP a8 cR) cQ)) ?_
 rintro _ P ⟨i,⟨B,C,I,J,D,F,G,H,K,L,M,N,rfl,ab,a9,ac,aA,ad,aB,ae,aC,af,aD,ah,aE,d⟩⟩
 have cV:=ChG.extk a8 i
 refine al vf wN pW ?_
 intro Y fw p ap r cW
 have cX:=ChG.extk cV r
 refine sv (oD (m) B C I J D F G H K L M N) wN mZ cW ?_
 intro cY l au fx
 have bY:=ChG.ext cX l (fun k hk=>.inr (by subst hk;exact nT (z3 a b i) p))
 refine n4<|mw (vp g 0) ?_
 have cZ:=(((((hcb.kp a).kp b).kp i).kp r).ch l (nN (nL hgl (nT (z3 a b i) p))))
 refine cl wN (ow cY g ca cc cb (cx cZ hcr bY hcl hcn) 14) ?_
 rintro _ W ⟨y,f,⟨fy,fz,aY,f0,f3,f4,f5⟩,rfl,f6⟩
 have am:=ChG.ext bY f iL
 refine mW<|mP<|ng<|sr<|pu (vb (decide ((y)=0))) wN ?_
 refine aw (vb (decide ((y)=0))) ?_
 refine n2 ?_
 rcases bt (decide ((y)=0)) with aZ|aZ
 ·have f7:=dT aZ
  refine ct aZ<|ob ([(12,[],[],(fun _ v _=>v=(vp Y 8))),(13,[],[0],(fun _ v _=>v=(vi ((m).Seq)))),(14,[],[],(fun _ v _=>v=(vp g 0))),(15,[],[],(fun _ v w=>∃ (an:Option Addr) (aF:Nat),v=.slice an ([1,(-1),7]:List Int).length aF∧w.ownsRow W.heap.size 3 1 (.slice an ([1,(-1),7]:List Int).length aF) ([1,(-1),7]:List Int).length (([1,(-1),7]:List Int).map iV)∧([1,(-1),7]:List Int).length≤1073741824∧Aps [(an,aF)])),(16,[],[2,3],(fun _ v _=>∃ aG:Int,v=(vi aG)∧aG ∈ ([1,(-1),7]:List Int)))]:GV) (fun lf T=>Ch (fun k=>k=g) W T∧ph T g 110 ca cc cb) [(4,fun w T=>Ch (fun k=>k=g) w T∧(ph w g 110 ca cc cb→ph T g 110 ca cc cb))] oM rfl (by kernel_rfl) (by kernel_rfl) ?_ (fun _ _ h=>⟨h.to _,ph.kp (cx aY hcr am hcl hcn) h⟩) (fun _ _ _ _ h mo k=>by obtain ⟨hc,hcur⟩:=h;exact ⟨hc.comp k (fun _ _ q=>q.elim),hcur.kp k⟩) ⟨(fun _ _ w T h mo hj t=>by obtain ⟨hc,hcur⟩:=h;exact ⟨hc.comp t.1 (fun _ _ q=>q),t.2 hcur⟩),trivial⟩ ?_ ?_ ?_
  ·exact ⟨hV,hE,⟨hV,hE,⟨hV,hE,⟨(fun e v w bX h hk=>by obtain ⟨aH,aI,he,av,aJ,hap⟩:=h;exact ⟨aH,aI,he,mz av hk,aJ,hap⟩),hE,⟨hV,hE,trivial⟩⟩⟩⟩⟩
  ·exact ⟨⟨.inr hV,⟨.inr hV,⟨.inr hV,⟨.inr (fun e v wX wY h ht=>by obtain ⟨aH,aI,he,av,aJ,hap⟩:=h;exact ⟨aH,aI,he,gc av ht.1 (fun gq hg _ hk=>by have ai:=(nb av gq hg).1;have ao:gq=g:=hk;have da:=(nL hgl (z6 a b i r l f));omega),aJ,hap⟩),⟨.inl rfl,trivial⟩⟩⟩⟩⟩,trivial⟩
  ·refine ⟨?_,⟨?_,⟨?_,⟨?_,⟨?_,trivial⟩⟩⟩⟩⟩
   ·rintro lf Q ⟨f8,⟨f9,fA,fB,fC,fD,fE,fF⟩⟩ ⟨fG,-⟩
    rintro _ _ _ _ _
    refine sw<|pu (vp Y 8) wN ?_
    exact f1
   ·rintro lf Q ⟨db,⟨fH,fI,fJ,fK,fL,fM,fN⟩⟩ ⟨fO,-⟩
    rintro _ rfl _ _ _ _
    refine sw ?_
    have dc:=((au.ch f (Ne.symm (nN (nL hgl (nT (z3 a b i) p))))).ch db (Ne.symm (nN (nL hgl (nT (z3 a b i) p)))))
    refine ld (vi ((m).Seq)) wN mT dc ?_
    exact f1
   ·rintro lf Q ⟨fP,⟨fQ,fR,fS,fT,fU,fV,fW⟩⟩ ⟨fX,-⟩
    rintro _ _ _ _ _
    refine sw<|mw (vp g 0) ?_
    exact f1
   ·rintro lf Q ⟨dd,⟨fY,fZ,ga,gb,gd,ge,gf⟩⟩ ⟨gg,-⟩
    rintro _ _ _ _ _
    refine sw<|ltI ([1,(-1),7]:List Int) wN nf ?_
    intro gh gi aq de df
    exact nK de ⟨_,_,rfl,(mO df dd.size),(by simp),⟨trivial,trivial⟩⟩
   ·rintro lf Q ⟨dg,⟨gj,gk,dh,gl,gm,gn,gp⟩⟩ ⟨gr,-⟩
    have bZ:=ChG.ext am dg iL
    rintro _ _ _ rfl _ ⟨gs,gt,rfl,cd,di,-⟩ _
    refine sw<|cl wN (oz Q g ca cc cb (cx dh hcr bZ hcl hcn) _ ([1,(-1),7]:List Int) ⟨_,_,rfl,(Rd.of_own cd),di,(fun _ z hz=>by have ai:=(nb cd z.block (by rw [hz];rfl)).1;have aj:=nL hgl (z6 a b i r l f);omega)⟩ (by simp)) ?_
    rintro _ aq ⟨bI,ce,⟨gu,gv,dj,gw,gx,gy,gz⟩,rfl,cg⟩
    have dk:=ChG.ext bZ ce iL
    have q204m:bI=1∨bI=(-1)∨bI=7:=by simpa using cg
    exact nK ⟨ce,fun _=>(cx dj hcr dk hcl hcn)⟩ ⟨_,rfl,cg⟩
  ·rintro lf Q ⟨bo,⟨g0,g1,dl,g2,g3,g4,g5⟩⟩
   have dm:=ChG.ext am bo iL
   rintro _ rfl _ rfl _ rfl _ ⟨g6,g7,rfl,g8,g9,-⟩ _ ⟨aG,rfl,dn⟩
   have q229m:aG=1∨aG=(-1)∨aG=7:=by simpa using dn
   refine sw<|ta (IntKind.i64.wrap (((m).Seq)+aG)) wN rfl rfl (by kernel_rfl) ?_
   intro ay
   refine pu (vp Y 8) wN ?_
   have dp:=((au.ch f (Ne.symm (nN (nL hgl (nT (z3 a b i) p))))).ch bo (Ne.symm (nN (nL hgl (nT (z3 a b i) p)))))
   refine sf (vi ay) wN nV dp ?_
   intro aq bp dq gA
   have dr:=ChG.ext dm bp (fun k hk=>.inr (by subst hk;exact nT (z3 a b i) p))
   refine mW<|mQ<|mP<|sr ?_
   refine lN (oD {(m) with Seq:=ay:PFrame} B C I J D F G H K L M N) wN nk mZ dq ?_
   have ds:=((((((a7.kp i).kp r).ch l (nN (nL O (nT i.size p)))).ch f (Ne.symm (nN (nL hgl (nT a.size V))))).ch bo (Ne.symm (nN (nL hgl (nT a.size V))))).ch bp (nN (nL O (nT i.size p))))
   refine sv (oD {(m) with Seq:=ay:PFrame} B C I J D F G H K L M N) wN mZ ds ?_
   intro aR bJ dt gB
   have cj:=ChG.ext dr bJ (fun k hk=>.inr (by subst hk;exact nT a.size V))
   refine n3 ?_
   have aS:=fun (E sz n:Nat) (v:Value) (R:List Value) (o:World.ownsRow P X.heap.size E sz v n R) (j:World.ownsRow P X.heap.size E sz v n R)=>(gc (gc (gc (gc (gc (mz o r) l (ne2 j (p))) f (ne1 j (nL hgl (z2 a b)))) bo (ne1 j (nL hgl (z2 a b)))) bp (ne2 j (p))) bJ (ne1 j (O)))
   have du:=(aS _ _ _ _ _ ab ab)
   have dv:=(aS _ _ _ _ _ ac ac)
   have dw:=(aS _ _ _ _ _ ad ad)
   have dx:=(aS _ _ _ _ _ ae ae)
   have dy:=(aS _ _ _ _ _ af af)
   have dz:=(aS _ _ _ _ _ ah ah)
   refine rc (oD {(m) with Seq:=ay:PFrame} B C I J D F G H K L M N) dt nk mZ ?_
   have d0:=((dl.ch bp (nN (nL hgl (nT (z3 a b i) p)))).ch bJ (nN (nL hgl (nT a.size V))))
   exact ⟨{(m) with Seq:=ay:PFrame},cj,(cx d0 hcr cj hcl hcn),⟨_,_,_,_,_,_,_,_,_,_,_,_,rfl,(mO du (z2 a b)),a9,(mO dv (z2 a b)),aA,(mO dw (z2 a b)),aB,(mO dx (z2 a b)),aC,(mO dy (z2 a b)),aD,(mO dz (z2 a b)),aE,⟨⟨(d.1.1),⟨(d.1.2.1),⟨(d.1.2.2.1),⟨(d.1.2.2.2.1),⟨(d.1.2.2.2.2.1),trivial⟩⟩⟩⟩⟩,⟨⟨(d.2.1.1),⟨(d.2.1.2.1),⟨(d.2.1.2.2.1),⟨(d.2.1.2.2.2.1),trivial⟩⟩⟩⟩,⟨⟨(d.2.2.1.1),⟨(d.2.2.1.2.1),⟨(d.2.2.1.2.2.1),trivial⟩⟩⟩,⟨⟨(d.2.2.2.1.1),⟨(d.2.2.2.1.2.1),trivial⟩⟩,⟨⟨(d.2.2.2.2.1.1),trivial⟩,⟨trivial,trivial⟩⟩⟩⟩⟩⟩⟩,trivial⟩
 have gC:=dF aZ
 refine cf aZ<|sr<|pu (vb (decide ((y)=1))) wN ?_
 refine aw (vb (decide ((y)=1))) ?_
 refine n2 ?_
 rcases bt (decide ((y)=1)) with ba|ba
 ·have gD:=dT ba
  refine ct ba<|ob ([(21,[],[],(fun _ v _=>v=(vp Y 7))),(22,[],[0],(fun _ v _=>v=(vi ((m).Epoch)))),(23,[],[],(fun _ v _=>v=(vp g 0))),(24,[],[],(fun _ v w=>∃ (an:Option Addr) (aF:Nat),v=.slice an ([1,(-1)]:List Int).length aF∧w.ownsRow W.heap.size 3 1 (.slice an ([1,(-1)]:List Int).length aF) ([1,(-1)]:List Int).length (([1,(-1)]:List Int).map iV)∧([1,(-1)]:List Int).length≤1073741824∧Aps [(an,aF)])),(25,[],[2,3],(fun _ v _=>∃ aT:Int,v=(vi aT)∧aT ∈ ([1,(-1)]:List Int)))]:GV) (fun lf T=>Ch (fun k=>k=g) W T∧ph T g 110 ca cc cb) [(4,fun w T=>Ch (fun k=>k=g) w T∧(ph w g 110 ca cc cb→ph T g 110 ca cc cb))] oM rfl (by kernel_rfl) (by kernel_rfl) ?_ (fun _ _ h=>⟨h.to _,ph.kp (cx aY hcr am hcl hcn) h⟩) (fun _ _ _ _ h mo k=>by obtain ⟨hc,hcur⟩:=h;exact ⟨hc.comp k (fun _ _ q=>q.elim),hcur.kp k⟩) ⟨(fun _ _ w T h mo hj t=>by obtain ⟨hc,hcur⟩:=h;exact ⟨hc.comp t.1 (fun _ _ q=>q),t.2 hcur⟩),trivial⟩ ?_ ?_ ?_
  ·exact ⟨hV,hE,⟨hV,hE,⟨hV,hE,⟨(fun e v w bX h hk=>by obtain ⟨aH,aI,he,av,aJ,hap⟩:=h;exact ⟨aH,aI,he,mz av hk,aJ,hap⟩),hE,⟨hV,hE,trivial⟩⟩⟩⟩⟩
  ·exact ⟨⟨.inr hV,⟨.inr hV,⟨.inr hV,⟨.inr (fun e v wX wY h ht=>by obtain ⟨aH,aI,he,av,aJ,hap⟩:=h;exact ⟨aH,aI,he,gc av ht.1 (fun gq hg _ hk=>by have ai:=(nb av gq hg).1;have ao:gq=g:=hk;have da:=(nL hgl (z6 a b i r l f));omega),aJ,hap⟩),⟨.inl rfl,trivial⟩⟩⟩⟩⟩,trivial⟩
  ·refine ⟨?_,⟨?_,⟨?_,⟨?_,⟨?_,trivial⟩⟩⟩⟩⟩
   ·rintro lf Q ⟨gE,⟨gF,gG,gH,gI,gJ,gK,gL⟩⟩ ⟨gM,-⟩
    rintro _ _ _ _ _
    refine sw<|pu (vp Y 7) wN ?_
    exact f1
   ·rintro lf Q ⟨d1,⟨gN,gO,gP,gQ,gR,gS,gT⟩⟩ ⟨gU,-⟩
    rintro _ rfl _ _ _ _
    refine sw ?_
    have d2:=((au.ch f (Ne.symm (nN (nL hgl (nT (z3 a b i) p))))).ch d1 (Ne.symm (nN (nL hgl (nT (z3 a b i) p)))))
    refine ld (vi ((m).Epoch)) wN mT d2 ?_
    exact f1
   ·rintro lf Q ⟨gV,⟨gW,gX,gY,gZ,ha,hb,hd⟩⟩ ⟨hf,-⟩
    rintro _ _ _ _ _
    refine sw<|mw (vp g 0) ?_
    exact f1
   ·rintro lf Q ⟨d3,⟨hh,hi,hl,hm,hn,ho,hp⟩⟩ ⟨hq,-⟩
    rintro _ _ _ _ _
    refine sw<|ltI ([1,(-1)]:List Int) wN nf ?_
    intro hr hs aq d4 d5
    exact nK d4 ⟨_,_,rfl,(mO d5 d3.size),(by simp),⟨trivial,trivial⟩⟩
   ·rintro lf Q ⟨d6,⟨hu,hv,d7,hw,hx,hy,h0⟩⟩ ⟨h1,-⟩
    have ck:=ChG.ext am d6 iL
    rintro _ _ _ rfl _ ⟨h2,h3,rfl,cm,d8,-⟩ _
    refine sw<|cl wN (oz Q g ca cc cb (cx d7 hcr ck hcl hcn) _ ([1,(-1)]:List Int) ⟨_,_,rfl,(Rd.of_own cm),d8,(fun _ z hz=>by have ai:=(nb cm z.block (by rw [hz];rfl)).1;have aj:=nL hgl (z6 a b i r l f);omega)⟩ (by simp)) ?_
    rintro _ aq ⟨cn,co,⟨h4,h5,d9,h6,h7,h8,h9⟩,rfl,cp⟩
    have dA:=ChG.ext ck co iL
    have q349m:cn=1∨cn=(-1):=by simpa using cp
    exact nK ⟨co,fun _=>(cx d9 hcr dA hcl hcn)⟩ ⟨_,rfl,cp⟩
  ·rintro lf Q ⟨bq,⟨hA,hB,dB,hC,hD,hF,hG⟩⟩
   have dC:=ChG.ext am bq iL
   rintro _ rfl _ rfl _ rfl _ ⟨hH,hI,rfl,hJ,hK,-⟩ _ ⟨aT,rfl,dD⟩
   have q374m:aT=1∨aT=(-1):=by simpa using dD
   refine sw<|ta (IntKind.i64.wrap (((m).Epoch)+aT)) wN rfl rfl (by kernel_rfl) ?_
   intro az
   refine pu (vp Y 7) wN ?_
   have dE:=((au.ch f (Ne.symm (nN (nL hgl (nT (z3 a b i) p))))).ch bq (Ne.symm (nN (nL hgl (nT (z3 a b i) p)))))
   refine sf (vi az) wN nV dE ?_
   intro aq br dG hL
   have dH:=ChG.ext dC br (fun k hk=>.inr (by subst hk;exact nT (z3 a b i) p))
   refine mW<|mQ<|mP<|sr ?_
   refine lN (oD {(m) with Epoch:=az:PFrame} B C I J D F G H K L M N) wN nk mZ dG ?_
   have dI:=((((((a7.kp i).kp r).ch l (nN (nL O (nT i.size p)))).ch f (Ne.symm (nN (nL hgl (nT a.size V))))).ch bq (Ne.symm (nN (nL hgl (nT a.size V))))).ch br (nN (nL O (nT i.size p))))
   refine sv (oD {(m) with Epoch:=az:PFrame} B C I J D F G H K L M N) wN mZ dI ?_
   intro aR bK dJ hM
   have cq:=ChG.ext dH bK (fun k hk=>.inr (by subst hk;exact nT a.size V))
   refine n3 ?_
   have aU:=fun (E sz n:Nat) (v:Value) (R:List Value) (o:World.ownsRow P X.heap.size E sz v n R) (j:World.ownsRow P X.heap.size E sz v n R)=>(gc (gc (gc (gc (gc (mz o r) l (ne2 j (p))) f (ne1 j (nL hgl (z2 a b)))) bq (ne1 j (nL hgl (z2 a b)))) br (ne2 j (p))) bK (ne1 j (O)))
   have dK:=(aU _ _ _ _ _ ab ab)
   have dL:=(aU _ _ _ _ _ ac ac)
   have dM:=(aU _ _ _ _ _ ad ad)
   have dN:=(aU _ _ _ _ _ ae ae)
   have dO:=(aU _ _ _ _ _ af af)
   have dP:=(aU _ _ _ _ _ ah ah)
   refine rc (oD {(m) with Epoch:=az:PFrame} B C I J D F G H K L M N) dJ nk mZ ?_
   have dQ:=((dB.ch br (nN (nL hgl (nT (z3 a b i) p)))).ch bK (nN (nL hgl (nT a.size V))))
   exact ⟨{(m) with Epoch:=az:PFrame},cq,(cx dQ hcr cq hcl hcn),⟨_,_,_,_,_,_,_,_,_,_,_,_,rfl,(mO dK (z2 a b)),a9,(mO dL (z2 a b)),aA,(mO dM (z2 a b)),aB,(mO dN (z2 a b)),aC,(mO dO (z2 a b)),aD,(mO dP (z2 a b)),aE,⟨⟨(d.1.1),⟨(d.1.2.1),⟨(d.1.2.2.1),⟨(d.1.2.2.2.1),⟨(d.1.2.2.2.2.1),trivial⟩⟩⟩⟩⟩,⟨⟨(d.2.1.1),⟨(d.2.1.2.1),⟨(d.2.1.2.2.1),⟨(d.2.1.2.2.2.1),trivial⟩⟩⟩⟩,⟨⟨(d.2.2.1.1),⟨(d.2.2.1.2.1),⟨(d.2.2.1.2.2.1),trivial⟩⟩⟩,⟨⟨(d.2.2.2.1.1),⟨(d.2.2.2.1.2.1),trivial⟩⟩,⟨⟨(d.2.2.2.2.1.1),trivial⟩,⟨trivial,trivial⟩⟩⟩⟩⟩⟩⟩,trivial⟩
 have hN:=dF ba
 refine cf ba<|sr<|pu (vb (decide ((y)=2))) wN ?_
 refine aw (vb (decide ((y)=2))) ?_
 refine n2 ?_
 rcases bt (decide ((y)=2)) with bb|bb
 ·have hO:=dT bb
  refine ct bb<|mV ?_
  refine mw (vp g 0) ?_
  refine pu (vp Y 3) wN ?_
  have cr:=(au.ch f (Ne.symm (nN (nL hgl (nT (z3 a b i) p)))))
  refine ld (vs I ((m).Sn).length J) wN nd cr ?_
  have dR:=fun (E sz n:Nat) (v:Value) (R:List Value) (o:World.ownsRow P X.heap.size E sz v n R) (j:World.ownsRow P X.heap.size E sz v n R)=>(gc (gc (mz o r) l (ne2 j (p))) f (ne1 j (nL hgl (z2 a b))))
  have dS:=(dR _ _ _ _ _ ac ac)
  refine cl wN (uP W g ca cc cb (cx aY hcr am hcl hcn) _ ((m).Sn) ⟨_,_,rfl,(Rd.of_own dS),aA,(fun _ z hz=>by have ai:=(nb ac z.block (by rw [hz];rfl)).1;have aj:=nL hgl (z2 a b);omega)⟩ (by omega)) ?_
  rintro _ Q ⟨a0,bu,⟨hP,hQ,dU,hR,hS,hT,hU⟩,⟨aK,aL,rfl,a1,dV,hW⟩,hX⟩
  have dW:=ChG.ext am bu iL
  refine pu (vp Y 3) wN ?_
  have dX:=(cr.ch bu (Ne.symm (nN (nL hgl (nT (z3 a b i) p)))))
  refine sf (vs aK (a0).length aL) wN nG dX ?_
  intro aq bc dY hY
  have dZ:=ChG.ext dW bc (fun k hk=>.inr (by subst hk;exact nT (z3 a b i) p))
  refine mW<|mQ<|mP<|sr ?_
  refine lN (oD {(m) with Sn:=(a0):PFrame} B C aK aL D F G H K L M N) wN nk mZ dY ?_
  have ea:=((((((a7.kp i).kp r).ch l (nN (nL O (nT i.size p)))).ch f (Ne.symm (nN (nL hgl (nT a.size V))))).ch bu (Ne.symm (nN (nL hgl (nT a.size V))))).ch bc (nN (nL O (nT i.size p))))
  refine sv (oD {(m) with Sn:=(a0):PFrame} B C aK aL D F G H K L M N) wN mZ ea ?_
  intro aR bv ec hZ
  have cs:=ChG.ext dZ bv (fun k hk=>.inr (by subst hk;exact nT a.size V))
  refine n3 ?_
  have bd:=fun (E sz n:Nat) (v:Value) (R:List Value) (o:World.ownsRow P X.heap.size E sz v n R) (j:World.ownsRow P X.heap.size E sz v n R)=>(gc (gc (gc (gc (gc (mz o r) l (ne2 j (p))) f (ne1 j (nL hgl (z2 a b)))) bu (ne1 j (nL hgl (z2 a b)))) bc (ne2 j (p))) bv (ne1 j (O)))
  have ed:=(bd _ _ _ _ _ ab ab)
  have ee:=(gc (gc a1 bc (ne1 a1 (nL ap (z2 l f)))) bv (ne1 a1 (nL O (z4 i r l f))))
  have ef:=(bd _ _ _ _ _ ad ad)
  have eg:=(bd _ _ _ _ _ ae ae)
  have eh:=(bd _ _ _ _ _ af af)
  have ej:=(bd _ _ _ _ _ ah ah)
  refine rc (oD {(m) with Sn:=(a0):PFrame} B C aK aL D F G H K L M N) ec nk mZ ?_
  have ek:=((dU.ch bc (nN (nL hgl (nT (z3 a b i) p)))).ch bv (nN (nL hgl (nT a.size V))))
  exact ⟨{(m) with Sn:=(a0):PFrame},cs,(cx ek hcr cs hcl hcn),⟨_,_,_,_,_,_,_,_,_,_,_,_,rfl,(mO ed (z2 a b)),a9,(mO ee (z6 a b i r l f)),dV,(mO ef (z2 a b)),aB,(mO eg (z2 a b)),aC,(mO eh (z2 a b)),aD,(mO ej (z2 a b)),aE,⟨⟨(Ap.lt ab a1 (z3 r l f)),⟨(d.1.2.1),⟨(d.1.2.2.1),⟨(d.1.2.2.2.1),⟨(d.1.2.2.2.2.1),trivial⟩⟩⟩⟩⟩,⟨⟨(Ap.lt ad a1 (z3 r l f)).symm,⟨(Ap.lt ae a1 (z3 r l f)).symm,⟨(Ap.lt af a1 (z3 r l f)).symm,⟨(Ap.lt ah a1 (z3 r l f)).symm,trivial⟩⟩⟩⟩,⟨⟨(d.2.2.1.1),⟨(d.2.2.1.2.1),⟨(d.2.2.1.2.2.1),trivial⟩⟩⟩,⟨⟨(d.2.2.2.1.1),⟨(d.2.2.2.1.2.1),trivial⟩⟩,⟨⟨(d.2.2.2.2.1.1),trivial⟩,⟨trivial,trivial⟩⟩⟩⟩⟩⟩⟩,trivial⟩
 have ia:=dF bb
 refine cf bb<|nh<|sr<|jM1 (fun e' T=>∃ (em:Bool) (cu:Env),e'=pt cu [(0,(vp g 0)),(4,(vp aQ 0)),(5,(vp Y 0)),(9,(vi (y))),(35,(vb em))]∧Ch (fun k=>k=g) ax T∧Ch (fun k=>k=g∨W.heap.size≤k) W T∧ph T g 110 ca cc cb) ?_ fun cv=>?_
 ·rintro _ Q ⟨en,cu,rfl,aV,A,⟨ib,ic,bL,ie,ig,ih,ii⟩⟩
  rcases bt en with bM|bM
  ·refine ct bM<|mV ?_
   refine mw (vp g 0) ?_
   refine pu (vp Y 9) wN ?_
   have cw:=((au.ch f (Ne.symm (nN (nL hgl (nT (z3 a b i) p))))).ch A (fun h=>Or.elim h (Ne.symm (nN (nL hgl (nT (z3 a b i) p)))) (Nat.not_le.2 (nL ap (z2 l f)))))
   refine ld (vs K ((m).Body).length L) wN nd cw ?_
   have eo:=fun (E sz n:Nat) (v:Value) (R:List Value) (o:World.ownsRow P X.heap.size E sz v n R) (j:World.ownsRow P X.heap.size E sz v n R)=>(gc (gc (gc (mz o r) l (ne2 j (p))) f (ne1 j (nL hgl (z2 a b)))) A (fun s S Z aa=>Or.elim aa (fun hk=>(ne1 j (nL hgl (z2 a b))) s S Z hk) (fun hk=>by have ai:=(nb j s S).2;have aj:P.heap.size≤W.heap.size:=(z3 r l f);have ao:W.heap.size≤s:=hk;omega)))
   have ep:=(eo _ _ _ _ _ af af)
   refine cl wN (uP Q g ca cc cb (cx bL hcr aV hcl hcn) _ ((m).Body) ⟨_,_,rfl,(Rd.of_own ep),aD,(fun _ z hz=>by have ai:=(nb af z.block (by rw [hz];rfl)).1;have aj:=nL hgl (z2 a b);omega)⟩ (by omega)) ?_
   rintro _ aq ⟨a2,bw,⟨ij,ik,er,il,im,io,ip⟩,⟨aM,aN,rfl,a3,es,iq⟩,ir⟩
   have et:=ChG.ext aV bw iL
   refine pu (vp Y 9) wN ?_
   have eu:=(cw.ch bw (Ne.symm (nN (nL hgl (nT (z3 a b i) p)))))
   refine sf (vs aM (a2).length aN) wN nG eu ?_
   intro aR be ew it
   have ex:=ChG.ext et be (fun k hk=>.inr (by subst hk;exact nT (z3 a b i) p))
   refine mW<|mQ<|mP<|sr ?_
   refine lN (oD {(m) with Body:=(a2):PFrame} B C I J D F G H aM aN M N) wN nk mZ ew ?_
   have bN:=nT a.size V
   have ey:=(((((((a7.kp i).kp r).ch l (nN (nL O (nT i.size p)))).ch f (Ne.symm (nN (nL hgl bN)))).ch A (fun h=>Or.elim h (Ne.symm (nN (nL hgl bN))) (Nat.not_le.2 (nL O (z4 i r l f))))).ch bw (Ne.symm (nN (nL hgl bN)))).ch be (nN (nL O (nT i.size p))))
   refine sv (oD {(m) with Body:=(a2):PFrame} B C I J D F G H aM aN M N) wN mZ ey ?_
   intro cy bz ez iu
   have cz:=ChG.ext ex bz (fun k hk=>.inr (by subst hk;exact nT a.size V))
   refine n3 ?_
   have bg:=fun (E sz n:Nat) (v:Value) (R:List Value) (o:World.ownsRow P X.heap.size E sz v n R) (j:World.ownsRow P X.heap.size E sz v n R)=>(gc (gc (gc (gc (gc (gc (mz o r) l (ne2 j (p))) f (ne1 j (nL hgl (z2 a b)))) A (fun s S Z aa=>Or.elim aa (fun hk=>(ne1 j (nL hgl (z2 a b))) s S Z hk) (fun hk=>by have ai:=(nb j s S).2;have aj:P.heap.size≤W.heap.size:=(z3 r l f);have ao:W.heap.size≤s:=hk;omega))) bw (ne1 j (nL hgl (z2 a b)))) be (ne2 j (p))) bz (ne1 j (O)))
   have e0:=(bg _ _ _ _ _ ab ab)
   have e1:=(bg _ _ _ _ _ ac ac)
   have e2:=(bg _ _ _ _ _ ad ad)
   have e3:=(bg _ _ _ _ _ ae ae)
   have e4:=(gc (gc a3 be (ne1 a3 (nL ap (z3 l f A)))) bz (ne1 a3 (nL O (z5 i r l f A))))
   have e5:=(bg _ _ _ _ _ ah ah)
   refine rc (oD {(m) with Body:=(a2):PFrame} B C I J D F G H aM aN M N) ez nk mZ ?_
   have e6:=((er.ch be (nN (nL hgl (nT (z3 a b i) p)))).ch bz (nN (nL hgl (nT a.size V))))
   exact ⟨{(m) with Body:=(a2):PFrame},cz,(cx e6 hcr cz hcl hcn),⟨_,_,_,_,_,_,_,_,_,_,_,_,rfl,(mO e0 (z2 a b)),a9,(mO e1 (z2 a b)),aA,(mO e2 (z2 a b)),aB,(mO e3 (z2 a b)),aC,(mO e4 (z7 a b i r l f A)),es,(mO e5 (z2 a b)),aE,⟨⟨(d.1.1),⟨(d.1.2.1),⟨(d.1.2.2.1),⟨(Ap.lt ab a3 (z4 r l f A)),⟨(d.1.2.2.2.2.1),trivial⟩⟩⟩⟩⟩,⟨⟨(d.2.1.1),⟨(d.2.1.2.1),⟨(Ap.lt ac a3 (z4 r l f A)),⟨(d.2.1.2.2.2.1),trivial⟩⟩⟩⟩,⟨⟨(d.2.2.1.1),⟨(Ap.lt ad a3 (z4 r l f A)),⟨(d.2.2.1.2.2.1),trivial⟩⟩⟩,⟨⟨(Ap.lt ae a3 (z4 r l f A)),⟨(d.2.2.2.1.2.1),trivial⟩⟩,⟨⟨(Ap.lt ah a3 (z4 r l f A)).symm,trivial⟩,⟨trivial,trivial⟩⟩⟩⟩⟩⟩⟩,trivial⟩
  refine cf bM<|nh<|sr<|jM1 (fun e' T=>∃ (e7:Bool) (c0:Env),e'=pt c0 [(0,(vp g 0)),(4,(vp aQ 0)),(5,(vp Y 0)),(9,(vi (y))),(43,(vb e7))]∧Ch (fun k=>k=g) ax T∧Ch (fun k=>k=g∨Q.heap.size≤k) Q T∧ph T g 110 ca cc cb) ?_ fun c1=>?_
  ·rintro _ aq ⟨e8,c0,rfl,bh,ak,⟨iv,iw,bO,iy,iz,i0,i1⟩⟩
   rcases bt e8 with bP|bP
   ·refine ct bP<|mV ?_
    refine mw (vp g 0) ?_
    refine pu (vp Y 10) wN ?_
    have bQ:=nT (z3 a b i) p
    have c2:=(((au.ch f (Ne.symm (nN (nL hgl bQ)))).ch A (fun h=>Or.elim h (Ne.symm (nN (nL hgl bQ))) (Nat.not_le.2 (nL ap (z2 l f))))).ch ak (fun h=>Or.elim h (Ne.symm (nN (nL hgl bQ))) (Nat.not_le.2 (nL ap (z3 l f A)))))
    refine ld (vs M ((m).Tag).length N) wN nd c2 ?_
    have e9:=fun (E sz n:Nat) (v:Value) (R:List Value) (o:World.ownsRow P X.heap.size E sz v n R) (j:World.ownsRow P X.heap.size E sz v n R)=>(gc (gc (gc (gc (mz o r) l (ne2 j (p))) f (ne1 j (nL hgl (z2 a b)))) A (fun s S Z aa=>Or.elim aa (fun hk=>(ne1 j (nL hgl (z2 a b))) s S Z hk) (fun hk=>by have ai:=(nb j s S).2;have aj:P.heap.size≤W.heap.size:=(z3 r l f);have ao:W.heap.size≤s:=hk;omega))) ak (fun s S Z aa=>Or.elim aa (fun hk=>(ne1 j (nL hgl (z2 a b))) s S Z hk) (fun hk=>by have ai:=(nb j s S).2;have aj:P.heap.size≤Q.heap.size:=(z4 r l f A);have ao:Q.heap.size≤s:=hk;omega)))
    have eA:=(e9 _ _ _ _ _ ah ah)
    refine cl wN (uP aq g ca cc cb (cx bO hcr bh hcl hcn) _ ((m).Tag) ⟨_,_,rfl,(Rd.of_own eA),aE,(fun _ z hz=>by have ai:=(nb ah z.block (by rw [hz];rfl)).1;have aj:=nL hgl (z2 a b);omega)⟩ (by omega)) ?_
    rintro _ aR ⟨a4,b0,⟨i2,i3,eB,i4,i5,i6,i7⟩,⟨aO,aP,rfl,a5,eC,i8⟩,i9⟩
    have eD:=ChG.ext bh b0 iL
    refine pu (vp Y 10) wN ?_
    have eE:=(c2.ch b0 (Ne.symm (nN (nL hgl (nT (z3 a b i) p)))))
    refine sf (vs aO (a4).length aP) wN nG eE ?_
    intro cy bi eF iA
    have eG:=ChG.ext eD bi (fun k hk=>.inr (by subst hk;exact nT (z3 a b i) p))
    refine mW<|mQ<|mP<|sr ?_
    refine lN (oD {(m) with Tag:=(a4):PFrame} B C I J D F G H K L aO aP) wN nk mZ eF ?_
    have b1:=nT a.size V
    have eH:=((((((((a7.kp i).kp r).ch l (nN (nL O (nT i.size p)))).ch f (Ne.symm (nN (nL hgl b1)))).ch A (fun h=>Or.elim h (Ne.symm (nN (nL hgl b1))) (Nat.not_le.2 (nL O (z4 i r l f))))).ch ak (fun h=>Or.elim h (Ne.symm (nN (nL hgl b1))) (Nat.not_le.2 (nL O (z5 i r l f A))))).ch b0 (Ne.symm (nN (nL hgl b1)))).ch bi (nN (nL O (nT i.size p))))
    refine sv (oD {(m) with Tag:=(a4):PFrame} B C I J D F G H K L aO aP) wN mZ eH ?_
    intro eI b2 eJ iB
    have c3:=ChG.ext eG b2 (fun k hk=>.inr (by subst hk;exact nT a.size V))
    refine n3 ?_
    have bj:=fun (E sz n:Nat) (v:Value) (R:List Value) (o:World.ownsRow P X.heap.size E sz v n R) (j:World.ownsRow P X.heap.size E sz v n R)=>(gc (gc (gc (gc (gc (gc (gc (mz o r) l (ne2 j (p))) f (ne1 j (nL hgl (z2 a b)))) A (fun s S Z aa=>Or.elim aa (fun hk=>(ne1 j (nL hgl (z2 a b))) s S Z hk) (fun hk=>by have ai:=(nb j s S).2;have aj:P.heap.size≤W.heap.size:=(z3 r l f);have ao:W.heap.size≤s:=hk;omega))) ak (fun s S Z aa=>Or.elim aa (fun hk=>(ne1 j (nL hgl (z2 a b))) s S Z hk) (fun hk=>by have ai:=(nb j s S).2;have aj:P.heap.size≤Q.heap.size:=(z4 r l f A);have ao:Q.heap.size≤s:=hk;omega))) b0 (ne1 j (nL hgl (z2 a b)))) bi (ne2 j (p))) b2 (ne1 j (O)))
    have eK:=(bj _ _ _ _ _ ab ab)
    have eL:=(bj _ _ _ _ _ ac ac)
    have eM:=(bj _ _ _ _ _ ad ad)
    have eN:=(bj _ _ _ _ _ ae ae)
    have eO:=(bj _ _ _ _ _ af af)
    have eP:=(gc (gc a5 bi (ne1 a5 (nL ap (z4 l f A ak)))) b2 (ne1 a5 (nL O (z6 i r l f A ak))))
    refine rc (oD {(m) with Tag:=(a4):PFrame} B C I J D F G H K L aO aP) eJ nk mZ ?_
    have eQ:=((eB.ch bi (nN (nL hgl (nT (z3 a b i) p)))).ch b2 (nN (nL hgl (nT a.size V))))
    have bk:=z5 r l f A ak
    exact ⟨{(m) with Tag:=(a4):PFrame},c3,(cx eQ hcr c3 hcl hcn),⟨_,_,_,_,_,_,_,_,_,_,_,_,rfl,(mO eK (z2 a b)),a9,(mO eL (z2 a b)),aA,(mO eM (z2 a b)),aB,(mO eN (z2 a b)),aC,(mO eO (z2 a b)),aD,(mO eP (z8 a b i r l f A ak)),eC,⟨⟨(d.1.1),⟨(d.1.2.1),⟨(d.1.2.2.1),⟨(d.1.2.2.2.1),⟨(Ap.lt ab a5 bk),trivial⟩⟩⟩⟩⟩,⟨⟨(d.2.1.1),⟨(d.2.1.2.1),⟨(d.2.1.2.2.1),⟨(Ap.lt ac a5 bk),trivial⟩⟩⟩⟩,⟨⟨(d.2.2.1.1),⟨(d.2.2.1.2.1),⟨(Ap.lt ad a5 bk),trivial⟩⟩⟩,⟨⟨(d.2.2.2.1.1),⟨(Ap.lt ae a5 bk),trivial⟩⟩,⟨⟨(Ap.lt af a5 bk),trivial⟩,⟨trivial,trivial⟩⟩⟩⟩⟩⟩⟩,trivial⟩
   refine cf bP<|sr<|pu (vb (decide ((y)=7))) wN ?_
   refine aw (vb (decide ((y)=7))) ?_
   refine n2 ?_
   rcases bf (decide ((y)=7)) with bl|bl
   ·have iC:=dF bl
    refine cf bl<|nm<|mQ<|mP<|sr ?_
    have bR:=nT (z3 a b i) p
    have eR:=(((au.ch f (Ne.symm (nN (nL hgl bR)))).ch A (fun h=>Or.elim h (Ne.symm (nN (nL hgl bR))) (Nat.not_le.2 (nL ap (z2 l f))))).ch ak (fun h=>Or.elim h (Ne.symm (nN (nL hgl bR))) (Nat.not_le.2 (nL ap (z3 l f A)))))
    refine lN (oD (m) B C I J D F G H K L M N) wN nk mZ eR ?_
    have bS:=nT a.size V
    have eS:=((((((a7.kp i).kp r).ch l (nN (nL O (nT i.size p)))).ch f (Ne.symm (nN (nL hgl bS)))).ch A (fun h=>Or.elim h (Ne.symm (nN (nL hgl bS))) (Nat.not_le.2 (nL O (z4 i r l f))))).ch ak (fun h=>Or.elim h (Ne.symm (nN (nL hgl bS))) (Nat.not_le.2 (nL O (z5 i r l f A)))))
    refine sv (oD (m) B C I J D F G H K L M N) wN mZ eS ?_
    intro aR bT eT iD
    have c4:=ChG.ext bh bT (fun k hk=>.inr (by subst hk;exact nT a.size V))
    refine n3 ?_
    have aW:=fun (E sz n:Nat) (v:Value) (R:List Value) (o:World.ownsRow P X.heap.size E sz v n R) (j:World.ownsRow P X.heap.size E sz v n R)=>(gc (gc (gc (gc (gc (mz o r) l (ne2 j (p))) f (ne1 j (nL hgl (z2 a b)))) A (fun s S Z aa=>Or.elim aa (fun hk=>(ne1 j (nL hgl (z2 a b))) s S Z hk) (fun hk=>by have ai:=(nb j s S).2;have aj:P.heap.size≤W.heap.size:=(z3 r l f);have ao:W.heap.size≤s:=hk;omega))) ak (fun s S Z aa=>Or.elim aa (fun hk=>(ne1 j (nL hgl (z2 a b))) s S Z hk) (fun hk=>by have ai:=(nb j s S).2;have aj:P.heap.size≤Q.heap.size:=(z4 r l f A);have ao:Q.heap.size≤s:=hk;omega))) bT (ne1 j (O)))
    have eU:=(aW _ _ _ _ _ ab ab)
    have eV:=(aW _ _ _ _ _ ac ac)
    have eW:=(aW _ _ _ _ _ ad ad)
    have eX:=(aW _ _ _ _ _ ae ae)
    have eY:=(aW _ _ _ _ _ af af)
    have eZ:=(aW _ _ _ _ _ ah ah)
    refine rc (oD (m) B C I J D F G H K L M N) eT nk mZ ?_
    have fa:=(bO.ch bT (nN (nL hgl (nT a.size V))))
    exact ⟨(m),c4,(cx fa hcr c4 hcl hcn),⟨_,_,_,_,_,_,_,_,_,_,_,_,rfl,(mO eU (z2 a b)),a9,(mO eV (z2 a b)),aA,(mO eW (z2 a b)),aB,(mO eX (z2 a b)),aC,(mO eY (z2 a b)),aD,(mO eZ (z2 a b)),aE,⟨⟨(d.1.1),⟨(d.1.2.1),⟨(d.1.2.2.1),⟨(d.1.2.2.2.1),⟨(d.1.2.2.2.2.1),trivial⟩⟩⟩⟩⟩,⟨⟨(d.2.1.1),⟨(d.2.1.2.1),⟨(d.2.1.2.2.1),⟨(d.2.1.2.2.2.1),trivial⟩⟩⟩⟩,⟨⟨(d.2.2.1.1),⟨(d.2.2.1.2.1),⟨(d.2.2.1.2.2.1),trivial⟩⟩⟩,⟨⟨(d.2.2.2.1.1),⟨(d.2.2.2.1.2.1),trivial⟩⟩,⟨⟨(d.2.2.2.2.1.1),trivial⟩,⟨trivial,trivial⟩⟩⟩⟩⟩⟩⟩,trivial⟩
   have iE:=dT bl
   refine ct bl<|mV ?_
   refine mw (vp g 0) ?_
   refine cl wN (ow aq g ca cc cb (cx bO hcr bh hcl hcn) 10) ?_
   rintro _ aR ⟨a6,b3,⟨iF,iG,fb,iH,iI,iJ,iK⟩,rfl,iM⟩
   have fc:=ChG.ext bh b3 iL
   refine pu (vp Y 0) wN ?_
   have b4:=nT (z3 a b i) p
   have fd:=((((au.ch f (Ne.symm (nN (nL hgl b4)))).ch A (fun h=>Or.elim h (Ne.symm (nN (nL hgl b4))) (Nat.not_le.2 (nL ap (z2 l f))))).ch ak (fun h=>Or.elim h (Ne.symm (nN (nL hgl b4))) (Nat.not_le.2 (nL ap (z3 l f A))))).ch b3 (Ne.symm (nN (nL hgl b4))))
   refine sf (vi (a6)) wN nV fd ?_
   intro cy b5 fe iN
   have ff:=ChG.ext fc b5 (fun k hk=>.inr (by subst hk;exact nT (z3 a b i) p))
   refine mW<|mQ<|mP<|sr ?_
   refine lN (oD {(m) with Kind:=(a6):PFrame} B C I J D F G H K L M N) wN nk mZ fe ?_
   have b6:=nT a.size V
   have fg:=((((((((a7.kp i).kp r).ch l (nN (nL O (nT i.size p)))).ch f (Ne.symm (nN (nL hgl b6)))).ch A (fun h=>Or.elim h (Ne.symm (nN (nL hgl b6))) (Nat.not_le.2 (nL O (z4 i r l f))))).ch ak (fun h=>Or.elim h (Ne.symm (nN (nL hgl b6))) (Nat.not_le.2 (nL O (z5 i r l f A))))).ch b3 (Ne.symm (nN (nL hgl b6)))).ch b5 (nN (nL O (nT i.size p))))
   refine sv (oD {(m) with Kind:=(a6):PFrame} B C I J D F G H K L M N) wN mZ fg ?_
   intro eI bU fh iO
   have c5:=ChG.ext ff bU (fun k hk=>.inr (by subst hk;exact nT a.size V))
   refine n3 ?_
   have aX:=fun (E sz n:Nat) (v:Value) (R:List Value) (o:World.ownsRow P X.heap.size E sz v n R) (j:World.ownsRow P X.heap.size E sz v n R)=>(gc (gc (gc (gc (gc (gc (gc (mz o r) l (ne2 j (p))) f (ne1 j (nL hgl (z2 a b)))) A (fun s S Z aa=>Or.elim aa (fun hk=>(ne1 j (nL hgl (z2 a b))) s S Z hk) (fun hk=>by have ai:=(nb j s S).2;have aj:P.heap.size≤W.heap.size:=(z3 r l f);have ao:W.heap.size≤s:=hk;omega))) ak (fun s S Z aa=>Or.elim aa (fun hk=>(ne1 j (nL hgl (z2 a b))) s S Z hk) (fun hk=>by have ai:=(nb j s S).2;have aj:P.heap.size≤Q.heap.size:=(z4 r l f A);have ao:Q.heap.size≤s:=hk;omega))) b3 (ne1 j (nL hgl (z2 a b)))) b5 (ne2 j (p))) bU (ne1 j (O)))
   have fi:=(aX _ _ _ _ _ ab ab)
   have fj:=(aX _ _ _ _ _ ac ac)
   have fk:=(aX _ _ _ _ _ ad ad)
   have fl:=(aX _ _ _ _ _ ae ae)
   have fm:=(aX _ _ _ _ _ af af)
   have fo:=(aX _ _ _ _ _ ah ah)
   refine rc (oD {(m) with Kind:=(a6):PFrame} B C I J D F G H K L M N) fh nk mZ ?_
   have fp:=((fb.ch b5 (nN (nL hgl (nT (z3 a b i) p)))).ch bU (nN (nL hgl (nT a.size V))))
   exact ⟨{(m) with Kind:=(a6):PFrame},c5,(cx fp hcr c5 hcl hcn),⟨_,_,_,_,_,_,_,_,_,_,_,_,rfl,(mO fi (z2 a b)),a9,(mO fj (z2 a b)),aA,(mO fk (z2 a b)),aB,(mO fl (z2 a b)),aC,(mO fm (z2 a b)),aD,(mO fo (z2 a b)),aE,⟨⟨(d.1.1),⟨(d.1.2.1),⟨(d.1.2.2.1),⟨(d.1.2.2.2.1),⟨(d.1.2.2.2.2.1),trivial⟩⟩⟩⟩⟩,⟨⟨(d.2.1.1),⟨(d.2.1.2.1),⟨(d.2.1.2.2.1),⟨(d.2.1.2.2.2.1),trivial⟩⟩⟩⟩,⟨⟨(d.2.2.1.1),⟨(d.2.2.1.2.1),⟨(d.2.2.1.2.2.1),trivial⟩⟩⟩,⟨⟨(d.2.2.2.1.1),⟨(d.2.2.2.1.2.1),trivial⟩⟩,⟨⟨(d.2.2.2.2.1.1),trivial⟩,⟨trivial,trivial⟩⟩⟩⟩⟩⟩⟩,trivial⟩
  refine pu (vb (decide ((y)=5))) wN ?_
  refine aw (vb (decide ((y)=5))) ?_
  refine n2 ?_
  rcases bt (decide ((y)=5)) with bm|bm
  ·have iP:=dT bm
   exact ct bm<|nm<|mP<|oq [(0,(vp g 0)),(4,(vp aQ 0)),(5,(vp Y 0)),(9,(vi (y))),(43,(vb (decide ((y)=5))))] ⟨rfl,rfl,rfl,rfl,rfl,trivial⟩ fun u=>c1 _ _ ⟨decide ((y)=5),u,rfl,aV,(Ch.refl (fun k=>k=g∨Q.heap.size≤k) Q),(cx bL hcr aV hcl hcn)⟩
  have iQ:=dF bm
  refine cf bm<|mV ?_
  refine pu (vb (decide ((y)=6))) wN ?_
  refine aw (vb (decide ((y)=6))) ?_
  exact n2<|oq [(0,(vp g 0)),(4,(vp aQ 0)),(5,(vp Y 0)),(9,(vi (y))),(43,(vb (decide ((y)=6))))] ⟨rfl,rfl,rfl,rfl,rfl,trivial⟩ fun u=>c1 _ _ ⟨decide ((y)=6),u,rfl,aV,(Ch.refl (fun k=>k=g∨Q.heap.size≤k) Q),(cx bL hcr aV hcl hcn)⟩
 refine pu (vb (decide ((y)=3))) wN ?_
 refine aw (vb (decide ((y)=3))) ?_
 refine n2 ?_
 rcases bt (decide ((y)=3)) with bn|bn
 ·have iR:=dT bn
  exact ct bn<|nm<|mP<|oq [(0,(vp g 0)),(4,(vp aQ 0)),(5,(vp Y 0)),(9,(vi (y))),(35,(vb (decide ((y)=3))))] ⟨rfl,rfl,rfl,rfl,rfl,trivial⟩ fun u=>cv _ _ ⟨decide ((y)=3),u,rfl,am,(Ch.refl (fun k=>k=g∨W.heap.size≤k) W),(cx aY hcr am hcl hcn)⟩
 have iS:=dF bn
 refine cf bn<|mV ?_
 refine pu (vb (decide ((y)=4))) wN ?_
 refine aw (vb (decide ((y)=4))) ?_
 exact n2<|oq [(0,(vp g 0)),(4,(vp aQ 0)),(5,(vp Y 0)),(9,(vi (y))),(35,(vb (decide ((y)=4))))] ⟨rfl,rfl,rfl,rfl,rfl,trivial⟩ fun u=>cv _ _ ⟨decide ((y)=4),u,rfl,am,(Ch.refl (fun k=>k=g∨W.heap.size≤k) W),(cx aY hcr am hcl hcn)⟩

def Dq (w:World) (g:Nat) (v:Value) (x:(PChan)):Prop:=∃ (a:Option Addr) (i:Nat) (b:Option Addr) (j:Nat) (d:Option Addr) (k:Nat) (e:Option Addr) (l:Nat) (f:Option Addr) (m:Nat) (h:Option Addr) (o:Nat),v=.agg #[.int .i64 x.Role,.slice a x.Sn.length i,.int .i64 x.Cur.N,.slice b x.Cur.Key.length j,.int .i64 x.Cur.Seq,.int .i64 x.Cur.Win.Top,.slice d x.Cur.Win.Bits.length k,.int .i64 x.Old.N,.slice e x.Old.Key.length l,.int .i64 x.Old.Seq,.int .i64 x.Old.Win.Top,.slice f x.Old.Win.Bits.length m,.bool x.HasOld,.int .i64 x.Until,.slice h x.Next.length o]∧Rd w 1 (.slice a x.Sn.length i) x.Sn.length (x.Sn.map bV)∧x.Sn.length≤1073741824∧(0 < x.Sn.length→∀ z,a=some z→z.block ≠ g)∧Rd w 1 (.slice b x.Cur.Key.length j) x.Cur.Key.length (x.Cur.Key.map bV)∧x.Cur.Key.length≤1073741824∧(0 < x.Cur.Key.length→∀ z,b=some z→z.block ≠ g)∧Rd w 1 (.slice d x.Cur.Win.Bits.length k) x.Cur.Win.Bits.length (x.Cur.Win.Bits.map iV)∧x.Cur.Win.Bits.length≤1073741824∧(0 < x.Cur.Win.Bits.length→∀ z,d=some z→z.block ≠ g)∧Rd w 1 (.slice e x.Old.Key.length l) x.Old.Key.length (x.Old.Key.map bV)∧x.Old.Key.length≤1073741824∧(0 < x.Old.Key.length→∀ z,e=some z→z.block ≠ g)∧Rd w 1 (.slice f x.Old.Win.Bits.length m) x.Old.Win.Bits.length (x.Old.Win.Bits.map iV)∧x.Old.Win.Bits.length≤1073741824∧(0 < x.Old.Win.Bits.length→∀ z,f=some z→z.block ≠ g)∧Rd w 1 (.slice h x.Next.length o) x.Next.length (x.Next.map bV)∧x.Next.length≤1073741824∧(0 < x.Next.length→∀ z,h=some z→z.block ≠ g)
theorem xC (ae:World) (g:Nat) (ca:Option Addr) (cc:Nat) (cb:List UInt8) (dD:ph ae g 110 ca cc cb) (cv:Value) (b:PChan) (dE:Dq ae g cv b) (f3:b.Sn.length≤12):Fn Tryz.prog 62 #[(vp g 0),cv] ae (fun v s=>∃ x:(PFrame),Ch (fun k=>k=g) ae s∧ph s g 110 ca cc cb∧CD s ae.heap.size v x∧(True)):=by
 obtain ⟨ci,chh,hcb,hcr,hcl,hci,hcn⟩:=dD
 have hgl:=Blk.lt hcb
 obtain ⟨a5,bB,aD,aE,aF,aG,aV,aW,aX,aY,bo,bp,rfl,dG,dH,dI,cw,cy,bq,cz,c0,br,dJ,dK,c1,dL,dM,c2,c3,dN,c4⟩:=dE
 refine nu (n:=78) [(vp g 0),(va (oj b a5 bB aD aE aF aG aV aW aX aY bo bp))] Tryz.func62 rfl rfl ?_
 refine sr<|bx (oj b a5 bB aD aE aF aG aV aW aX aY bo bp) wN ?_
 intro B dO af aj j dP
 have dQ:=ChG.extk (Ch.refl (fun k=>k=g) ae) j
 refine al vf wN pW ?_
 intro S dR aH G f c5
 have c6:=ChG.extk dQ f
 refine nx<|mw (vp g 0) ?_
 have dS:=((hcb.kp j).kp f)
 refine cl wN (zT dR g ca cc cb (cx dS hcr c6 hcl hcn)) ?_
 rintro _ I ⟨i,a,⟨f4,f5,c7,f6,f7,f8,f9⟩,⟨J,K,rfl,ac,dU,fA⟩,fB⟩
 have dV:=ChG.ext c6 a iL
 refine mw (.tuple #[(vi ((i).1)),(vs J ((i).2).length K)]) ?_
 refine pu (vi ((i).1)) wN ?_
 refine pu (vs J ((i).2).length K) wN ?_
 refine aw (vi ((i).1)) ?_
 refine aw (vs J ((i).2).length K) ?_
 refine nx<|pu (vp B 2) wN ?_
 have bu:=((dP.kp f).ch a (Ne.symm (nN (nL hgl (af)))))
 refine lN (oi b.Cur aD aE aF aG) wN nv mY bu ?_
 refine al se wN pm ?_
 intro D fC F bv l dW
 have dX:=ChG.extk dV l
 refine sv (oi b.Cur aD aE aF aG) wN mY dW ?_
 intro aZ d bC fD
 have aI:=ChG.ext dX d (fun k hk=>.inr (by subst hk;exact nT (z3 j f a) F))
 refine n4<|jM1 (fun e' s=>∃ (t0c:Int) (T:List UInt8) (t2c:Int) (t3c:Int) (V:List Int) (c8:Env) (a6:Option Addr) (ba:Nat) (a7:Option Addr) (bb:Nat),e'=pt c8 [(0,(vp g 0)),(3,(vp B 0)),(4,(vp S 0)),(5,(vi ((i).1))),(6,(vs J ((i).2).length K)),(7,(vp D 0))]∧Ch (fun k=>k=g) ae s∧Ch (fun k=>k=g∨I.heap.size≤k) aZ s∧(Rd s 1 (.slice a6 (T).length ba) (T).length ((T).map bV)∧(T).length≤1073741824∧(0 < (T).length→∀ z,a6=some z→z.block ≠ g))∧(Rd s 1 (.slice a7 (V).length bb) (V).length ((V).map iV)∧(V).length≤1073741824∧(0 < (V).length→∀ z,a7=some z→z.block ≠ g))∧Blk s D 36 [(vi t0c),(.slice a6 (T).length ba),(vi t2c),(vi t3c),(.slice a7 (V).length bb)]∧ph s g 110 ca cc cb) ?_ fun bD=>?_
 ·rintro _ ah ⟨c9,cC,cD,cE,cF,c8,cG,cH,cI,cJ,rfl,bc,m,⟨cK,cL,bE⟩,⟨cM,cN,bF⟩,bG,⟨fE,fF,cO,fG,fH,fI,fJ⟩⟩
  refine nh<|sr<|jM1 (fun e' s=>∃ (t0c:Int) (T:List UInt8) (t2c:Int) (t3c:Int) (V:List Int) (cP:Env) (a6:Option Addr) (ba:Nat) (a7:Option Addr) (bb:Nat),e'=pt cP [(0,(vp g 0)),(3,(vp B 0)),(4,(vp S 0)),(5,(vi ((i).1))),(6,(vs J ((i).2).length K)),(7,(vp D 0))]∧Ch (fun k=>k=g) ae s∧Ch (fun k=>k=g∨I.heap.size≤k) ah s∧(Rd s 1 (.slice a6 (T).length ba) (T).length ((T).map bV)∧(T).length≤1073741824∧(0 < (T).length→∀ z,a6=some z→z.block ≠ g))∧(Rd s 1 (.slice a7 (V).length bb) (V).length ((V).map iV)∧(V).length≤1073741824∧(0 < (V).length→∀ z,a7=some z→z.block ≠ g))∧Blk s D 36 [(vi t0c),(.slice a6 (T).length ba),(vi t2c),(vi t3c),(.slice a7 (V).length bb)]∧ph s g 110 ca cc cb) ?_ fun bH=>?_
  ·rintro _ a8 ⟨bw,bz,fK,bI,fL,cP,dY,dZ,fM,fN,rfl,bJ,r,⟨ea,ec,ed⟩,⟨fO,fP,fQ⟩,cQ,⟨fR,fS,ee,fT,fU,fV,fW⟩⟩
   refine nh<|ob ([(42,[],[],(fun _ v _=>v=(vp D 3))),(43,[],[0],(fun _ v _=>v=(vp D 3))),(44,[],[0,1],(fun _ v _=>v=(vi bI))),(45,[],[],(fun _ v _=>v=(vp g 0))),(46,[],[],(fun _ v w=>∃ (a5:Option Addr) (bK:Nat),v=.slice a5 ([1,1,2,0,(-1),5]:List Int).length bK∧w.ownsRow a8.heap.size 3 1 (.slice a5 ([1,1,2,0,(-1),5]:List Int).length bK) ([1,1,2,0,(-1),5]:List Int).length (([1,1,2,0,(-1),5]:List Int).map iV)∧([1,1,2,0,(-1),5]:List Int).length≤1073741824∧Aps [(a5,bK)])),(47,[],[3,4],(fun _ v _=>∃ ai:Int,v=(vi ai)∧ai ∈ ([1,1,2,0,(-1),5]:List Int)))]:GV) (fun lf s=>Ch (fun k=>k=g) a8 s∧ph s g 110 ca cc cb) [(5,fun w s=>Ch (fun k=>k=g) w s∧(ph w g 110 ca cc cb→ph s g 110 ca cc cb))] oM rfl (by kernel_rfl) (by kernel_rfl) ?_ (fun _ _ h=>⟨h.to _,ph.kp (cx ee hcr bJ hcl hcn) h⟩) (fun _ _ _ _ h mo k=>by obtain ⟨hc,hcur⟩:=h;exact ⟨hc.comp k (fun _ _ q=>q.elim),hcur.kp k⟩) ⟨(fun _ _ w s h mo hj t=>by obtain ⟨hc,hcur⟩:=h;exact ⟨hc.comp t.1 (fun _ _ q=>q),t.2 hcur⟩),trivial⟩ ?_ ?_ ?_
   ·exact ⟨hV,hE,⟨hV,hE,⟨hV,hE,⟨hV,hE,⟨(fun e v w dO h hk=>by obtain ⟨bL,bM,he,b0,bN,hap⟩:=h;exact ⟨bL,bM,he,mz b0 hk,bN,hap⟩),hE,⟨hV,hE,trivial⟩⟩⟩⟩⟩⟩
   ·exact ⟨⟨.inr hV,⟨.inr hV,⟨.inr hV,⟨.inr hV,⟨.inr (fun e v wX wY h ht=>by obtain ⟨bL,bM,he,b0,bN,hap⟩:=h;exact ⟨bL,bM,he,gc b0 ht.1 (fun gq hg _ hk=>by have W:=(nb b0 gq hg).1;have b1:gq=g:=hk;have fX:=(nL hgl (z7 j f a l d m r));omega),bN,hap⟩),⟨.inl rfl,trivial⟩⟩⟩⟩⟩⟩,trivial⟩
   ·refine ⟨?_,⟨?_,⟨?_,⟨?_,⟨?_,⟨?_,trivial⟩⟩⟩⟩⟩⟩
    ·rintro lf O ⟨fY,⟨fZ,ga,gb,gd,ge,gf,gg⟩⟩ ⟨gh,-⟩
     rintro _ _ _ _ _ _
     refine sw<|pu (vp D 3) wN ?_
     exact f1
    ·rintro lf O ⟨gi,⟨gj,gk,gl,gm,gn,gp,gr⟩⟩ ⟨gs,-⟩
     rintro _ rfl _ _ _ _ _
     refine sw<|pu (vp D 3) wN ?_
     exact f1
    ·rintro lf O ⟨ef,⟨gt,gu,gv,gw,gx,gy,gz⟩⟩ ⟨g0,-⟩
     rintro _ rfl _ rfl _ _ _ _
     refine sw ?_
     have eg:=(cQ.ch ef (Ne.symm (nN (nL hgl (nT (z3 j f a) F)))))
     refine ld (vi bI) wN mT eg ?_
     exact f1
    ·rintro lf O ⟨g1,⟨g2,g3,g4,g5,g6,g7,g8⟩⟩ ⟨g9,-⟩
     rintro _ _ _ _ _ _
     refine sw<|mw (vp g 0) ?_
     exact f1
    ·rintro lf O ⟨eh,⟨gA,gB,gC,gD,gE,gF,gG⟩⟩ ⟨gH,-⟩
     rintro _ _ _ _ _ _
     refine sw<|ltI ([1,1,2,0,(-1),5]:List Int) wN nf ?_
     intro gI gJ Z ej ek
     exact nK ej ⟨_,_,rfl,(mO ek eh.size),(by simp),⟨trivial,trivial⟩⟩
    ·rintro lf O ⟨em,⟨gK,gL,en,gM,gN,gO,gP⟩⟩ ⟨gQ,-⟩
     have cR:=ChG.ext bJ em iL
     rintro _ _ _ _ rfl _ ⟨gR,gS,rfl,cS,eo,-⟩ _
     refine sw<|cl wN (oz O g ca cc cb (cx en hcr cR hcl hcn) _ ([1,1,2,0,(-1),5]:List Int) ⟨_,_,rfl,(Rd.of_own cS),eo,(fun _ z hz=>by have W:=(nb cS z.block (by rw [hz];rfl)).1;have aa:=nL hgl (z7 j f a l d m r);omega)⟩ (by simp)) ?_
     rintro _ Z ⟨aJ,cT,⟨gT,gU,ep,gV,gW,gX,gY⟩,rfl,cU⟩
     have er:=ChG.ext cR cT iL
     have q232m:aJ=1∨aJ=1∨aJ=2∨aJ=0∨aJ=(-1)∨aJ=5:=by simpa using cU
     exact nK ⟨cT,fun _=>(cx ep hcr er hcl hcn)⟩ ⟨_,rfl,cU⟩
   ·rintro lf O ⟨p,⟨gZ,ha,cV,hb,hd,hf,hh⟩⟩
    have b2:=ChG.ext bJ p iL
    rintro _ rfl _ rfl _ rfl _ rfl _ ⟨hi,hl,rfl,hm,hn,-⟩ _ ⟨ai,rfl,es⟩
    have q257m:ai=1∨ai=1∨ai=2∨ai=0∨ai=(-1)∨ai=5:=by simpa using es
    refine sw<|ta (IntKind.i64.wrap (bI+ai)) wN rfl rfl (by kernel_rfl) ?_
    intro aK
    refine aw (vi aK) ?_
    refine n4<|jM1 (fun e' s=>∃ (et:Int) (cW:Env),e'=pt cW [(0,(vp g 0)),(3,(vp B 0)),(4,(vp S 0)),(5,(vi ((i).1))),(6,(vs J ((i).2).length K)),(7,(vp D 0)),(8,(vi et))]∧Ch (fun k=>k=g) ae s∧Ch (fun k=>k=g∨O.heap.size≤k) O s∧ph s g 110 ca cc cb) ?_ fun cX=>?_
    ·rintro _ Z ⟨a9,cW,rfl,cY,A,⟨ho,hp,eu,hq,hr,hs,hu⟩⟩
     refine sr<|pu (vp B 0) wN ?_
     have bO:=((((((bu.kp l).ch d (nN (nL aj (nT (z2 f a) F)))).ch m (fun h=>Or.elim h (Ne.symm (nN (nL hgl (af)))) (Nat.not_le.2 (nL aj (z2 f a))))).ch r (fun h=>Or.elim h (Ne.symm (nN (nL hgl (af)))) (Nat.not_le.2 (nL aj (z2 f a))))).ch p (Ne.symm (nN (nL hgl (af))))).ch A (fun h=>Or.elim h (Ne.symm (nN (nL hgl (af)))) (Nat.not_le.2 (nL aj (z7 f a l d m r p)))))
     refine ld (vi b.Role) wN mT bO ?_
     refine ta (IntKind.i64.wrap (1 - b.Role)) wN rfl rfl (by kernel_rfl) ?_
     intro bP
     refine aw (vi bP) ?_
     refine n4<|jM1 (fun e' s=>∃ (ew:Int) (cZ:Env),e'=pt cZ [(0,(vp g 0)),(3,(vp B 0)),(4,(vp S 0)),(5,(vi ((i).1))),(6,(vs J ((i).2).length K)),(7,(vp D 0)),(8,(vi a9)),(9,(vi ew))]∧Ch (fun k=>k=g) ae s∧Ch (fun k=>k=g∨Z.heap.size≤k) Z s∧ph s g 110 ca cc cb) ?_ fun da=>?_
     ·rintro _ aL ⟨b3,cZ,rfl,db,C,⟨hv,hw,ex,hx,hy,h0,h1⟩⟩
      refine sr<|pu (vp D 1) wN ?_
      have bQ:=nT (z3 j f a) F
      have dc:=(((cQ.ch p (Ne.symm (nN (nL hgl bQ)))).ch A (fun h=>Or.elim h (Ne.symm (nN (nL hgl bQ))) (Nat.not_le.2 (nL bv (z4 d m r p))))).ch C (fun h=>Or.elim h (Ne.symm (nN (nL hgl bQ))) (Nat.not_le.2 (nL bv (z5 d m r p A)))))
      refine ld (vs dY bz.length dZ) wN nd dc ?_
      refine mw (vi b3) ?_
      refine pu (vp B 1) wN ?_
      have ey:=(bO.ch C (fun h=>Or.elim h (Ne.symm (nN (nL hgl (af)))) (Nat.not_le.2 (nL aj (z8 f a l d m r p A)))))
      refine ld (vs a5 b.Sn.length bB) wN nd ey ?_
      refine pu (vp D 0) wN ?_
      refine ld (vi bw) wN mT dc ?_
      refine mw (vi a9) ?_
      refine mw (vi ((i).1)) ?_
      refine mw (vs J ((i).2).length K) ?_
      have ez:=(gc (gc (gc (gc (gc (gc (mz ac l) d (ne2 ac (F))) m (fun P ad aA aB=>Or.elim aB (fun hk=>(ne1 ac (nL hgl (z2 j f))) P ad aA hk) (fun hk=>by have W:=(nb ac P ad).2;have aa:I.heap.size≤I.heap.size:=(Nat.le_refl I.heap.size);have b1:I.heap.size≤P:=hk;omega))) r (fun P ad aA aB=>Or.elim aB (fun hk=>(ne1 ac (nL hgl (z2 j f))) P ad aA hk) (fun hk=>by have W:=(nb ac P ad).2;have aa:I.heap.size≤I.heap.size:=(Nat.le_refl I.heap.size);have b1:I.heap.size≤P:=hk;omega))) p (ne1 ac (nL hgl (z2 j f)))) A (fun P ad aA aB=>Or.elim aB (fun hk=>(ne1 ac (nL hgl (z2 j f))) P ad aA hk) (fun hk=>by have W:=(nb ac P ad).2;have aa:I.heap.size≤O.heap.size:=(z5 l d m r p);have b1:O.heap.size≤P:=hk;omega))) C (fun P ad aA aB=>Or.elim aB (fun hk=>(ne1 ac (nL hgl (z2 j f))) P ad aA hk) (fun hk=>by have W:=(nb ac P ad).2;have aa:I.heap.size≤Z.heap.size:=(z6 l d m r p A);have b1:Z.heap.size≤P:=hk;omega)))
      obtain ⟨X,dd⟩:∃ y,s_Seal bz b3 b.Sn bw a9 ((i).1) ((i).2)=y:=⟨_,rfl⟩
      have de:=Cm aL _ bz (nH (Rd.chW ea (ChO.ext (ChO.ext (ChO.ext (Ch.refl (fun k=>k=g∨a8.heap.size≤k) a8) p iL) A (fun k hk=>hk.elim .inl (fun hk=>.inr (nT p.size hk)))) C (fun k hk=>hk.elim .inl (fun hk=>.inr (nT (z2 p A) hk)))) ed) ec) b3 _ b.Sn (nH (Rd.chP dG db dI) dH) bw a9 ((i).1) _ ((i).2) (nH (Rd.of_own ez) dU)
      rw [dd] at de
      refine cl wN de ?_
      rintro _ b4 ⟨M,⟨ak,am,an,ao,ap,aq,au,av,ax,ay,az,a0,rfl,bd,df,be,dg,bg,dh,bh,di,bi,dj,bj,dk,Q⟩⟩
      have e0:=ChG.extk db M
      have e1:=zJ bz b3 b.Sn bw a9 ((i).1) ((i).2)
      try rw [dd] at e1
      refine mw (.tuple #[(va (oD ((X).1) ak am an ao ap aq au av ax ay az a0)),(vb ((X).2))]) ?_
      refine pu (va (oD ((X).1) ak am an ao ap aq au av ax ay az a0)) wN ?_
      refine pu (vb ((X).2)) wN ?_
      refine al vf wN pW ?_
      intro h2 h3 a1 h4 Y e2
      have e3:=ChG.extk e0 Y
      refine sv (oD ((X).1) ak am an ao ap aq au av ax ay az a0) wN mZ e2 ?_
      intro e4 L dl h5
      have dm:=ChG.ext e3 L (fun k hk=>.inr (by subst hk;exact nT (z11 j f a l d m r p A C M) a1))
      refine aw (vb ((X).2)) ?_
      refine n4<|mw (vp g 0) ?_
      have e5:=(((ex.kp M).kp Y).ch L (nN (nL hgl (nT (z11 j f a l d m r p A C M) a1))))
      refine cl wN (pV e4 g ca cc cb (cx e5 hcr dm hcl hcn) 5) ?_
      rintro _ e6 ⟨e7,H,⟨h6,h7,dn,h8,h9,hA,hB⟩,rfl,hC⟩
      have bR:=ChG.ext dm H iL
      refine n2 ?_
      rcases bf e7 with bS|bS
      ·refine cf bS<|y1 ?_
       have e8:=(dl.ch H (Ne.symm (nN (nL hgl (nT (z11 j f a l d m r p A C M) a1)))))
       refine lN (oD ((X).1) ak am an ao ap aq au av ax ay az a0) wN nk mZ e8 ?_
       have aC:=nT j.size aH
       have e9:=((((((((((((c5.ch a (Ne.symm (nN (nL hgl aC)))).kp l).ch d (nN (nL G (nT a.size F)))).ch m (fun h=>Or.elim h (Ne.symm (nN (nL hgl aC))) (Nat.not_le.2 (nL G a.size)))).ch r (fun h=>Or.elim h (Ne.symm (nN (nL hgl aC))) (Nat.not_le.2 (nL G a.size)))).ch p (Ne.symm (nN (nL hgl aC)))).ch A (fun h=>Or.elim h (Ne.symm (nN (nL hgl aC))) (Nat.not_le.2 (nL G (z6 a l d m r p))))).ch C (fun h=>Or.elim h (Ne.symm (nN (nL hgl aC))) (Nat.not_le.2 (nL G (z7 a l d m r p A))))).kp M).kp Y).ch L (nN (nL G (nT (z9 a l d m r p A C M) a1)))).ch H (Ne.symm (nN (nL hgl aC))))
       refine sv (oD ((X).1) ak am an ao ap aq au av ax ay az a0) wN mZ e9 ?_
       intro eA bT eB hD
       have dp:=ChG.ext bR bT (fun k hk=>.inr (by subst hk;exact nT j.size aH))
       refine n3 ?_
       have aM:=fun (E sz n:Nat) (v:Value) (bk:List Value) (o:World.ownsRow b4 aL.heap.size E sz v n bk) (aN:World.ownsRow b4 aL.heap.size E sz v n bk)=>(gc (gc (gc (mz o Y) L (ne2 aN (a1))) H (ne1 aN (nL hgl (z10 j f a l d m r p A C)))) bT (ne1 aN (nL G (z8 a l d m r p A C))))
       have eC:=(aM _ _ _ _ _ bd bd)
       have eD:=(aM _ _ _ _ _ be be)
       have eE:=(aM _ _ _ _ _ bg bg)
       have eF:=(aM _ _ _ _ _ bh bh)
       have eG:=(aM _ _ _ _ _ bi bi)
       have eH:=(aM _ _ _ _ _ bj bj)
       refine rc (oD ((X).1) ak am an ao ap aq au av ax ay az a0) eB nk mZ ?_
       have eI:=(dn.ch bT (nN (nL hgl (nT j.size aH))))
       have aO:=z10 j f a l d m r p A C
       exact ⟨((X).1),dp,(cx eI hcr dp hcl hcn),⟨_,_,_,_,_,_,_,_,_,_,_,_,rfl,(mO eC aO),df,(mO eD aO),dg,(mO eE aO),dh,(mO eF aO),di,(mO eG aO),dj,(mO eH aO),dk,⟨⟨(Q.1.1),⟨(Q.1.2.1),⟨(Q.1.2.2.1),⟨(Q.1.2.2.2.1),⟨(Q.1.2.2.2.2.1),trivial⟩⟩⟩⟩⟩,⟨⟨(Q.2.1.1),⟨(Q.2.1.2.1),⟨(Q.2.1.2.2.1),⟨(Q.2.1.2.2.2.1),trivial⟩⟩⟩⟩,⟨⟨(Q.2.2.1.1),⟨(Q.2.2.1.2.1),⟨(Q.2.2.1.2.2.1),trivial⟩⟩⟩,⟨⟨(Q.2.2.2.1.1),⟨(Q.2.2.2.1.2.1),trivial⟩⟩,⟨⟨(Q.2.2.2.2.1.1),trivial⟩,⟨trivial,trivial⟩⟩⟩⟩⟩⟩⟩,trivial⟩
      refine ct bS<|sr<|mw (vp g 0) ?_
      have eJ:=(dl.ch H (Ne.symm (nN (nL hgl (nT (z11 j f a l d m r p A C M) a1)))))
      refine lN (oD ((X).1) ak am an ao ap aq au av ax ay az a0) wN nk mZ eJ ?_
      have aP:=fun (E sz n:Nat) (v:Value) (bk:List Value) (o:World.ownsRow b4 aL.heap.size E sz v n bk) (aN:World.ownsRow b4 aL.heap.size E sz v n bk)=>(gc (gc (mz o Y) L (ne2 aN (a1))) H (ne1 aN (nL hgl (z10 j f a l d m r p A C))))
      have eK:=(aP _ _ _ _ _ bd bd)
      have eL:=(aP _ _ _ _ _ be be)
      have eM:=(aP _ _ _ _ _ bg bg)
      have eN:=(aP _ _ _ _ _ bh bh)
      have eO:=(aP _ _ _ _ _ bi bi)
      have eP:=(aP _ _ _ _ _ bj bj)
      have aQ:=z10 j f a l d m r p A C
      refine cl wN (zU e6 g ca cc cb (cx dn hcr bR hcl hcn) _ ((X).1) ⟨_,_,_,_,_,_,_,_,_,_,_,_,rfl,(Rd.of_own eK),df,(fun _ z hz=>by have W:=(nb bd z.block (by rw [hz];rfl)).1;have aa:=nL hgl aQ;omega),(Rd.of_own eL),dg,(fun _ z hz=>by have W:=(nb be z.block (by rw [hz];rfl)).1;have aa:=nL hgl aQ;omega),(Rd.of_own eM),dh,(fun _ z hz=>by have W:=(nb bg z.block (by rw [hz];rfl)).1;have aa:=nL hgl aQ;omega),(Rd.of_own eN),di,(fun _ z hz=>by have W:=(nb bh z.block (by rw [hz];rfl)).1;have aa:=nL hgl aQ;omega),(Rd.of_own eO),dj,(fun _ z hz=>by have W:=(nb bi z.block (by rw [hz];rfl)).1;have aa:=nL hgl aQ;omega),(Rd.of_own eP),dk,(fun _ z hz=>by have W:=(nb bj z.block (by rw [hz];rfl)).1;have aa:=nL hgl aQ;omega)⟩ (by omega) (by omega) (by omega)) ?_
      rintro _ eA ⟨b5,dq,⟨hF,hG,eQ,hH,hI,hJ,hK⟩,⟨bU,bW,bX,bY,bZ,cd,ce,cg,cj,ck,cm,cn,rfl,dr,eR,ds,eS,dt,eT,du,eU,dv,eV,dw,eW,R⟩,hL⟩
      have eX:=ChG.ext bR dq iL
      have a2:=nT j.size aH
      have eY:=(((((((((((((c5.ch a (Ne.symm (nN (nL hgl a2)))).kp l).ch d (nN (nL G (nT a.size F)))).ch m (fun h=>Or.elim h (Ne.symm (nN (nL hgl a2))) (Nat.not_le.2 (nL G a.size)))).ch r (fun h=>Or.elim h (Ne.symm (nN (nL hgl a2))) (Nat.not_le.2 (nL G a.size)))).ch p (Ne.symm (nN (nL hgl a2)))).ch A (fun h=>Or.elim h (Ne.symm (nN (nL hgl a2))) (Nat.not_le.2 (nL G (z6 a l d m r p))))).ch C (fun h=>Or.elim h (Ne.symm (nN (nL hgl a2))) (Nat.not_le.2 (nL G (z7 a l d m r p A))))).kp M).kp Y).ch L (nN (nL G (nT (z9 a l d m r p A C M) a1)))).ch H (Ne.symm (nN (nL hgl a2)))).ch dq (Ne.symm (nN (nL hgl a2))))
      refine sv (oD (b5) bU bW bX bY bZ cd ce cg cj ck cm cn) wN mZ eY ?_
      intro hM a3 eZ hN
      have dx:=ChG.ext eX a3 (fun k hk=>.inr (by subst hk;exact nT j.size aH))
      refine n1 ?_
      have fa:=(gc dr a3 (ne1 dr (nL G (z12 a l d m r p A C M Y L H))))
      have fb:=(gc ds a3 (ne1 ds (nL G (z12 a l d m r p A C M Y L H))))
      have fc:=(gc dt a3 (ne1 dt (nL G (z12 a l d m r p A C M Y L H))))
      have fd:=(gc du a3 (ne1 du (nL G (z12 a l d m r p A C M Y L H))))
      have fe:=(gc dv a3 (ne1 dv (nL G (z12 a l d m r p A C M Y L H))))
      have ff:=(gc dw a3 (ne1 dw (nL G (z12 a l d m r p A C M Y L H))))
      refine rc (oD (b5) bU bW bX bY bZ cd ce cg cj ck cm cn) eZ nk mZ ?_
      have fg:=(eQ.ch a3 (nN (nL hgl (nT j.size aH))))
      have aR:=z12 j f a l d m r p A C M Y
      exact ⟨(b5),dx,(cx fg hcr dx hcl hcn),⟨_,_,_,_,_,_,_,_,_,_,_,_,rfl,(mO fa (t3 aR L.size H.size)),eR,(mO fb (t3 aR L.size H.size)),eS,(mO fc (t3 aR L.size H.size)),eT,(mO fd (t3 aR L.size H.size)),eU,(mO fe (t3 aR L.size H.size)),eV,(mO ff (t3 aR L.size H.size)),eW,⟨⟨(R.1.1),⟨(R.1.2.1),⟨(R.1.2.2.1),⟨(R.1.2.2.2.1),⟨(R.1.2.2.2.2.1),trivial⟩⟩⟩⟩⟩,⟨⟨(R.2.1.1),⟨(R.2.1.2.1),⟨(R.2.1.2.2.1),⟨(R.2.1.2.2.2.1),trivial⟩⟩⟩⟩,⟨⟨(R.2.2.1.1),⟨(R.2.2.1.2.1),⟨(R.2.2.1.2.2.1),trivial⟩⟩⟩,⟨⟨(R.2.2.2.1.1),⟨(R.2.2.2.1.2.1),trivial⟩⟩,⟨⟨(R.2.2.2.2.1.1),trivial⟩,⟨trivial,trivial⟩⟩⟩⟩⟩⟩⟩,trivial⟩
     refine mw (vp g 0) ?_
     refine cl wN (pV Z g ca cc cb (cx eu hcr cY hcl hcn) 10) ?_
     rintro _ aL ⟨fh,b6,⟨hO,hP,dy,hQ,hR,hS,hT⟩,rfl,hU⟩
     have b7:=ChG.ext cY b6 iL
     refine n2 ?_
     rcases bf fh with co|co
     ·exact cf co<|nm<|mP<|oq [(0,(vp g 0)),(3,(vp B 0)),(4,(vp S 0)),(5,(vi ((i).1))),(6,(vs J ((i).2).length K)),(7,(vp D 0)),(8,(vi a9)),(9,(vi bP))] ⟨rfl,rfl,rfl,rfl,rfl,rfl,rfl,rfl,trivial⟩ fun u=>da _ _ ⟨bP,u,rfl,b7,(ChO.ext (Ch.refl (fun k=>k=g∨Z.heap.size≤k) Z) b6 iL),(cx dy hcr b7 hcl hcn)⟩
     refine ct co<|mV ?_
     refine pu (vp B 0) wN ?_
     have fi:=(bO.ch b6 (Ne.symm (nN (nL hgl (af)))))
     refine ld (vi b.Role) wN mT fi ?_
     refine aw (vi b.Role) ?_
     exact n2<|oq [(0,(vp g 0)),(3,(vp B 0)),(4,(vp S 0)),(5,(vi ((i).1))),(6,(vs J ((i).2).length K)),(7,(vp D 0)),(8,(vi a9)),(9,(vi b.Role))] ⟨rfl,rfl,rfl,rfl,rfl,rfl,rfl,rfl,trivial⟩ fun u=>da _ _ ⟨b.Role,u,rfl,b7,(ChO.ext (Ch.refl (fun k=>k=g∨Z.heap.size≤k) Z) b6 iL),(cx dy hcr b7 hcl hcn)⟩
    refine mw (vi aK) ?_
    refine pu (vb (decide (aK < 0))) wN ?_
    refine n2 ?_
    rcases bf (decide (aK < 0)) with bl|bl
    ·have hW:=dF bl
     exact cf bl<|nm<|mP<|oq [(0,(vp g 0)),(3,(vp B 0)),(4,(vp S 0)),(5,(vi ((i).1))),(6,(vs J ((i).2).length K)),(7,(vp D 0)),(8,(vi aK))] ⟨rfl,rfl,rfl,rfl,rfl,rfl,rfl,trivial⟩ fun u=>cX _ _ ⟨aK,u,rfl,b2,(Ch.refl (fun k=>k=g∨O.heap.size≤k) O),(cx cV hcr b2 hcl hcn)⟩
    have hX:=dT bl
    refine ct bl<|mV ?_
    refine aw (vi 0) ?_
    exact n2<|oq [(0,(vp g 0)),(3,(vp B 0)),(4,(vp S 0)),(5,(vi ((i).1))),(6,(vs J ((i).2).length K)),(7,(vp D 0)),(8,(vi 0))] ⟨rfl,rfl,rfl,rfl,rfl,rfl,rfl,trivial⟩ fun u=>cX _ _ ⟨0,u,rfl,b2,(Ch.refl (fun k=>k=g∨O.heap.size≤k) O),(cx cV hcr b2 hcl hcn)⟩
  refine pu (vp B 14) wN ?_
  have dz:=(((bu.kp l).ch d (nN (nL aj (nT (z2 f a) F)))).ch m (fun h=>Or.elim h (Ne.symm (nN (nL hgl (af)))) (Nat.not_le.2 (nL aj (z2 f a)))))
  refine ld (vs bo b.Next.length bp) wN nd dz ?_
  refine ln wN mR (Rd.chP c3 bc c4) ?_
  refine pu (vb (decide (0 < (b.Next.length:Int)))) wN ?_
  refine mw (vb (decide (0 < (b.Next.length:Int)))) ?_
  rcases bf (decide (0 < (b.Next.length:Int))) with a4|a4
  ·have hY:=dF a4
   iterate 2 refine sk a4 ?_
   refine pf vF wN a4 ?_
   exact n2<|cf F1<|nm<|mP<|oq [(0,(vp g 0)),(3,(vp B 0)),(4,(vp S 0)),(5,(vi ((i).1))),(6,(vs J ((i).2).length K)),(7,(vp D 0))] ⟨rfl,rfl,rfl,rfl,rfl,rfl,trivial⟩ fun u=>bH _ _ ⟨c9,cC,cD,cE,cF,u,cG,cH,cI,cJ,rfl,bc,(Ch.refl (fun k=>k=g∨I.heap.size≤k) ah),⟨cK,cL,bE⟩,⟨cM,cN,bF⟩,bG,(cx cO hcr bc hcl hcn)⟩
  have hZ:=dT a4
  refine mv (vp g 0) (wS a4) ?_
  refine cl (wS a4) (pV ah g ca cc cb (cx cO hcr bc hcl hcn) 2) ?_
  rintro _ a8 ⟨d0,ab,⟨ia,ib,d1,ic,ie,ig,ih⟩,rfl,ii⟩
  have b8:=ChG.ext bc ab iL
  refine pk (vb (d0)) wN a4 ?_
  refine n2 ?_
  rcases bf d0 with cp|cp
  ·refine cf cp<|nm<|mP ?_
   have fj:=(bG.ch ab (Ne.symm (nN (nL hgl (nT (z3 j f a) F)))))
   exact oq [(0,(vp g 0)),(3,(vp B 0)),(4,(vp S 0)),(5,(vi ((i).1))),(6,(vs J ((i).2).length K)),(7,(vp D 0))] ⟨rfl,rfl,rfl,rfl,rfl,rfl,trivial⟩ fun u=>bH _ _ ⟨c9,cC,cD,cE,cF,u,cG,cH,cI,cJ,rfl,b8,(ChO.ext (Ch.refl (fun k=>k=g∨I.heap.size≤k) ah) ab iL),⟨(Rd.chW cK (ChO.ext (Ch.refl (fun k=>k=g∨ah.heap.size≤k) ah) ab iL) bE),cL,bE⟩,⟨(Rd.chV cM (ChO.ext (Ch.refl (fun k=>k=g∨ah.heap.size≤k) ah) ab iL) bF),cN,bF⟩,fj,(cx d1 hcr b8 hcl hcn)⟩
  refine ct cp<|mV ?_
  refine pu (vp B 2) wN ?_
  refine pu (vp B 2) wN ?_
  have d2:=(dz.ch ab (Ne.symm (nN (nL hgl (af)))))
  refine ld (vi b.Cur.N) wN mT d2 ?_
  refine ta (IntKind.i64.wrap (b.Cur.N+1)) wN rfl rfl (by kernel_rfl) ?_
  intro d3
  refine pu (vp B 14) wN ?_
  refine ld (vs bo b.Next.length bp) wN nd d2 ?_
  obtain ⟨aS,fk⟩:∃ y,s_EpNew d3 b.Next=y:=⟨_,rfl⟩
  have d4:=tM a8 d3 _ b.Next (nH (Rd.chP c3 b8 c4) dN)
  rw [fk] at d4
  refine cl wN d4 ?_
  rintro _ O ⟨b9,⟨d5,d6,d7,d8,rfl,cq,fl,cr,fm,ij⟩⟩
  have fo:=ChG.extk b8 b9
  have fp:=((bG.ch ab (Ne.symm (nN (nL hgl (nT (z3 j f a) F))))).kp b9)
  refine sv (oi (aS) d5 d6 d7 d8) wN mY fp ?_
  intro Z bm fq ik
  have d9:=ChG.ext fo bm (fun k hk=>.inr (by subst hk;exact nT (z3 j f a) F))
  refine n2 ?_
  have fr:=(gc cq bm (ne1 cq (nL bv (z3 d m ab))))
  have fs:=(gc cr bm (ne1 cr (nL bv (z3 d m ab))))
  have ft:=((d1.kp b9).ch bm (nN (nL hgl (nT (z3 j f a) F))))
  exact oq [(0,(vp g 0)),(3,(vp B 0)),(4,(vp S 0)),(5,(vi ((i).1))),(6,(vs J ((i).2).length K)),(7,(vp D 0))] ⟨rfl,rfl,rfl,rfl,rfl,rfl,trivial⟩ fun u=>bH _ _ ⟨(aS).N,(aS).Key,(aS).Seq,((aS).Win).Top,((aS).Win).Bits,u,d5,d6,d7,d8,rfl,d9,(ChO.ext (ChO.extk (ChO.ext (Ch.refl (fun k=>k=g∨I.heap.size≤k) ah) ab iL) b9) bm (fun k hk=>.inr (by subst hk;exact F))),⟨(Rd.of_own fr),fl,(fun _ z hz=>by have W:=(nb cq z.block (by rw [hz];rfl)).1;have aa:=nL hgl (z7 j f a l d m ab);omega)⟩,⟨(Rd.of_own fs),fm,(fun _ z hz=>by have W:=(nb cr z.block (by rw [hz];rfl)).1;have aa:=nL hgl (z7 j f a l d m ab);omega)⟩,fq,(cx ft hcr d9 hcl hcn)⟩
 refine pu (vp B 12) wN ?_
 have dA:=((bu.kp l).ch d (nN (nL aj (nT (z2 f a) F))))
 refine ld (vb b.HasOld) wN qC dA ?_
 refine mw (vb b.HasOld) ?_
 rcases bf b.HasOld with aT|aT
 ·iterate 2 refine sk aT ?_
  refine pf vF wN aT ?_
  refine n2<|cf F1<|nm<|mP ?_
  have fu:=((c7.kp l).ch d (nN (nL hgl (nT (z3 j f a) F))))
  exact oq [(0,(vp g 0)),(3,(vp B 0)),(4,(vp S 0)),(5,(vi ((i).1))),(6,(vs J ((i).2).length K)),(7,(vp D 0))] ⟨rfl,rfl,rfl,rfl,rfl,rfl,trivial⟩ fun u=>bD _ _ ⟨b.Cur.N,b.Cur.Key,b.Cur.Seq,b.Cur.Win.Top,b.Cur.Win.Bits,u,aD,aE,aF,aG,rfl,aI,(Ch.refl (fun k=>k=g∨I.heap.size≤k) aZ),⟨(Rd.chP cw aI bq),cy,bq⟩,⟨(Rd.chP cz aI br),c0,br⟩,bC,(cx fu hcr aI hcl hcn)⟩
 refine mv (vp g 0) (wS aT) ?_
 have fv:=((c7.kp l).ch d (nN (nL hgl (nT (z3 j f a) F))))
 refine cl (wS aT) (pV aZ g ca cc cb (cx fv hcr aI hcl hcn) 3) ?_
 rintro _ ah ⟨dB,aU,⟨il,im,dC,io,ip,iq,ir⟩,rfl,it⟩
 have bn:=ChG.ext aI aU iL
 refine pk (vb (dB)) wN aT ?_
 refine n2 ?_
 rcases bf dB with cs|cs
 ·refine cf cs<|nm<|mP ?_
  have fw:=(bC.ch aU (Ne.symm (nN (nL hgl (nT (z3 j f a) F)))))
  exact oq [(0,(vp g 0)),(3,(vp B 0)),(4,(vp S 0)),(5,(vi ((i).1))),(6,(vs J ((i).2).length K)),(7,(vp D 0))] ⟨rfl,rfl,rfl,rfl,rfl,rfl,trivial⟩ fun u=>bD _ _ ⟨b.Cur.N,b.Cur.Key,b.Cur.Seq,b.Cur.Win.Top,b.Cur.Win.Bits,u,aD,aE,aF,aG,rfl,bn,(ChO.ext (Ch.refl (fun k=>k=g∨I.heap.size≤k) aZ) aU iL),⟨(Rd.chP cw bn bq),cy,bq⟩,⟨(Rd.chP cz bn br),c0,br⟩,fw,(cx dC hcr bn hcl hcn)⟩
 refine ct cs<|mV ?_
 refine pu (vp B 7) wN ?_
 have fx:=(dA.ch aU (Ne.symm (nN (nL hgl (af)))))
 refine lN (oi b.Old aV aW aX aY) wN nv mY fx ?_
 have fy:=(bC.ch aU (Ne.symm (nN (nL hgl (nT (z3 j f a) F)))))
 refine sv (oi b.Old aV aW aX aY) wN mY fy ?_
 intro a8 cu fz iu
 have bA:=ChG.ext bn cu (fun k hk=>.inr (by subst hk;exact nT (z3 j f a) F))
 refine n2 ?_
 have f0:=(dC.ch cu (nN (nL hgl (nT (z3 j f a) F))))
 exact oq [(0,(vp g 0)),(3,(vp B 0)),(4,(vp S 0)),(5,(vi ((i).1))),(6,(vs J ((i).2).length K)),(7,(vp D 0))] ⟨rfl,rfl,rfl,rfl,rfl,rfl,trivial⟩ fun u=>bD _ _ ⟨b.Old.N,b.Old.Key,b.Old.Seq,b.Old.Win.Top,b.Old.Win.Bits,u,aV,aW,aX,aY,rfl,bA,(ChO.ext (ChO.ext (Ch.refl (fun k=>k=g∨I.heap.size≤k) aZ) aU iL) cu (fun k hk=>.inr (by subst hk;exact F))),⟨(Rd.chP dJ bA c1),dK,c1⟩,⟨(Rd.chP dL bA c2),dM,c2⟩,fz,(cx f0 hcr bA hcl hcn)⟩

theorem zW (a4:World) (g:Nat) (ca:Option Addr) (cc:Nat) (cb:List UInt8) (c7:ph a4 g 110 ca cc cb) :Fn Tryz.prog 103 #[(vp g 0)] a4 (fun v X=>∃ x:(PFrame),Ch (fun k=>k=g) a4 X∧ph X g 110 ca cc cb∧CD X a4.heap.size v x∧(True)):=by
 obtain ⟨ci,chh,hcb,hcr,hcl,hci,hcn⟩:=c7
 have hgl:=Blk.lt hcb
 refine nu (n:=79) [(vp g 0)] Tryz.func103 rfl rfl ?_
 refine sr<|al vf wN pW ?_
 intro ay c8 l K b bn
 have bJ:=ChG.extk (Ch.refl (fun k=>k=g) a4) b
 refine nx<|mw (vp g 0) ?_
 have c9:=(hcb.kp b)
 refine cl wN (ow c8 g ca cc cb (cx c9 hcr bJ hcl hcn) 8) ?_
 rintro _ e4 ⟨f,a,⟨e5,e6,b1,e7,e8,e9,eA⟩,rfl,eB⟩
 have cC:=ChG.ext bJ a iL
 refine ar (1+(f)) wN ?_
 refine pu (va [(vi (1+(f))),(vi 0),(vs none 0 0),(vs none 0 0),(vi 0),(vs none 0 0),(vs none 0 0),(vi 0),(vi 0),(vs none 0 0),(vs none 0 0)]) wN ?_
 refine al vf wN pW ?_
 intro o eC j Q i cD
 have cE:=ChG.extk cC i
 refine sv [(vi (1+(f))),(vi 0),(vs none 0 0),(vs none 0 0),(vi 0),(vs none 0 0),(vs none 0 0),(vi 0),(vi 0),(vs none 0 0),(vs none 0 0)] wN mZ cD ?_
 intro aA d bo eD
 have aP:=ChG.ext cE d (fun k hk=>.inr (by subst hk;exact nT (z2 b a) j))
 refine n4<|pu (vp o 0) wN ?_
 refine ld (vi (1+(f))) wN mT bo ?_
 refine mW<|mP<|ng<|sr<|pu (vb (decide ((1+(f))=1))) wN ?_
 refine aw (vb (decide ((1+(f))=1))) ?_
 refine n2 ?_
 rcases bt (decide ((1+(f))=1)) with aZ|aZ
 ·have eE:=dT aZ
  refine ct aZ<|sr<|mw (vp g 0) ?_
  have cF:=((b1.kp i).ch d (nN (nL hgl (nT (z2 b a) j))))
  refine cl wN (ow aA g ca cc cb (cx cF hcr aP hcl hcn) 9) ?_
  rintro _ b2 ⟨az,aQ,⟨eF,eG,cG,eH,eI,eJ,eK⟩,rfl,eL⟩
  have cH:=ChG.ext aP aQ iL
  refine ar (1+(az)) wN ?_
  refine pu (vp o 1) wN ?_
  have cI:=(bo.ch aQ (Ne.symm (nN (nL hgl (nT (z2 b a) j)))))
  refine sf (vi (1+(az))) wN nV cI ?_
  intro ba aR cJ eM
  have bK:=ChG.ext cH aR (fun k hk=>.inr (by subst hk;exact nT (z2 b a) j))
  refine mW<|mP<|mV ?_
  refine mw (vp g 0) ?_
  have cK:=(cG.ch aR (nN (nL hgl (nT (z2 b a) j))))
  refine cl wN (oC ba g ca cc cb (cx cK hcr bK hcl hcn) 12 (by omega)) ?_
  rintro _ b3 ⟨a5,b4,⟨eN,eO,cL,eP,eQ,eR,eS⟩,⟨aB,aC,rfl,b5,cM,eT⟩,eU⟩
  have cN:=ChG.ext bK b4 iL
  refine pu (vp o 2) wN ?_
  have cO:=(cJ.ch b4 (Ne.symm (nN (nL hgl (nT (z2 b a) j)))))
  refine sf (vs aB (a5).length aC) wN nG cO ?_
  intro b6 bp cP eV
  have cQ:=ChG.ext cN bp (fun k hk=>.inr (by subst hk;exact nT (z2 b a) j))
  refine mW<|mQ<|mP<|sr ?_
  refine lN [(vi (1+(f))),(vi (1+(az))),(vs aB (a5).length aC),(vs none 0 0),(vi 0),(vs none 0 0),(vs none 0 0),(vi 0),(vi 0),(vs none 0 0),(vs none 0 0)] wN nk mZ cP ?_
  have b7:=nL K (nT a.size j)
  have cR:=(((((((bn.ch a (Ne.symm (nN (nL hgl (l))))).kp i).ch d (nN b7)).ch aQ (Ne.symm (nN (nL hgl (l))))).ch aR (nN b7)).ch b4 (Ne.symm (nN (nL hgl (l))))).ch bp (nN b7))
  refine sv [(vi (1+(f))),(vi (1+(az))),(vs aB (a5).length aC),(vs none 0 0),(vi 0),(vs none 0 0),(vs none 0 0),(vi 0),(vi 0),(vs none 0 0),(vs none 0 0)] wN mZ cR ?_
  intro bL b8 cS eW
  have bM:=ChG.ext cQ b8 (fun k hk=>.inr (by subst hk;exact l))
  refine n3 ?_
  have cT:=(gc (gc b5 bp (ne1 b5 (nL Q (z3 d aQ aR)))) b8 (ne1 b5 (nL K (z5 a i d aQ aR))))
  refine rc [(vi (1+(f))),(vi (1+(az))),(vs aB (a5).length aC),(vs none 0 0),(vi 0),(vs none 0 0),(vs none 0 0),(vi 0),(vi 0),(vs none 0 0),(vs none 0 0)] cS nk mZ ?_
  have cU:=((cL.ch bp (nN (nL hgl (nT (z2 b a) j)))).ch b8 (nN (nL hgl (l))))
  exact ⟨{Kind:=(1+(f)),Id:=(1+(az)),Cn:=(a5),Sn:=[],Tick:=0,Cookie:=[],Proof:=[],Epoch:=0,Seq:=0,Body:=[],Tag:=[]:PFrame},bM,(cx cU hcr bM hcl hcn),⟨_,_,_,_,_,_,_,_,_,_,_,_,rfl,(mO cT (z6 b a i d aQ aR)),cM,(nM _ _ _ _),(by simp),(nM _ _ _ _),(by simp),(nM _ _ _ _),(by simp),(nM _ _ _ _),(by simp),(nM _ _ _ _),(by simp),⟨⟨(Ap.nr _),⟨(Ap.nr _),⟨(Ap.nr _),⟨(Ap.nr _),⟨(Ap.nr _),trivial⟩⟩⟩⟩⟩,⟨⟨(Ap.nl _),⟨(Ap.nl _),⟨(Ap.nl _),⟨(Ap.nl _),trivial⟩⟩⟩⟩,⟨⟨(Ap.nl _),⟨(Ap.nl _),⟨(Ap.nl _),trivial⟩⟩⟩,⟨⟨(Ap.nl _),⟨(Ap.nl _),trivial⟩⟩,⟨⟨(Ap.nl _),trivial⟩,⟨trivial,trivial⟩⟩⟩⟩⟩⟩⟩,trivial⟩
 have eX:=dF aZ
 refine cf aZ<|nh<|sr<|jM1 (fun e' X=>∃ (cV:Bool) (bN:Env),e'=pt bN [(0,(vp g 0)),(2,(vp ay 0)),(3,(vp o 0)),(52,(vb cV))]∧Ch (fun k=>k=g) a4 X∧Ch (fun k=>k=g∨aA.heap.size≤k) aA X∧ph X g 110 ca cc cb) ?_ fun bO=>?_
 ·rintro _ b2 ⟨cW,bN,rfl,bq,e,⟨eY,eZ,bP,fa,fb,fc,fd⟩⟩
  rcases bf cW with b9|b9
  ·refine cf b9<|sr<|mw (vp g 0) ?_
   refine cl wN (oC b2 g ca cc cb (cx bP hcr bq hcl hcn) 12 (by omega)) ?_
   rintro _ ba ⟨am,N,⟨fe,ff,cX,fg,fh,fi,fj⟩,⟨aq,au,rfl,O,cY,fk⟩,fl⟩
   have cZ:=ChG.ext bq N iL
   refine pu (vp o 3) wN ?_
   have da:=((bo.ch e (fun h=>Or.elim h (Ne.symm (nN (nL hgl (nT (z2 b a) j)))) (Nat.not_le.2 (nL Q d.size)))).ch N (Ne.symm (nN (nL hgl (nT (z2 b a) j)))))
   refine sf (vs aq (am).length au) wN nG da ?_
   intro b3 y db fm
   have dc:=ChG.ext cZ y (fun k hk=>.inr (by subst hk;exact nT (z2 b a) j))
   refine nx<|mw (vp g 0) ?_
   refine ltI ([0,1,2,4294967295]:List Int) wN nf ?_
   intro fo fp b6 A bQ
   have bR:=ChG.extk dc A
   have dd:=((cX.ch y (nN (nL hgl (nT (z2 b a) j)))).kp A)
   refine cl wN (oz b6 g ca cc cb (cx dd hcr bR hcl hcn) _ ([0,1,2,4294967295]:List Int) ⟨_,_,rfl,(Rd.of_own bQ),(by simp),(fun _ z hz=>by have aD:=(nb bQ z.block (by rw [hz];rfl)).1;have aE:=nL hgl (z7 b a i d e N y);omega)⟩ (by simp)) ?_
   rintro _ bL ⟨Y,B,⟨fq,fr,de,fs,ft,fu,fv⟩,rfl,df⟩
   have dg:=ChG.ext bR B iL
   have q279m:Y=0∨Y=1∨Y=2∨Y=4294967295:=by simpa using df
   refine pu (vp o 7) wN ?_
   have dh:=((db.kp A).ch B (Ne.symm (nN (nL hgl (nT (z2 b a) j)))))
   refine sf (vi (Y)) wN nV dh ?_
   intro bS C di fw
   have dj:=ChG.ext dg C (fun k hk=>.inr (by subst hk;exact nT (z2 b a) j))
   refine nx<|mw (vp g 0) ?_
   refine ltI ([0,1,70000,281474976710655]:List Int) wN nf ?_
   intro fx fy bT D bU
   have bW:=ChG.extk dj D
   have dk:=((de.ch C (nN (nL hgl (nT (z2 b a) j)))).kp D)
   refine cl wN (oz bT g ca cc cb (cx dk hcr bW hcl hcn) _ ([0,1,70000,281474976710655]:List Int) ⟨_,_,rfl,(Rd.of_own bU),(by simp),(fun _ z hz=>by have aD:=(nb bU z.block (by rw [hz];rfl)).1;have aE:=nL hgl (z10 b a i d e N y A B C);omega)⟩ (by simp)) ?_
   rintro _ bX ⟨ae,F,⟨fz,f0,dl,f3,f4,f5,f6⟩,rfl,dm⟩
   have dn:=ChG.ext bW F iL
   have q302m:ae=0∨ae=1∨ae=70000∨ae=281474976710655:=by simpa using dm
   refine pu (vp o 8) wN ?_
   have dp:=((di.kp D).ch F (Ne.symm (nN (nL hgl (nT (z2 b a) j)))))
   refine sf (vi (ae)) wN nV dp ?_
   intro bY G dq f7
   have bZ:=ChG.ext dn G (fun k hk=>.inr (by subst hk;exact nT (z2 b a) j))
   refine nx<|mw (vp g 0) ?_
   have dr:=(dl.ch G (nN (nL hgl (nT (z2 b a) j))))
   refine cl wN (oC bY g ca cc cb (cx dr hcr bZ hcl hcn) 16 (by omega)) ?_
   rintro _ br ⟨a1,T,⟨f8,f9,ds,fA,fB,fC,fD⟩,⟨a6,a7,rfl,an,dt,fE⟩,fF⟩
   have du:=ChG.ext bZ T iL
   refine pu (vp o 10) wN ?_
   have dv:=(dq.ch T (Ne.symm (nN (nL hgl (nT (z2 b a) j)))))
   refine sf (vs a6 (a1).length a7) wN nG dv ?_
   intro cd L bA fG
   have dw:=ChG.ext du L (fun k hk=>.inr (by subst hk;exact nT (z2 b a) j))
   refine nx<|mw (vp g 0) ?_
   refine ltI ([0,1,12,40]:List Int) wN nf ?_
   intro fH fI bB H ce
   have cg:=ChG.extk dw H
   have dx:=((ds.ch L (nN (nL hgl (nT (z2 b a) j)))).kp H)
   refine cl wN (oz bB g ca cc cb (cx dx hcr cg hcl hcn) _ ([0,1,12,40]:List Int) ⟨_,_,rfl,(Rd.of_own ce),(by simp),(fun _ z hz=>by have aD:=(nb ce z.block (by rw [hz];rfl)).1;have aE:=nL hgl (t4 (z12 b a i d e N y A B C D F) G.size T.size L.size);omega)⟩ (by simp)) ?_
   rintro _ ah ⟨aF,I,⟨fJ,fK,bC,fL,fM,fN,fO⟩,rfl,dy⟩
   have aS:=ChG.ext cg I iL
   have q348m:aF=0∨aF=1∨aF=12∨aF=40:=by simpa using dy
   refine aw (vi (aF)) ?_
   refine n4<|jM1 (fun e' X=>∃ (aG:Int) (cj:Env),e'=pt cj [(0,(vp g 0)),(2,(vp ay 0)),(3,(vp o 0)),(4,(vi aG))]∧Ch (fun k=>k=g) a4 X∧Ch (fun k=>k=g∨ah.heap.size≤k) ah X∧ph X g 110 ca cc cb∧(0≤aG∧aG≤40)) ?_ fun bD=>?_
   ·rintro _ av ⟨ck,cj,rfl,bu,af,⟨fP,fQ,cm,fR,fS,fT,fU⟩,⟨fV,fW⟩⟩
    refine nh<|sr<|jM1 (fun e' X=>∃ (aG:Int) (cn:Env),e'=pt cn [(0,(vp g 0)),(2,(vp ay 0)),(3,(vp o 0)),(4,(vi aG))]∧Ch (fun k=>k=g) a4 X∧Ch (fun k=>k=g∨av.heap.size≤k) av X∧ph X g 110 ca cc cb∧(0≤aG∧aG≤40)) ?_ fun co=>?_
    ·rintro _ cp ⟨cq,cn,rfl,cr,a2,⟨fX,fY,dz,fZ,ga,gb,gd⟩,⟨ge,gf⟩⟩
     refine mV ?_
     refine mw (vp g 0) ?_
     refine mw (vi cq) ?_
     refine cl wN (oC cp g ca cc cb (cx dz hcr cr hcl hcn) cq (by omega)) ?_
     rintro _ gg ⟨a8,bb,⟨gh,gi,d0,gj,gk,gl,gm⟩,⟨aH,aI,rfl,bc,d1,gn⟩,gp⟩
     have d2:=ChG.ext cr bb iL
     refine pu (vp o 9) wN ?_
     have bv:=nT (z2 b a) j
     have d3:=(((((bA.kp H).ch I (Ne.symm (nN (nL hgl bv)))).ch af (fun h=>Or.elim h (Ne.symm (nN (nL hgl bv))) (Nat.not_le.2 (nL Q (t3 (z12 d e N y A B C D F G T L) H.size I.size))))).ch a2 (fun h=>Or.elim h (Ne.symm (nN (nL hgl bv))) (Nat.not_le.2 (nL Q (t4 (z12 d e N y A B C D F G T L) H.size I.size af.size))))).ch bb (Ne.symm (nN (nL hgl bv))))
     refine sf (vs aH (a8).length aI) wN nG d3 ?_
     intro gq aT d4 gr
     have d5:=ChG.ext d2 aT (fun k hk=>.inr (by subst hk;exact nT (z2 b a) j))
     refine mW<|mQ<|mP<|sr ?_
     refine lN [(vi (1+(f))),(vi 0),(vs none 0 0),(vs aq (am).length au),(vi 0),(vs none 0 0),(vs none 0 0),(vi (Y)),(vi (ae)),(vs aH (a8).length aI),(vs a6 (a1).length a7)] wN nk mZ d4 ?_
     have aU:=nL K (nT a.size j)
     have d6:=((((((((((((((((((((bn.ch a (Ne.symm (nN (nL hgl (l))))).kp i).ch d (nN aU)).ch e (fun h=>Or.elim h (Ne.symm (nN (nL hgl (l)))) (Nat.not_le.2 (nL K (z3 a i d))))).ch N (Ne.symm (nN (nL hgl (l))))).ch y (nN aU)).kp A).ch B (Ne.symm (nN (nL hgl (l))))).ch C (nN aU)).kp D).ch F (Ne.symm (nN (nL hgl (l))))).ch G (nN aU)).ch T (Ne.symm (nN (nL hgl (l))))).ch L (nN aU)).kp H).ch I (Ne.symm (nN (nL hgl (l))))).ch af (fun h=>Or.elim h (Ne.symm (nN (nL hgl (l)))) (Nat.not_le.2 (nL K (t5 (z12 a i d e N y A B C D F G) T.size L.size H.size I.size))))).ch a2 (fun h=>Or.elim h (Ne.symm (nN (nL hgl (l)))) (Nat.not_le.2 (nL K (t6 (z12 a i d e N y A B C D F G) T.size L.size H.size I.size af.size))))).ch bb (Ne.symm (nN (nL hgl (l))))).ch aT (nN aU))
     refine sv [(vi (1+(f))),(vi 0),(vs none 0 0),(vs aq (am).length au),(vi 0),(vs none 0 0),(vs none 0 0),(vi (Y)),(vi (ae)),(vs aH (a8).length aI),(vs a6 (a1).length a7)] wN mZ d6 ?_
     intro gs bd d7 gt
     have cs:=ChG.ext d5 bd (fun k hk=>.inr (by subst hk;exact l))
     refine n3 ?_
     have be:=nL Q (z2 d e)
     have d8:=(gc (gc (gc (gc (gc (gc (mz (gc (gc (gc (gc (mz (gc (gc (mz (gc O y (ne1 O be)) A) B (ne1 O (nL hgl (z5 b a i d e)))) C (ne1 O be)) D) F (ne1 O (nL hgl (z5 b a i d e)))) G (ne1 O be)) T (ne1 O (nL hgl (z5 b a i d e)))) L (ne1 O be)) H) I (ne1 O (nL hgl (z5 b a i d e)))) af (fun Z ax aJ aK=>Or.elim aK (fun hk=>(ne1 O (nL hgl (z5 b a i d e))) Z ax aJ hk) (fun hk=>by have aD:=(nb O Z ax).2;have aE:ba.heap.size≤ah.heap.size:=(z11 y A B C D F G T L H I);have bE:ah.heap.size≤Z:=hk;omega))) a2 (fun Z ax aJ aK=>Or.elim aK (fun hk=>(ne1 O (nL hgl (z5 b a i d e))) Z ax aJ hk) (fun hk=>by have aD:=(nb O Z ax).2;have aE:ba.heap.size≤av.heap.size:=(z12 y A B C D F G T L H I af);have bE:av.heap.size≤Z:=hk;omega))) bb (ne1 O (nL hgl (z5 b a i d e)))) aT (ne1 O be)) bd (ne1 O (nL K (z4 a i d e))))
     have d9:=(gc (gc bc aT (ne1 bc (nL Q (t5 (z12 d e N y A B C D F G T L) H.size I.size af.size a2.size)))) bd (ne1 bc (nL K (t7 (z12 a i d e N y A B C D F G) T.size L.size H.size I.size af.size a2.size))))
     have bw:=nT (z12 b a i d e N y A B C D F) G.size
     have dA:=(gc (gc (gc (gc (gc (gc (mz (gc an L (ne1 an (nL Q (z10 d e N y A B C D F G)))) H) I (ne1 an (nL hgl bw))) af (fun Z ax aJ aK=>Or.elim aK (fun hk=>(ne1 an (nL hgl bw)) Z ax aJ hk) (fun hk=>by have aD:=(nb an Z ax).2;have aE:br.heap.size≤ah.heap.size:=(z3 L H I);have bE:ah.heap.size≤Z:=hk;omega))) a2 (fun Z ax aJ aK=>Or.elim aK (fun hk=>(ne1 an (nL hgl bw)) Z ax aJ hk) (fun hk=>by have aD:=(nb an Z ax).2;have aE:br.heap.size≤av.heap.size:=(z4 L H I af);have bE:av.heap.size≤Z:=hk;omega))) bb (ne1 an (nL hgl bw))) aT (ne1 an (nL Q (z10 d e N y A B C D F G)))) bd (ne1 an (nL K (z12 a i d e N y A B C D F G))))
     refine rc [(vi (1+(f))),(vi 0),(vs none 0 0),(vs aq (am).length au),(vi 0),(vs none 0 0),(vs none 0 0),(vi (Y)),(vi (ae)),(vs aH (a8).length aI),(vs a6 (a1).length a7)] d7 nk mZ ?_
     have dB:=((d0.ch aT (nN (nL hgl (nT (z2 b a) j)))).ch bd (nN (nL hgl (l))))
     exact ⟨{Kind:=(1+(f)),Id:=0,Cn:=[],Sn:=(am),Tick:=0,Cookie:=[],Proof:=[],Epoch:=(Y),Seq:=(ae),Body:=(a8),Tag:=(a1):PFrame},cs,(cx dB hcr cs hcl hcn),⟨_,_,_,_,_,_,_,_,_,_,_,_,rfl,(nM _ _ _ _),(by simp),(mO d8 (z5 b a i d e)),cY,(nM _ _ _ _),(by simp),(nM _ _ _ _),(by simp),(mO d9 (t8 (z12 b a i d e N y A B C D F) G.size T.size L.size H.size I.size af.size a2.size)),d1,(mO dA (nT (z12 b a i d e N y A B C D F) G.size)),dt,⟨⟨(Ap.nl _),⟨(Ap.nl _),⟨(Ap.nl _),⟨(Ap.nl _),⟨(Ap.nl _),trivial⟩⟩⟩⟩⟩,⟨⟨(Ap.nr _),⟨(Ap.nr _),⟨(Ap.lt O bc (nT (z12 y A B C D F G T L H I af) a2.size)),⟨(Ap.lt O an (z7 y A B C D F G)),trivial⟩⟩⟩⟩,⟨⟨(Ap.nl _),⟨(Ap.nl _),⟨(Ap.nl _),trivial⟩⟩⟩,⟨⟨(Ap.nl _),⟨(Ap.nl _),trivial⟩⟩,⟨⟨(Ap.lt an bc (z5 L H I af a2)).symm,trivial⟩,⟨trivial,trivial⟩⟩⟩⟩⟩⟩⟩,trivial⟩
    refine pu (vp o 0) wN ?_
    have dC:=(((bA.kp H).ch I (Ne.symm (nN (nL hgl (nT (z2 b a) j))))).ch af (fun h=>Or.elim h (Ne.symm (nN (nL hgl (nT (z2 b a) j)))) (Nat.not_le.2 (nL Q (t3 (z12 d e N y A B C D F G T L) H.size I.size)))))
    refine ld (vi (1+(f))) wN mT dC ?_
    refine pu (vb (decide (7≤(1+(f))))) wN ?_
    refine n2 ?_
    rcases bf (decide (7≤(1+(f)))) with bg|bg
    ·have gu:=dF bg
     exact cf bg<|nm<|mP<|oq [(0,(vp g 0)),(2,(vp ay 0)),(3,(vp o 0)),(4,(vi ck))] ⟨rfl,rfl,rfl,rfl,trivial⟩ fun u=>co _ _ ⟨ck,u,rfl,bu,(Ch.refl (fun k=>k=g∨av.heap.size≤k) av),(cx cm hcr bu hcl hcn),⟨by omega,by omega⟩⟩
    have gv:=dT bg
    refine ct bg<|mV ?_
    refine aw (vi 4) ?_
    exact n2<|oq [(0,(vp g 0)),(2,(vp ay 0)),(3,(vp o 0)),(4,(vi 4))] ⟨rfl,rfl,rfl,rfl,trivial⟩ fun u=>co _ _ ⟨4,u,rfl,bu,(Ch.refl (fun k=>k=g∨av.heap.size≤k) av),(cx cm hcr bu hcl hcn),⟨by omega,by omega⟩⟩
   refine pu (vp o 0) wN ?_
   have cu:=((bA.kp H).ch I (Ne.symm (nN (nL hgl (nT (z2 b a) j)))))
   refine ld (vi (1+(f))) wN mT cu ?_
   refine pu (vb (decide ((1+(f))=5))) wN ?_
   refine mw (vb (decide ((1+(f))=5))) ?_
   rcases bt (decide ((1+(f))=5)) with a3|a3
   ·have gw:=dT a3
    iterate 3 refine sk a3 ?_
    refine pk vT wN a3 ?_
    refine n2<|ct T1<|mV ?_
    refine aw (vi 12) ?_
    exact n2<|oq [(0,(vp g 0)),(2,(vp ay 0)),(3,(vp o 0)),(4,(vi 12))] ⟨rfl,rfl,rfl,rfl,trivial⟩ fun u=>bD _ _ ⟨12,u,rfl,aS,(Ch.refl (fun k=>k=g∨ah.heap.size≤k) ah),(cx bC hcr aS hcl hcn),⟨by omega,by omega⟩⟩
   have gx:=dF a3
   refine pu (vp o 0) (wS a3) ?_
   refine ld (vi (1+(f))) (wS a3) mT cu ?_
   refine pu (vb (decide ((1+(f))=6))) (wS a3) ?_
   refine pf (vb (decide ((1+(f))=6))) wN a3 ?_
   refine n2 ?_
   rcases bf (decide ((1+(f))=6)) with bh|bh
   ·have gy:=dF bh
    exact cf bh<|nm<|mP<|oq [(0,(vp g 0)),(2,(vp ay 0)),(3,(vp o 0)),(4,(vi (aF)))] ⟨rfl,rfl,rfl,rfl,trivial⟩ fun u=>bD _ _ ⟨(aF),u,rfl,aS,(Ch.refl (fun k=>k=g∨ah.heap.size≤k) ah),(cx bC hcr aS hcl hcn),⟨by omega,by omega⟩⟩
   have gz:=dT bh
   refine ct bh<|mV ?_
   refine aw (vi 12) ?_
   exact n2<|oq [(0,(vp g 0)),(2,(vp ay 0)),(3,(vp o 0)),(4,(vi 12))] ⟨rfl,rfl,rfl,rfl,trivial⟩ fun u=>bD _ _ ⟨12,u,rfl,aS,(Ch.refl (fun k=>k=g∨ah.heap.size≤k) ah),(cx bC hcr aS hcl hcn),⟨by omega,by omega⟩⟩
  refine ct b9<|sr<|mw (vp g 0) ?_
  refine cl wN (oC b2 g ca cc cb (cx bP hcr bq hcl hcn) 12 (by omega)) ?_
  rintro _ ba ⟨P,s,⟨g0,g1,dD,g2,g3,g4,g5⟩,⟨V,W,rfl,p,cv,g6⟩,g7⟩
  have dE:=ChG.ext bq s iL
  refine pu (vp o 2) wN ?_
  have dG:=((bo.ch e (fun h=>Or.elim h (Ne.symm (nN (nL hgl (nT (z2 b a) j)))) (Nat.not_le.2 (nL Q d.size)))).ch s (Ne.symm (nN (nL hgl (nT (z2 b a) j)))))
  refine sf (vs V (P).length W) wN nG dG ?_
  intro b3 m dH g8
  have cw:=ChG.ext dE m (fun k hk=>.inr (by subst hk;exact nT (z2 b a) j))
  refine nx<|mw (vp g 0) ?_
  have dI:=(dD.ch m (nN (nL hgl (nT (z2 b a) j))))
  refine cl wN (oC b3 g ca cc cb (cx dI hcr cw hcl hcn) 12 (by omega)) ?_
  rintro _ b6 ⟨R,J,⟨g9,gA,dJ,gB,gC,gD,gE⟩,⟨aa,ab,rfl,E,cy,gF⟩,gG⟩
  have dK:=ChG.ext cw J iL
  refine pu (vp o 3) wN ?_
  have dL:=(dH.ch J (Ne.symm (nN (nL hgl (nT (z2 b a) j)))))
  refine sf (vs aa (R).length ab) wN nG dL ?_
  intro bL q dM gH
  have dN:=ChG.ext dK q (fun k hk=>.inr (by subst hk;exact nT (z2 b a) j))
  refine nx<|mw (vp g 0) ?_
  refine ltI ([0,1,300,1000000]:List Int) wN nf ?_
  intro gI gJ bS r cz
  have c0:=ChG.extk dN r
  have dO:=((dJ.ch q (nN (nL hgl (nT (z2 b a) j)))).kp r)
  refine cl wN (oz bS g ca cc cb (cx dO hcr c0 hcl hcn) _ ([0,1,300,1000000]:List Int) ⟨_,_,rfl,(Rd.of_own cz),(by simp),(fun _ z hz=>by have aD:=(nb cz z.block (by rw [hz];rfl)).1;have aE:=nL hgl (z9 b a i d e s m J q);omega)⟩ (by simp)) ?_
  rintro _ bT ⟨M,t,⟨gK,gL,dP,gM,gN,gO,gP⟩,rfl,dQ⟩
  have dR:=ChG.ext c0 t iL
  have q148m:M=0∨M=1∨M=300∨M=1000000:=by simpa using dQ
  refine pu (vp o 4) wN ?_
  have dS:=((dM.kp r).ch t (Ne.symm (nN (nL hgl (nT (z2 b a) j)))))
  refine sf (vi (M)) wN nV dS ?_
  intro bX w dU gQ
  have c1:=ChG.ext dR w (fun k hk=>.inr (by subst hk;exact nT (z2 b a) j))
  refine nx<|mw (vp g 0) ?_
  have dV:=(dP.ch w (nN (nL hgl (nT (z2 b a) j))))
  refine cl wN (oC bX g ca cc cb (cx dV hcr c1 hcl hcn) 16 (by omega)) ?_
  rintro _ bY ⟨ac,ai,⟨gR,gS,c2,gT,gU,gV,gW⟩,⟨aj,ak,rfl,ad,c3,gX⟩,gY⟩
  have dW:=ChG.ext c1 ai iL
  refine pu (vp o 5) wN ?_
  have dX:=(dU.ch ai (Ne.symm (nN (nL hgl (nT (z2 b a) j)))))
  refine sf (vs aj (ac).length ak) wN nG dX ?_
  intro br S bF gZ
  have bG:=ChG.ext dW S (fun k hk=>.inr (by subst hk;exact nT (z2 b a) j))
  refine nx<|pu (vp o 0) wN ?_
  refine ld (vi (1+(f))) wN mT bF ?_
  refine pu (vb (decide ((1+(f))=3))) wN ?_
  refine n2 ?_
  rcases bf (decide ((1+(f))=3)) with bi|bi
  ·have ha:=dF bi
   refine cf bi<|nm<|mQ<|mP<|sr ?_
   refine lN [(vi (1+(f))),(vi 0),(vs V (P).length W),(vs aa (R).length ab),(vi (M)),(vs aj (ac).length ak),(vs none 0 0),(vi 0),(vi 0),(vs none 0 0),(vs none 0 0)] wN nk mZ bF ?_
   have bj:=nL K (nT a.size j)
   have dY:=(((((((((((((bn.ch a (Ne.symm (nN (nL hgl (l))))).kp i).ch d (nN bj)).ch e (fun h=>Or.elim h (Ne.symm (nN (nL hgl (l)))) (Nat.not_le.2 (nL K (z3 a i d))))).ch s (Ne.symm (nN (nL hgl (l))))).ch m (nN bj)).ch J (Ne.symm (nN (nL hgl (l))))).ch q (nN bj)).kp r).ch t (Ne.symm (nN (nL hgl (l))))).ch w (nN bj)).ch ai (Ne.symm (nN (nL hgl (l))))).ch S (nN bj))
   refine sv [(vi (1+(f))),(vi 0),(vs V (P).length W),(vs aa (R).length ab),(vi (M)),(vs aj (ac).length ak),(vs none 0 0),(vi 0),(vi 0),(vs none 0 0),(vs none 0 0)] wN mZ dY ?_
   intro cd bk dZ hb
   have c4:=ChG.ext bG bk (fun k hk=>.inr (by subst hk;exact l))
   refine n3 ?_
   have bz:=nL Q (z2 d e)
   have ea:=(gc (gc (gc (gc (gc (mz (gc (gc (gc p m (ne1 p bz)) J (ne1 p (nL hgl (z5 b a i d e)))) q (ne1 p bz)) r) t (ne1 p (nL hgl (z5 b a i d e)))) w (ne1 p bz)) ai (ne1 p (nL hgl (z5 b a i d e)))) S (ne1 p bz)) bk (ne1 p (nL K (z4 a i d e))))
   have bH:=nL Q (z4 d e s m)
   have ec:=(gc (gc (gc (gc (gc (mz (gc E q (ne1 E bH)) r) t (ne1 E (nL hgl (z7 b a i d e s m)))) w (ne1 E bH)) ai (ne1 E (nL hgl (z7 b a i d e s m)))) S (ne1 E bH)) bk (ne1 E (nL K (z6 a i d e s m))))
   have ed:=(gc (gc ad S (ne1 ad (nL Q (z9 d e s m J q r t w)))) bk (ne1 ad (nL K (z11 a i d e s m J q r t w))))
   refine rc [(vi (1+(f))),(vi 0),(vs V (P).length W),(vs aa (R).length ab),(vi (M)),(vs aj (ac).length ak),(vs none 0 0),(vi 0),(vi 0),(vs none 0 0),(vs none 0 0)] dZ nk mZ ?_
   have ee:=((c2.ch S (nN (nL hgl (nT (z2 b a) j)))).ch bk (nN (nL hgl (l))))
   exact ⟨{Kind:=(1+(f)),Id:=0,Cn:=(P),Sn:=(R),Tick:=(M),Cookie:=(ac),Proof:=[],Epoch:=0,Seq:=0,Body:=[],Tag:=[]:PFrame},c4,(cx ee hcr c4 hcl hcn),⟨_,_,_,_,_,_,_,_,_,_,_,_,rfl,(mO ea (z5 b a i d e)),cv,(mO ec (z7 b a i d e s m)),cy,(mO ed (z12 b a i d e s m J q r t w)),c3,(nM _ _ _ _),(by simp),(nM _ _ _ _),(by simp),(nM _ _ _ _),(by simp),⟨⟨(Ap.lt p E m.size),⟨(Ap.lt p ad (z6 m J q r t w)),⟨(Ap.nr _),⟨(Ap.nr _),⟨(Ap.nr _),trivial⟩⟩⟩⟩⟩,⟨⟨(Ap.lt E ad (z4 q r t w)),⟨(Ap.nr _),⟨(Ap.nr _),⟨(Ap.nr _),trivial⟩⟩⟩⟩,⟨⟨(Ap.nr _),⟨(Ap.nr _),⟨(Ap.nr _),trivial⟩⟩⟩,⟨⟨(Ap.nl _),⟨(Ap.nl _),trivial⟩⟩,⟨⟨(Ap.nl _),trivial⟩,⟨trivial,trivial⟩⟩⟩⟩⟩⟩⟩,trivial⟩
  have hc:=dT bi
  refine ct bi<|sr<|mw (vp g 0) ?_
  have ef:=(c2.ch S (nN (nL hgl (nT (z2 b a) j))))
  refine cl wN (ow br g ca cc cb (cx ef hcr bG hcl hcn) 9) ?_
  rintro _ cd ⟨a0,ao,⟨hd,he,eg,hf,hg,hh,hi⟩,rfl,hj⟩
  have eh:=ChG.ext bG ao iL
  refine ar (1+(a0)) wN ?_
  refine pu (vp o 1) wN ?_
  have ej:=(bF.ch ao (Ne.symm (nN (nL hgl (nT (z2 b a) j)))))
  refine sf (vi (1+(a0))) wN nV ej ?_
  intro bB ap ek hl
  have c5:=ChG.ext eh ap (fun k hk=>.inr (by subst hk;exact nT (z2 b a) j))
  refine mW<|mP<|mV ?_
  refine mw (vp g 0) ?_
  have em:=(eg.ch ap (nN (nL hgl (nT (z2 b a) j))))
  refine cl wN (oC bB g ca cc cb (cx em hcr c5 hcl hcn) 16 (by omega)) ?_
  rintro _ ah ⟨a9,aV,⟨hm,hn,en,ho,hp,hq,hr⟩,⟨aL,aM,rfl,aW,eo,hs⟩,ht⟩
  have ep:=ChG.ext c5 aV iL
  refine pu (vp o 6) wN ?_
  have er:=(ek.ch aV (Ne.symm (nN (nL hgl (nT (z2 b a) j)))))
  refine sf (vs aL (a9).length aM) wN nG er ?_
  intro av aN es hu
  have et:=ChG.ext ep aN (fun k hk=>.inr (by subst hk;exact nT (z2 b a) j))
  refine mW<|mQ<|mP<|sr ?_
  refine lN [(vi (1+(f))),(vi (1+(a0))),(vs V (P).length W),(vs aa (R).length ab),(vi (M)),(vs aj (ac).length ak),(vs aL (a9).length aM),(vi 0),(vi 0),(vs none 0 0),(vs none 0 0)] wN nk mZ es ?_
  have aO:=nL K (nT a.size j)
  have eu:=(((((((((((((((((bn.ch a (Ne.symm (nN (nL hgl (l))))).kp i).ch d (nN aO)).ch e (fun h=>Or.elim h (Ne.symm (nN (nL hgl (l)))) (Nat.not_le.2 (nL K (z3 a i d))))).ch s (Ne.symm (nN (nL hgl (l))))).ch m (nN aO)).ch J (Ne.symm (nN (nL hgl (l))))).ch q (nN aO)).kp r).ch t (Ne.symm (nN (nL hgl (l))))).ch w (nN aO)).ch ai (Ne.symm (nN (nL hgl (l))))).ch S (nN aO)).ch ao (Ne.symm (nN (nL hgl (l))))).ch ap (nN aO)).ch aV (Ne.symm (nN (nL hgl (l))))).ch aN (nN aO))
  refine sv [(vi (1+(f))),(vi (1+(a0))),(vs V (P).length W),(vs aa (R).length ab),(vi (M)),(vs aj (ac).length ak),(vs aL (a9).length aM),(vi 0),(vi 0),(vs none 0 0),(vs none 0 0)] wN mZ eu ?_
  intro cp aX ew hv
  have c6:=ChG.ext et aX (fun k hk=>.inr (by subst hk;exact l))
  refine n3 ?_
  have aY:=nL Q (z2 d e)
  have ex:=(gc (gc (gc (gc (gc (gc (gc (gc (gc (mz (gc (gc (gc p m (ne1 p aY)) J (ne1 p (nL hgl (z5 b a i d e)))) q (ne1 p aY)) r) t (ne1 p (nL hgl (z5 b a i d e)))) w (ne1 p aY)) ai (ne1 p (nL hgl (z5 b a i d e)))) S (ne1 p aY)) ao (ne1 p (nL hgl (z5 b a i d e)))) ap (ne1 p aY)) aV (ne1 p (nL hgl (z5 b a i d e)))) aN (ne1 p aY)) aX (ne1 p (nL K (z4 a i d e))))
  have bl:=nL Q (z4 d e s m)
  have b0:=z7 b a i d e s m
  have ey:=(gc (gc (gc (gc (gc (gc (gc (gc (gc (mz (gc E q (ne1 E bl)) r) t (ne1 E (nL hgl b0))) w (ne1 E bl)) ai (ne1 E (nL hgl b0))) S (ne1 E bl)) ao (ne1 E (nL hgl b0))) ap (ne1 E bl)) aV (ne1 E (nL hgl b0))) aN (ne1 E bl)) aX (ne1 E (nL K (z6 a i d e s m))))
  have bI:=nL Q (z9 d e s m J q r t w)
  have ez:=(gc (gc (gc (gc (gc (gc ad S (ne1 ad bI)) ao (ne1 ad (nL hgl (z12 b a i d e s m J q r t w)))) ap (ne1 ad bI)) aV (ne1 ad (nL hgl (z12 b a i d e s m J q r t w)))) aN (ne1 ad bI)) aX (ne1 ad (nL K (z11 a i d e s m J q r t w))))
  have e0:=(gc (gc aW aN (ne1 aW (nL Q (nT (z12 d e s m J q r t w ai S ao) ap.size)))) aX (ne1 aW (nL K (t4 (z12 a i d e s m J q r t w ai) S.size ao.size ap.size))))
  refine rc [(vi (1+(f))),(vi (1+(a0))),(vs V (P).length W),(vs aa (R).length ab),(vi (M)),(vs aj (ac).length ak),(vs aL (a9).length aM),(vi 0),(vi 0),(vs none 0 0),(vs none 0 0)] ew nk mZ ?_
  have e1:=((en.ch aN (nN (nL hgl (nT (z2 b a) j)))).ch aX (nN (nL hgl (l))))
  exact ⟨{Kind:=(1+(f)),Id:=(1+(a0)),Cn:=(P),Sn:=(R),Tick:=(M),Cookie:=(ac),Proof:=(a9),Epoch:=0,Seq:=0,Body:=[],Tag:=[]:PFrame},c6,(cx e1 hcr c6 hcl hcn),⟨_,_,_,_,_,_,_,_,_,_,_,_,rfl,(mO ex (z5 b a i d e)),cv,(mO ey (z7 b a i d e s m)),cy,(mO ez (z12 b a i d e s m J q r t w)),c3,(mO e0 (t5 (z12 b a i d e s m J q r t w) ai.size S.size ao.size ap.size)),eo,(nM _ _ _ _),(by simp),(nM _ _ _ _),(by simp),⟨⟨(Ap.lt p E m.size),⟨(Ap.lt p ad (z6 m J q r t w)),⟨(Ap.lt p aW (z10 m J q r t w ai S ao ap)),⟨(Ap.nr _),⟨(Ap.nr _),trivial⟩⟩⟩⟩⟩,⟨⟨(Ap.lt E ad (z4 q r t w)),⟨(Ap.lt E aW (z8 q r t w ai S ao ap)),⟨(Ap.nr _),⟨(Ap.nr _),trivial⟩⟩⟩⟩,⟨⟨(Ap.lt ad aW (z3 S ao ap)),⟨(Ap.nr _),⟨(Ap.nr _),trivial⟩⟩⟩,⟨⟨(Ap.nr _),⟨(Ap.nr _),trivial⟩⟩,⟨⟨(Ap.nl _),trivial⟩,⟨trivial,trivial⟩⟩⟩⟩⟩⟩⟩,trivial⟩
 refine pu (vb (decide ((1+(f))=2))) wN ?_
 refine aw (vb (decide ((1+(f))=2))) ?_
 refine n2 ?_
 rcases bt (decide ((1+(f))=2)) with bm|bm
 ·have hw:=dT bm
  refine ct bm<|nm<|mP ?_
  have e2:=((b1.kp i).ch d (nN (nL hgl (nT (z2 b a) j))))
  exact oq [(0,(vp g 0)),(2,(vp ay 0)),(3,(vp o 0)),(52,(vb (decide ((1+(f))=2))))] ⟨rfl,rfl,rfl,rfl,trivial⟩ fun u=>bO _ _ ⟨decide ((1+(f))=2),u,rfl,aP,(Ch.refl (fun k=>k=g∨aA.heap.size≤k) aA),(cx e2 hcr aP hcl hcn)⟩
 have hx:=dF bm
 refine cf bm<|mV ?_
 refine pu (vb (decide ((1+(f))=3))) wN ?_
 refine aw (vb (decide ((1+(f))=3))) ?_
 refine n2 ?_
 have e3:=((b1.kp i).ch d (nN (nL hgl (nT (z2 b a) j))))
 exact oq [(0,(vp g 0)),(2,(vp ay 0)),(3,(vp o 0)),(52,(vb (decide ((1+(f))=3))))] ⟨rfl,rfl,rfl,rfl,trivial⟩ fun u=>bO _ _ ⟨decide ((1+(f))=3),u,rfl,aP,(Ch.refl (fun k=>k=g∨aA.heap.size≤k) aA),(cx e3 hcr aP hcl hcn)⟩

theorem Bm (ba:World) (g:Nat) (ca:Option Addr) (cc:Nat) (cb:List UInt8) (dj:ph ba g 110 ca cc cb) :Fn Tryz.prog 64 #[(vp g 0)] ba (fun v co=>∃ x:(PFrame),Ch (fun k=>k=g) ba co∧ph co g 110 ca cc cb∧CD co ba.heap.size v x∧(True)):=by
 obtain ⟨ci,chh,hcb,hcr,hcl,hci,hcn⟩:=dj
 have hgl:=Blk.lt hcb
 refine nu (n:=87) [(vp g 0)] Tryz.func64 rfl rfl ?_
 refine sr<|al vf wN pW ?_
 intro gF O j F a T
 have c3:=ChG.extk (Ch.refl (fun k=>k=g) ba) a
 refine nx<|mw (vp g 0) ?_
 have dk:=(hcb.kp a)
 refine cl wN (zW O g ca cc cb (cx dk hcr c3 hcl hcn)) ?_
 rintro _ P ⟨h,d,⟨gG,gH,dl,gI,gJ,gK,gL⟩,⟨m,p,q,r,s,t,u,w,y,A,B,C,rfl,I,Y,J,Z,K,aa,L,ab,M,ac,N,ad,b⟩,gM⟩
 have dm:=ChG.ext c3 d iL
 refine al vf wN pW ?_
 intro ae gN e aT D dn
 have dp:=ChG.extk dm D
 refine sv (oD (h) m p q r s t u w y A B C) wN mZ dn ?_
 intro dq l V gO
 have c4:=ChG.ext dp l (fun k hk=>.inr (by subst hk;exact nT (z2 a d) e))
 refine n4<|mw (vp g 0) ?_
 have dr:=((dl.kp D).ch l (nN (nL hgl (nT (z2 a d) e))))
 refine cl wN (ow dq g ca cc cb (cx dr hcr c4 hcl hcn) 22) ?_
 rintro _ ds ⟨H,i,⟨gP,gQ,W,gR,gS,gT,gU⟩,rfl,gV⟩
 have S:=ChG.ext c4 i iL
 refine mW<|mP<|ng<|sr<|pu (vb (decide ((H)=0))) wN ?_
 refine aw (vb (decide ((H)=0))) ?_
 refine n2 ?_
 rcases bt (decide ((H)=0)) with bb|bb
 ·have gW:=dT bb
  refine ct bb<|mV ?_
  refine mw (vp g 0) ?_
  refine cl wN (ow ds g ca cc cb (cx W hcr S hcl hcn) 11) ?_
  rintro _ Q ⟨ak,bH,⟨gX,gY,dt,gZ,ha,hb,hc⟩,rfl,hd⟩
  have du:=ChG.ext S bH iL
  refine ar ((ak) - 1) wN ?_
  refine pu (vp ae 0) wN ?_
  have dv:=((V.ch i (Ne.symm (nN (nL hgl (nT (z2 a d) e))))).ch bH (Ne.symm (nN (nL hgl (nT (z2 a d) e)))))
  refine sf (vi ((ak) - 1)) wN nV dv ?_
  intro R bI dw he
  have dx:=ChG.ext du bI (fun k hk=>.inr (by subst hk;exact nT (z2 a d) e))
  refine mW<|mQ<|mP<|sr ?_
  refine lN (oD {(h) with Kind:=((ak) - 1):PFrame} m p q r s t u w y A B C) wN nk mZ dw ?_
  have dy:=((((((T.ch d (Ne.symm (nN (nL hgl (j))))).kp D).ch l (nN (nL F (nT d.size e)))).ch i (Ne.symm (nN (nL hgl (j))))).ch bH (Ne.symm (nN (nL hgl (j))))).ch bI (nN (nL F (nT d.size e))))
  refine sv (oD {(h) with Kind:=((ak) - 1):PFrame} m p q r s t u w y A B C) wN mZ dy ?_
  intro aj cp dz hf
  have c5:=ChG.ext dx cp (fun k hk=>.inr (by subst hk;exact j))
  refine n3 ?_
  have aU:=fun (E sz n:Nat) (v:Value) (G:List Value) (o:World.ownsRow P O.heap.size E sz v n G) (f:World.ownsRow P O.heap.size E sz v n G)=>(gc (gc (gc (gc (gc (mz o D) l (ne2 f (e))) i (ne1 f (nL hgl a.size))) bH (ne1 f (nL hgl a.size))) bI (ne2 f (e))) cp (ne1 f (F)))
  have d0:=(aU _ _ _ _ _ I I)
  have d1:=(aU _ _ _ _ _ J J)
  have d2:=(aU _ _ _ _ _ K K)
  have d3:=(aU _ _ _ _ _ L L)
  have d4:=(aU _ _ _ _ _ M M)
  have d5:=(aU _ _ _ _ _ N N)
  refine rc (oD {(h) with Kind:=((ak) - 1):PFrame} m p q r s t u w y A B C) dz nk mZ ?_
  have d6:=((dt.ch bI (nN (nL hgl (nT (z2 a d) e)))).ch cp (nN (nL hgl (j))))
  exact ⟨{(h) with Kind:=((ak) - 1):PFrame},c5,(cx d6 hcr c5 hcl hcn),⟨_,_,_,_,_,_,_,_,_,_,_,_,rfl,(mO d0 a.size),Y,(mO d1 a.size),Z,(mO d2 a.size),aa,(mO d3 a.size),ab,(mO d4 a.size),ac,(mO d5 a.size),ad,⟨⟨(b.1.1),⟨(b.1.2.1),⟨(b.1.2.2.1),⟨(b.1.2.2.2.1),⟨(b.1.2.2.2.2.1),trivial⟩⟩⟩⟩⟩,⟨⟨(b.2.1.1),⟨(b.2.1.2.1),⟨(b.2.1.2.2.1),⟨(b.2.1.2.2.2.1),trivial⟩⟩⟩⟩,⟨⟨(b.2.2.1.1),⟨(b.2.2.1.2.1),⟨(b.2.2.1.2.2.1),trivial⟩⟩⟩,⟨⟨(b.2.2.2.1.1),⟨(b.2.2.2.1.2.1),trivial⟩⟩,⟨⟨(b.2.2.2.2.1.1),trivial⟩,⟨trivial,trivial⟩⟩⟩⟩⟩⟩⟩,trivial⟩
 have hg:=dF bb
 refine cf bb<|sr<|pu (vb (decide ((H)=1))) wN ?_
 refine aw (vb (decide ((H)=1))) ?_
 refine n2 ?_
 rcases bt (decide ((H)=1)) with bc|bc
 ·have hh:=dT bc
  refine ct bc<|mV ?_
  refine mw (vp g 0) ?_
  refine ltI ([0,1,10,(-1)]:List Int) wN nf ?_
  intro hi hj Q bd c6
  have c7:=ChG.extk S bd
  have d7:=(W.kp bd)
  refine cl wN (oz Q g ca cc cb (cx d7 hcr c7 hcl hcn) _ ([0,1,10,(-1)]:List Int) ⟨_,_,rfl,(Rd.of_own c6),(by simp),(fun _ z hz=>by have am:=(nb c6 z.block (by rw [hz];rfl)).1;have an:=nL hgl (z5 a d D l i);omega)⟩ (by simp)) ?_
  rintro _ R ⟨X,bJ,⟨hl,hm,d8,hn,ho,hp,hq⟩,rfl,d9⟩
  have dA:=ChG.ext c7 bJ iL
  have q115m:X=0∨X=1∨X=10∨X=(-1):=by simpa using d9
  refine pu (vp ae 1) wN ?_
  have dB:=(((V.ch i (Ne.symm (nN (nL hgl (nT (z2 a d) e))))).kp bd).ch bJ (Ne.symm (nN (nL hgl (nT (z2 a d) e)))))
  refine sf (vi (X)) wN nV dB ?_
  intro aj bK dC hr
  have dD:=ChG.ext dA bK (fun k hk=>.inr (by subst hk;exact nT (z2 a d) e))
  refine mW<|mQ<|mP<|sr ?_
  refine lN (oD {(h) with Id:=(X):PFrame} m p q r s t u w y A B C) wN nk mZ dC ?_
  have dE:=(((((((T.ch d (Ne.symm (nN (nL hgl (j))))).kp D).ch l (nN (nL F (nT d.size e)))).ch i (Ne.symm (nN (nL hgl (j))))).kp bd).ch bJ (Ne.symm (nN (nL hgl (j))))).ch bK (nN (nL F (nT d.size e))))
  refine sv (oD {(h) with Id:=(X):PFrame} m p q r s t u w y A B C) wN mZ dE ?_
  intro ao cq dG hs
  have c8:=ChG.ext dD cq (fun k hk=>.inr (by subst hk;exact j))
  refine n3 ?_
  have aV:=fun (E sz n:Nat) (v:Value) (G:List Value) (o:World.ownsRow P O.heap.size E sz v n G) (f:World.ownsRow P O.heap.size E sz v n G)=>(gc (gc (gc (mz (gc (gc (mz o D) l (ne2 f (e))) i (ne1 f (nL hgl a.size))) bd) bJ (ne1 f (nL hgl a.size))) bK (ne2 f (e))) cq (ne1 f (F)))
  have dH:=(aV _ _ _ _ _ I I)
  have dI:=(aV _ _ _ _ _ J J)
  have dJ:=(aV _ _ _ _ _ K K)
  have dK:=(aV _ _ _ _ _ L L)
  have dL:=(aV _ _ _ _ _ M M)
  have dM:=(aV _ _ _ _ _ N N)
  refine rc (oD {(h) with Id:=(X):PFrame} m p q r s t u w y A B C) dG nk mZ ?_
  have dN:=((d8.ch bK (nN (nL hgl (nT (z2 a d) e)))).ch cq (nN (nL hgl (j))))
  exact ⟨{(h) with Id:=(X):PFrame},c8,(cx dN hcr c8 hcl hcn),⟨_,_,_,_,_,_,_,_,_,_,_,_,rfl,(mO dH a.size),Y,(mO dI a.size),Z,(mO dJ a.size),aa,(mO dK a.size),ab,(mO dL a.size),ac,(mO dM a.size),ad,⟨⟨(b.1.1),⟨(b.1.2.1),⟨(b.1.2.2.1),⟨(b.1.2.2.2.1),⟨(b.1.2.2.2.2.1),trivial⟩⟩⟩⟩⟩,⟨⟨(b.2.1.1),⟨(b.2.1.2.1),⟨(b.2.1.2.2.1),⟨(b.2.1.2.2.2.1),trivial⟩⟩⟩⟩,⟨⟨(b.2.2.1.1),⟨(b.2.2.1.2.1),⟨(b.2.2.1.2.2.1),trivial⟩⟩⟩,⟨⟨(b.2.2.2.1.1),⟨(b.2.2.2.1.2.1),trivial⟩⟩,⟨⟨(b.2.2.2.2.1.1),trivial⟩,⟨trivial,trivial⟩⟩⟩⟩⟩⟩⟩,trivial⟩
 have ht:=dF bc
 refine cf bc<|sr<|pu (vb (decide ((H)=2))) wN ?_
 refine aw (vb (decide ((H)=2))) ?_
 refine n2 ?_
 rcases bt (decide ((H)=2)) with be|be
 ·have hu:=dT be
  refine ct be<|mV ?_
  refine mw (vp g 0) ?_
  refine mw (vp g 0) ?_
  refine ltI ([0,11,12,13]:List Int) wN nf ?_
  intro hv hw Q ap c9
  have cC:=ChG.extk S ap
  have dO:=(W.kp ap)
  refine cl wN (oz Q g ca cc cb (cx dO hcr cC hcl hcn) _ ([0,11,12,13]:List Int) ⟨_,_,rfl,(Rd.of_own c9),(by simp),(fun _ z hz=>by have am:=(nb c9 z.block (by rw [hz];rfl)).1;have an:=nL hgl (z5 a d D l i);omega)⟩ (by simp)) ?_
  rintro _ R ⟨bg,az,⟨hx,hy,dP,h0,h1,h2,h3⟩,rfl,dQ⟩
  have cD:=ChG.ext cC az iL
  have q154m:bg=0∨bg=11∨bg=12∨bg=13:=by simpa using dQ
  refine cl wN (oC R g ca cc cb (cx dP hcr cD hcl hcn) (bg) (by omega)) ?_
  rintro _ aj ⟨a0,bL,⟨h4,h5,dR,h6,h7,h8,h9⟩,⟨aH,aI,rfl,a1,dS,hA⟩,hB⟩
  have dU:=ChG.ext cD bL iL
  refine pu (vp ae 2) wN ?_
  have cr:=nT (z2 a d) e
  have dV:=((((V.ch i (Ne.symm (nN (nL hgl cr)))).kp ap).ch az (Ne.symm (nN (nL hgl cr)))).ch bL (Ne.symm (nN (nL hgl cr))))
  refine sf (vs aH (a0).length aI) wN nG dV ?_
  intro ao bh dW hC
  have dX:=ChG.ext dU bh (fun k hk=>.inr (by subst hk;exact nT (z2 a d) e))
  refine mW<|mQ<|mP<|sr ?_
  refine lN (oD {(h) with Cn:=(a0):PFrame} aH aI q r s t u w y A B C) wN nk mZ dW ?_
  have dY:=((((((((T.ch d (Ne.symm (nN (nL hgl (j))))).kp D).ch l (nN (nL F (nT d.size e)))).ch i (Ne.symm (nN (nL hgl (j))))).kp ap).ch az (Ne.symm (nN (nL hgl (j))))).ch bL (Ne.symm (nN (nL hgl (j))))).ch bh (nN (nL F (nT d.size e))))
  refine sv (oD {(h) with Cn:=(a0):PFrame} aH aI q r s t u w y A B C) wN mZ dY ?_
  intro bi bM dZ hD
  have cE:=ChG.ext dX bM (fun k hk=>.inr (by subst hk;exact j))
  refine n3 ?_
  have ea:=(gc (gc a1 bh (ne1 a1 (nL aT (z4 l i ap az)))) bM (ne1 a1 (nL F (z6 d D l i ap az))))
  have bj:=fun (E sz n:Nat) (v:Value) (G:List Value) (o:World.ownsRow P O.heap.size E sz v n G) (f:World.ownsRow P O.heap.size E sz v n G)=>(gc (gc (gc (gc (mz (gc (gc (mz o D) l (ne2 f (e))) i (ne1 f (nL hgl a.size))) ap) az (ne1 f (nL hgl a.size))) bL (ne1 f (nL hgl a.size))) bh (ne2 f (e))) bM (ne1 f (F)))
  have ec:=(bj _ _ _ _ _ J J)
  have ed:=(bj _ _ _ _ _ K K)
  have ee:=(bj _ _ _ _ _ L L)
  have ef:=(bj _ _ _ _ _ M M)
  have eg:=(bj _ _ _ _ _ N N)
  refine rc (oD {(h) with Cn:=(a0):PFrame} aH aI q r s t u w y A B C) dZ nk mZ ?_
  have eh:=((dR.ch bh (nN (nL hgl (nT (z2 a d) e)))).ch bM (nN (nL hgl (j))))
  have bk:=z5 D l i ap az
  exact ⟨{(h) with Cn:=(a0):PFrame},cE,(cx eh hcr cE hcl hcn),⟨_,_,_,_,_,_,_,_,_,_,_,_,rfl,(mO ea (z7 a d D l i ap az)),dS,(mO ec a.size),Z,(mO ed a.size),aa,(mO ee a.size),ab,(mO ef a.size),ac,(mO eg a.size),ad,⟨⟨(Ap.lt J a1 bk).symm,⟨(Ap.lt K a1 bk).symm,⟨(Ap.lt L a1 bk).symm,⟨(Ap.lt M a1 bk).symm,⟨(Ap.lt N a1 bk).symm,trivial⟩⟩⟩⟩⟩,⟨⟨(b.2.1.1),⟨(b.2.1.2.1),⟨(b.2.1.2.2.1),⟨(b.2.1.2.2.2.1),trivial⟩⟩⟩⟩,⟨⟨(b.2.2.1.1),⟨(b.2.2.1.2.1),⟨(b.2.2.1.2.2.1),trivial⟩⟩⟩,⟨⟨(b.2.2.2.1.1),⟨(b.2.2.2.1.2.1),trivial⟩⟩,⟨⟨(b.2.2.2.2.1.1),trivial⟩,⟨trivial,trivial⟩⟩⟩⟩⟩⟩⟩,trivial⟩
 have hF:=dF be
 refine cf be<|sr<|pu (vb (decide ((H)=3))) wN ?_
 refine aw (vb (decide ((H)=3))) ?_
 refine n2 ?_
 rcases bt (decide ((H)=3)) with bl|bl
 ·have hG:=dT bl
  refine ct bl<|mV ?_
  refine mw (vp g 0) ?_
  refine mw (vp g 0) ?_
  refine ltI ([0,11,12,13]:List Int) wN nf ?_
  intro hH hI Q aq cF
  have cG:=ChG.extk S aq
  have ej:=(W.kp aq)
  refine cl wN (oz Q g ca cc cb (cx ej hcr cG hcl hcn) _ ([0,11,12,13]:List Int) ⟨_,_,rfl,(Rd.of_own cF),(by simp),(fun _ z hz=>by have am:=(nb cF z.block (by rw [hz];rfl)).1;have an:=nL hgl (z5 a d D l i);omega)⟩ (by simp)) ?_
  rintro _ R ⟨bm,a2,⟨hJ,hK,ek,hL,hM,hN,hO⟩,rfl,em⟩
  have cH:=ChG.ext cG a2 iL
  have q210m:bm=0∨bm=11∨bm=12∨bm=13:=by simpa using em
  refine cl wN (oC R g ca cc cb (cx ek hcr cH hcl hcn) (bm) (by omega)) ?_
  rintro _ aj ⟨a3,bN,⟨hP,hQ,en,hR,hS,hT,hU⟩,⟨aJ,aK,rfl,a4,eo,hW⟩,hX⟩
  have ep:=ChG.ext cH bN iL
  refine pu (vp ae 3) wN ?_
  have cs:=nT (z2 a d) e
  have er:=((((V.ch i (Ne.symm (nN (nL hgl cs)))).kp aq).ch a2 (Ne.symm (nN (nL hgl cs)))).ch bN (Ne.symm (nN (nL hgl cs))))
  refine sf (vs aJ (a3).length aK) wN nG er ?_
  intro ao bn es hY
  have et:=ChG.ext ep bn (fun k hk=>.inr (by subst hk;exact nT (z2 a d) e))
  refine mW<|mQ<|mP<|sr ?_
  refine lN (oD {(h) with Sn:=(a3):PFrame} m p aJ aK s t u w y A B C) wN nk mZ es ?_
  have eu:=((((((((T.ch d (Ne.symm (nN (nL hgl (j))))).kp D).ch l (nN (nL F (nT d.size e)))).ch i (Ne.symm (nN (nL hgl (j))))).kp aq).ch a2 (Ne.symm (nN (nL hgl (j))))).ch bN (Ne.symm (nN (nL hgl (j))))).ch bn (nN (nL F (nT d.size e))))
  refine sv (oD {(h) with Sn:=(a3):PFrame} m p aJ aK s t u w y A B C) wN mZ eu ?_
  intro bi bO ew hZ
  have cI:=ChG.ext et bO (fun k hk=>.inr (by subst hk;exact j))
  refine n3 ?_
  have bo:=fun (E sz n:Nat) (v:Value) (G:List Value) (o:World.ownsRow P O.heap.size E sz v n G) (f:World.ownsRow P O.heap.size E sz v n G)=>(gc (gc (gc (gc (mz (gc (gc (mz o D) l (ne2 f (e))) i (ne1 f (nL hgl a.size))) aq) a2 (ne1 f (nL hgl a.size))) bN (ne1 f (nL hgl a.size))) bn (ne2 f (e))) bO (ne1 f (F)))
  have ex:=(bo _ _ _ _ _ I I)
  have ey:=(gc (gc a4 bn (ne1 a4 (nL aT (z4 l i aq a2)))) bO (ne1 a4 (nL F (z6 d D l i aq a2))))
  have ez:=(bo _ _ _ _ _ K K)
  have e0:=(bo _ _ _ _ _ L L)
  have e1:=(bo _ _ _ _ _ M M)
  have e2:=(bo _ _ _ _ _ N N)
  refine rc (oD {(h) with Sn:=(a3):PFrame} m p aJ aK s t u w y A B C) ew nk mZ ?_
  have e3:=((en.ch bn (nN (nL hgl (nT (z2 a d) e)))).ch bO (nN (nL hgl (j))))
  have bp:=z5 D l i aq a2
  exact ⟨{(h) with Sn:=(a3):PFrame},cI,(cx e3 hcr cI hcl hcn),⟨_,_,_,_,_,_,_,_,_,_,_,_,rfl,(mO ex a.size),Y,(mO ey (z7 a d D l i aq a2)),eo,(mO ez a.size),aa,(mO e0 a.size),ab,(mO e1 a.size),ac,(mO e2 a.size),ad,⟨⟨(Ap.lt I a4 bp),⟨(b.1.2.1),⟨(b.1.2.2.1),⟨(b.1.2.2.2.1),⟨(b.1.2.2.2.2.1),trivial⟩⟩⟩⟩⟩,⟨⟨(Ap.lt K a4 bp).symm,⟨(Ap.lt L a4 bp).symm,⟨(Ap.lt M a4 bp).symm,⟨(Ap.lt N a4 bp).symm,trivial⟩⟩⟩⟩,⟨⟨(b.2.2.1.1),⟨(b.2.2.1.2.1),⟨(b.2.2.1.2.2.1),trivial⟩⟩⟩,⟨⟨(b.2.2.2.1.1),⟨(b.2.2.2.1.2.1),trivial⟩⟩,⟨⟨(b.2.2.2.2.1.1),trivial⟩,⟨trivial,trivial⟩⟩⟩⟩⟩⟩⟩,trivial⟩
 have ia:=dF bl
 refine cf bl<|sr<|pu (vb (decide ((H)=4))) wN ?_
 refine aw (vb (decide ((H)=4))) ?_
 refine n2 ?_
 rcases bt (decide ((H)=4)) with bq|bq
 ·have ib:=dT bq
  refine ct bq<|mV ?_
  refine mw (vp g 0) ?_
  refine ltI ([(-1),0,1000001]:List Int) wN nf ?_
  intro ic ie Q br cJ
  have cK:=ChG.extk S br
  have e4:=(W.kp br)
  refine cl wN (oz Q g ca cc cb (cx e4 hcr cK hcl hcn) _ ([(-1),0,1000001]:List Int) ⟨_,_,rfl,(Rd.of_own cJ),(by simp),(fun _ z hz=>by have am:=(nb cJ z.block (by rw [hz];rfl)).1;have an:=nL hgl (z5 a d D l i);omega)⟩ (by simp)) ?_
  rintro _ R ⟨af,bP,⟨ig,ih,e5,ii,ij,ik,il⟩,rfl,e6⟩
  have e7:=ChG.ext cK bP iL
  have q266m:af=(-1)∨af=0∨af=1000001:=by simpa using e6
  refine pu (vp ae 4) wN ?_
  have e8:=(((V.ch i (Ne.symm (nN (nL hgl (nT (z2 a d) e))))).kp br).ch bP (Ne.symm (nN (nL hgl (nT (z2 a d) e)))))
  refine sf (vi (af)) wN nV e8 ?_
  intro aj bQ e9 im
  have eA:=ChG.ext e7 bQ (fun k hk=>.inr (by subst hk;exact nT (z2 a d) e))
  refine mW<|mQ<|mP<|sr ?_
  refine lN (oD {(h) with Tick:=(af):PFrame} m p q r s t u w y A B C) wN nk mZ e9 ?_
  have eB:=(((((((T.ch d (Ne.symm (nN (nL hgl (j))))).kp D).ch l (nN (nL F (nT d.size e)))).ch i (Ne.symm (nN (nL hgl (j))))).kp br).ch bP (Ne.symm (nN (nL hgl (j))))).ch bQ (nN (nL F (nT d.size e))))
  refine sv (oD {(h) with Tick:=(af):PFrame} m p q r s t u w y A B C) wN mZ eB ?_
  intro ao cu eC io
  have cL:=ChG.ext eA cu (fun k hk=>.inr (by subst hk;exact j))
  refine n3 ?_
  have aW:=fun (E sz n:Nat) (v:Value) (G:List Value) (o:World.ownsRow P O.heap.size E sz v n G) (f:World.ownsRow P O.heap.size E sz v n G)=>(gc (gc (gc (mz (gc (gc (mz o D) l (ne2 f (e))) i (ne1 f (nL hgl a.size))) br) bP (ne1 f (nL hgl a.size))) bQ (ne2 f (e))) cu (ne1 f (F)))
  have eD:=(aW _ _ _ _ _ I I)
  have eE:=(aW _ _ _ _ _ J J)
  have eF:=(aW _ _ _ _ _ K K)
  have eG:=(aW _ _ _ _ _ L L)
  have eH:=(aW _ _ _ _ _ M M)
  have eI:=(aW _ _ _ _ _ N N)
  refine rc (oD {(h) with Tick:=(af):PFrame} m p q r s t u w y A B C) eC nk mZ ?_
  have eJ:=((e5.ch bQ (nN (nL hgl (nT (z2 a d) e)))).ch cu (nN (nL hgl (j))))
  exact ⟨{(h) with Tick:=(af):PFrame},cL,(cx eJ hcr cL hcl hcn),⟨_,_,_,_,_,_,_,_,_,_,_,_,rfl,(mO eD a.size),Y,(mO eE a.size),Z,(mO eF a.size),aa,(mO eG a.size),ab,(mO eH a.size),ac,(mO eI a.size),ad,⟨⟨(b.1.1),⟨(b.1.2.1),⟨(b.1.2.2.1),⟨(b.1.2.2.2.1),⟨(b.1.2.2.2.2.1),trivial⟩⟩⟩⟩⟩,⟨⟨(b.2.1.1),⟨(b.2.1.2.1),⟨(b.2.1.2.2.1),⟨(b.2.1.2.2.2.1),trivial⟩⟩⟩⟩,⟨⟨(b.2.2.1.1),⟨(b.2.2.1.2.1),⟨(b.2.2.1.2.2.1),trivial⟩⟩⟩,⟨⟨(b.2.2.2.1.1),⟨(b.2.2.2.1.2.1),trivial⟩⟩,⟨⟨(b.2.2.2.2.1.1),trivial⟩,⟨trivial,trivial⟩⟩⟩⟩⟩⟩⟩,trivial⟩
 have ip:=dF bq
 refine cf bq<|sr<|pu (vb (decide ((H)=5))) wN ?_
 refine aw (vb (decide ((H)=5))) ?_
 refine n2 ?_
 rcases bt (decide ((H)=5)) with bu|bu
 ·have iq:=dT bu
  refine ct bu<|mV ?_
  refine mw (vp g 0) ?_
  refine mw (vp g 0) ?_
  refine ltI ([0,15,16]:List Int) wN nf ?_
  intro ir it Q au cM
  have cN:=ChG.extk S au
  have eK:=(W.kp au)
  refine cl wN (oz Q g ca cc cb (cx eK hcr cN hcl hcn) _ ([0,15,16]:List Int) ⟨_,_,rfl,(Rd.of_own cM),(by simp),(fun _ z hz=>by have am:=(nb cM z.block (by rw [hz];rfl)).1;have an:=nL hgl (z5 a d D l i);omega)⟩ (by simp)) ?_
  rintro _ R ⟨bR,a5,⟨iu,iv,eL,iw,iy,iz,i0⟩,rfl,eM⟩
  have cO:=ChG.ext cN a5 iL
  have q305m:bR=0∨bR=15∨bR=16:=by simpa using eM
  refine cl wN (oC R g ca cc cb (cx eL hcr cO hcl hcn) (bR) (by omega)) ?_
  rintro _ aj ⟨a6,bS,⟨i1,i2,eN,i3,i4,i5,i6⟩,⟨aL,aM,rfl,a7,eO,i7⟩,i8⟩
  have eP:=ChG.ext cO bS iL
  refine pu (vp ae 5) wN ?_
  have cv:=nT (z2 a d) e
  have eQ:=((((V.ch i (Ne.symm (nN (nL hgl cv)))).kp au).ch a5 (Ne.symm (nN (nL hgl cv)))).ch bS (Ne.symm (nN (nL hgl cv))))
  refine sf (vs aL (a6).length aM) wN nG eQ ?_
  intro ao bv eR i9
  have eS:=ChG.ext eP bv (fun k hk=>.inr (by subst hk;exact nT (z2 a d) e))
  refine mW<|mQ<|mP<|sr ?_
  refine lN (oD {(h) with Cookie:=(a6):PFrame} m p q r aL aM u w y A B C) wN nk mZ eR ?_
  have eT:=((((((((T.ch d (Ne.symm (nN (nL hgl (j))))).kp D).ch l (nN (nL F (nT d.size e)))).ch i (Ne.symm (nN (nL hgl (j))))).kp au).ch a5 (Ne.symm (nN (nL hgl (j))))).ch bS (Ne.symm (nN (nL hgl (j))))).ch bv (nN (nL F (nT d.size e))))
  refine sv (oD {(h) with Cookie:=(a6):PFrame} m p q r aL aM u w y A B C) wN mZ eT ?_
  intro bi bT eU iA
  have cP:=ChG.ext eS bT (fun k hk=>.inr (by subst hk;exact j))
  refine n3 ?_
  have bw:=fun (E sz n:Nat) (v:Value) (G:List Value) (o:World.ownsRow P O.heap.size E sz v n G) (f:World.ownsRow P O.heap.size E sz v n G)=>(gc (gc (gc (gc (mz (gc (gc (mz o D) l (ne2 f (e))) i (ne1 f (nL hgl a.size))) au) a5 (ne1 f (nL hgl a.size))) bS (ne1 f (nL hgl a.size))) bv (ne2 f (e))) bT (ne1 f (F)))
  have eV:=(bw _ _ _ _ _ I I)
  have eW:=(bw _ _ _ _ _ J J)
  have eX:=(gc (gc a7 bv (ne1 a7 (nL aT (z4 l i au a5)))) bT (ne1 a7 (nL F (z6 d D l i au a5))))
  have eY:=(bw _ _ _ _ _ L L)
  have eZ:=(bw _ _ _ _ _ M M)
  have fa:=(bw _ _ _ _ _ N N)
  refine rc (oD {(h) with Cookie:=(a6):PFrame} m p q r aL aM u w y A B C) eU nk mZ ?_
  have fb:=((eN.ch bv (nN (nL hgl (nT (z2 a d) e)))).ch bT (nN (nL hgl (j))))
  have bz:=z5 D l i au a5
  exact ⟨{(h) with Cookie:=(a6):PFrame},cP,(cx fb hcr cP hcl hcn),⟨_,_,_,_,_,_,_,_,_,_,_,_,rfl,(mO eV a.size),Y,(mO eW a.size),Z,(mO eX (z7 a d D l i au a5)),eO,(mO eY a.size),ab,(mO eZ a.size),ac,(mO fa a.size),ad,⟨⟨(b.1.1),⟨(Ap.lt I a7 bz),⟨(b.1.2.2.1),⟨(b.1.2.2.2.1),⟨(b.1.2.2.2.2.1),trivial⟩⟩⟩⟩⟩,⟨⟨(Ap.lt J a7 bz),⟨(b.2.1.2.1),⟨(b.2.1.2.2.1),⟨(b.2.1.2.2.2.1),trivial⟩⟩⟩⟩,⟨⟨(Ap.lt L a7 bz).symm,⟨(Ap.lt M a7 bz).symm,⟨(Ap.lt N a7 bz).symm,trivial⟩⟩⟩,⟨⟨(b.2.2.2.1.1),⟨(b.2.2.2.1.2.1),trivial⟩⟩,⟨⟨(b.2.2.2.2.1.1),trivial⟩,⟨trivial,trivial⟩⟩⟩⟩⟩⟩⟩,trivial⟩
 have iB:=dF bu
 refine cf bu<|sr<|pu (vb (decide ((H)=6))) wN ?_
 refine aw (vb (decide ((H)=6))) ?_
 refine n2 ?_
 rcases bt (decide ((H)=6)) with b0|b0
 ·have iC:=dT b0
  refine ct b0<|mV ?_
  refine mw (vp g 0) ?_
  refine mw (vp g 0) ?_
  refine ltI ([0,15,16]:List Int) wN nf ?_
  intro iD iE Q av cQ
  have cR:=ChG.extk S av
  have fc:=(W.kp av)
  refine cl wN (oz Q g ca cc cb (cx fc hcr cR hcl hcn) _ ([0,15,16]:List Int) ⟨_,_,rfl,(Rd.of_own cQ),(by simp),(fun _ z hz=>by have am:=(nb cQ z.block (by rw [hz];rfl)).1;have an:=nL hgl (z5 a d D l i);omega)⟩ (by simp)) ?_
  rintro _ R ⟨bU,a8,⟨iF,iG,fd,iH,iI,iJ,iK⟩,rfl,fe⟩
  have cS:=ChG.ext cR a8 iL
  have q361m:bU=0∨bU=15∨bU=16:=by simpa using fe
  refine cl wN (oC R g ca cc cb (cx fd hcr cS hcl hcn) (bU) (by omega)) ?_
  rintro _ aj ⟨a9,bW,⟨iM,iN,ff,iO,iP,iQ,iR⟩,⟨aN,aO,rfl,aA,fg,iS⟩,iT⟩
  have fh:=ChG.ext cS bW iL
  refine pu (vp ae 6) wN ?_
  have cw:=nT (z2 a d) e
  have fi:=((((V.ch i (Ne.symm (nN (nL hgl cw)))).kp av).ch a8 (Ne.symm (nN (nL hgl cw)))).ch bW (Ne.symm (nN (nL hgl cw))))
  refine sf (vs aN (a9).length aO) wN nG fi ?_
  intro ao b1 fj iU
  have fk:=ChG.ext fh b1 (fun k hk=>.inr (by subst hk;exact nT (z2 a d) e))
  refine mW<|mQ<|mP<|sr ?_
  refine lN (oD {(h) with Proof:=(a9):PFrame} m p q r s t aN aO y A B C) wN nk mZ fj ?_
  have fl:=((((((((T.ch d (Ne.symm (nN (nL hgl (j))))).kp D).ch l (nN (nL F (nT d.size e)))).ch i (Ne.symm (nN (nL hgl (j))))).kp av).ch a8 (Ne.symm (nN (nL hgl (j))))).ch bW (Ne.symm (nN (nL hgl (j))))).ch b1 (nN (nL F (nT d.size e))))
  refine sv (oD {(h) with Proof:=(a9):PFrame} m p q r s t aN aO y A B C) wN mZ fl ?_
  intro bi bX fm iW
  have cT:=ChG.ext fk bX (fun k hk=>.inr (by subst hk;exact j))
  refine n3 ?_
  have b2:=fun (E sz n:Nat) (v:Value) (G:List Value) (o:World.ownsRow P O.heap.size E sz v n G) (f:World.ownsRow P O.heap.size E sz v n G)=>(gc (gc (gc (gc (mz (gc (gc (mz o D) l (ne2 f (e))) i (ne1 f (nL hgl a.size))) av) a8 (ne1 f (nL hgl a.size))) bW (ne1 f (nL hgl a.size))) b1 (ne2 f (e))) bX (ne1 f (F)))
  have fo:=(b2 _ _ _ _ _ I I)
  have fp:=(b2 _ _ _ _ _ J J)
  have fq:=(b2 _ _ _ _ _ K K)
  have fr:=(gc (gc aA b1 (ne1 aA (nL aT (z4 l i av a8)))) bX (ne1 aA (nL F (z6 d D l i av a8))))
  have fs:=(b2 _ _ _ _ _ M M)
  have ft:=(b2 _ _ _ _ _ N N)
  refine rc (oD {(h) with Proof:=(a9):PFrame} m p q r s t aN aO y A B C) fm nk mZ ?_
  have fu:=((ff.ch b1 (nN (nL hgl (nT (z2 a d) e)))).ch bX (nN (nL hgl (j))))
  have b3:=z5 D l i av a8
  exact ⟨{(h) with Proof:=(a9):PFrame},cT,(cx fu hcr cT hcl hcn),⟨_,_,_,_,_,_,_,_,_,_,_,_,rfl,(mO fo a.size),Y,(mO fp a.size),Z,(mO fq a.size),aa,(mO fr (z7 a d D l i av a8)),fg,(mO fs a.size),ac,(mO ft a.size),ad,⟨⟨(b.1.1),⟨(b.1.2.1),⟨(Ap.lt I aA b3),⟨(b.1.2.2.2.1),⟨(b.1.2.2.2.2.1),trivial⟩⟩⟩⟩⟩,⟨⟨(b.2.1.1),⟨(Ap.lt J aA b3),⟨(b.2.1.2.2.1),⟨(b.2.1.2.2.2.1),trivial⟩⟩⟩⟩,⟨⟨(Ap.lt K aA b3),⟨(b.2.2.1.2.1),⟨(b.2.2.1.2.2.1),trivial⟩⟩⟩,⟨⟨(Ap.lt M aA b3).symm,⟨(Ap.lt N aA b3).symm,trivial⟩⟩,⟨⟨(b.2.2.2.2.1.1),trivial⟩,⟨trivial,trivial⟩⟩⟩⟩⟩⟩⟩,trivial⟩
 have iX:=dF b0
 refine cf b0<|sr<|pu (vb (decide ((H)=7))) wN ?_
 refine aw (vb (decide ((H)=7))) ?_
 refine n2 ?_
 rcases bt (decide ((H)=7)) with b4|b4
 ·have iY:=dT b4
  refine ct b4<|mV ?_
  refine mw (vp g 0) ?_
  refine ltI ([(-1),0,4294967296]:List Int) wN nf ?_
  intro iZ ja Q b5 cU
  have cV:=ChG.extk S b5
  have fv:=(W.kp b5)
  refine cl wN (oz Q g ca cc cb (cx fv hcr cV hcl hcn) _ ([(-1),0,4294967296]:List Int) ⟨_,_,rfl,(Rd.of_own cU),(by simp),(fun _ z hz=>by have am:=(nb cU z.block (by rw [hz];rfl)).1;have an:=nL hgl (z5 a d D l i);omega)⟩ (by simp)) ?_
  rintro _ R ⟨ah,bY,⟨jb,jc,fw,jd,je,jf,jg⟩,rfl,fx⟩
  have fy:=ChG.ext cV bY iL
  have q417m:ah=(-1)∨ah=0∨ah=4294967296:=by simpa using fx
  refine pu (vp ae 7) wN ?_
  have fz:=(((V.ch i (Ne.symm (nN (nL hgl (nT (z2 a d) e))))).kp b5).ch bY (Ne.symm (nN (nL hgl (nT (z2 a d) e)))))
  refine sf (vi (ah)) wN nV fz ?_
  intro aj bZ f0 jh
  have f3:=ChG.ext fy bZ (fun k hk=>.inr (by subst hk;exact nT (z2 a d) e))
  refine mW<|mQ<|mP<|sr ?_
  refine lN (oD {(h) with Epoch:=(ah):PFrame} m p q r s t u w y A B C) wN nk mZ f0 ?_
  have f4:=(((((((T.ch d (Ne.symm (nN (nL hgl (j))))).kp D).ch l (nN (nL F (nT d.size e)))).ch i (Ne.symm (nN (nL hgl (j))))).kp b5).ch bY (Ne.symm (nN (nL hgl (j))))).ch bZ (nN (nL F (nT d.size e))))
  refine sv (oD {(h) with Epoch:=(ah):PFrame} m p q r s t u w y A B C) wN mZ f4 ?_
  intro ao cy f5 ji
  have cW:=ChG.ext f3 cy (fun k hk=>.inr (by subst hk;exact j))
  refine n3 ?_
  have aX:=fun (E sz n:Nat) (v:Value) (G:List Value) (o:World.ownsRow P O.heap.size E sz v n G) (f:World.ownsRow P O.heap.size E sz v n G)=>(gc (gc (gc (mz (gc (gc (mz o D) l (ne2 f (e))) i (ne1 f (nL hgl a.size))) b5) bY (ne1 f (nL hgl a.size))) bZ (ne2 f (e))) cy (ne1 f (F)))
  have f6:=(aX _ _ _ _ _ I I)
  have f7:=(aX _ _ _ _ _ J J)
  have f8:=(aX _ _ _ _ _ K K)
  have f9:=(aX _ _ _ _ _ L L)
  have fA:=(aX _ _ _ _ _ M M)
  have fB:=(aX _ _ _ _ _ N N)
  refine rc (oD {(h) with Epoch:=(ah):PFrame} m p q r s t u w y A B C) f5 nk mZ ?_
  have fC:=((fw.ch bZ (nN (nL hgl (nT (z2 a d) e)))).ch cy (nN (nL hgl (j))))
  exact ⟨{(h) with Epoch:=(ah):PFrame},cW,(cx fC hcr cW hcl hcn),⟨_,_,_,_,_,_,_,_,_,_,_,_,rfl,(mO f6 a.size),Y,(mO f7 a.size),Z,(mO f8 a.size),aa,(mO f9 a.size),ab,(mO fA a.size),ac,(mO fB a.size),ad,⟨⟨(b.1.1),⟨(b.1.2.1),⟨(b.1.2.2.1),⟨(b.1.2.2.2.1),⟨(b.1.2.2.2.2.1),trivial⟩⟩⟩⟩⟩,⟨⟨(b.2.1.1),⟨(b.2.1.2.1),⟨(b.2.1.2.2.1),⟨(b.2.1.2.2.2.1),trivial⟩⟩⟩⟩,⟨⟨(b.2.2.1.1),⟨(b.2.2.1.2.1),⟨(b.2.2.1.2.2.1),trivial⟩⟩⟩,⟨⟨(b.2.2.2.1.1),⟨(b.2.2.2.1.2.1),trivial⟩⟩,⟨⟨(b.2.2.2.2.1.1),trivial⟩,⟨trivial,trivial⟩⟩⟩⟩⟩⟩⟩,trivial⟩
 have jj:=dF b4
 refine cf b4<|sr<|pu (vb (decide ((H)=8))) wN ?_
 refine aw (vb (decide ((H)=8))) ?_
 refine n2 ?_
 rcases bt (decide ((H)=8)) with b6|b6
 ·have jk:=dT b6
  refine ct b6<|mV ?_
  refine mw (vp g 0) ?_
  refine ltI ([(-1),0,281474976710656]:List Int) wN nf ?_
  intro jl jm Q b7 cX
  have cY:=ChG.extk S b7
  have fD:=(W.kp b7)
  refine cl wN (oz Q g ca cc cb (cx fD hcr cY hcl hcn) _ ([(-1),0,281474976710656]:List Int) ⟨_,_,rfl,(Rd.of_own cX),(by simp),(fun _ z hz=>by have am:=(nb cX z.block (by rw [hz];rfl)).1;have an:=nL hgl (z5 a d D l i);omega)⟩ (by simp)) ?_
  rintro _ R ⟨ai,cd,⟨jn,jo,fE,jp,jq,jr,js⟩,rfl,fF⟩
  have fG:=ChG.ext cY cd iL
  have q456m:ai=(-1)∨ai=0∨ai=281474976710656:=by simpa using fF
  refine pu (vp ae 8) wN ?_
  have fH:=(((V.ch i (Ne.symm (nN (nL hgl (nT (z2 a d) e))))).kp b7).ch cd (Ne.symm (nN (nL hgl (nT (z2 a d) e)))))
  refine sf (vi (ai)) wN nV fH ?_
  intro aj ce fI jt
  have fJ:=ChG.ext fG ce (fun k hk=>.inr (by subst hk;exact nT (z2 a d) e))
  refine mW<|mQ<|mP<|sr ?_
  refine lN (oD {(h) with Seq:=(ai):PFrame} m p q r s t u w y A B C) wN nk mZ fI ?_
  have fK:=(((((((T.ch d (Ne.symm (nN (nL hgl (j))))).kp D).ch l (nN (nL F (nT d.size e)))).ch i (Ne.symm (nN (nL hgl (j))))).kp b7).ch cd (Ne.symm (nN (nL hgl (j))))).ch ce (nN (nL F (nT d.size e))))
  refine sv (oD {(h) with Seq:=(ai):PFrame} m p q r s t u w y A B C) wN mZ fK ?_
  intro ao cz fL ju
  have cZ:=ChG.ext fJ cz (fun k hk=>.inr (by subst hk;exact j))
  refine n3 ?_
  have aY:=fun (E sz n:Nat) (v:Value) (G:List Value) (o:World.ownsRow P O.heap.size E sz v n G) (f:World.ownsRow P O.heap.size E sz v n G)=>(gc (gc (gc (mz (gc (gc (mz o D) l (ne2 f (e))) i (ne1 f (nL hgl a.size))) b7) cd (ne1 f (nL hgl a.size))) ce (ne2 f (e))) cz (ne1 f (F)))
  have fM:=(aY _ _ _ _ _ I I)
  have fN:=(aY _ _ _ _ _ J J)
  have fO:=(aY _ _ _ _ _ K K)
  have fP:=(aY _ _ _ _ _ L L)
  have fQ:=(aY _ _ _ _ _ M M)
  have fR:=(aY _ _ _ _ _ N N)
  refine rc (oD {(h) with Seq:=(ai):PFrame} m p q r s t u w y A B C) fL nk mZ ?_
  have fS:=((fE.ch ce (nN (nL hgl (nT (z2 a d) e)))).ch cz (nN (nL hgl (j))))
  exact ⟨{(h) with Seq:=(ai):PFrame},cZ,(cx fS hcr cZ hcl hcn),⟨_,_,_,_,_,_,_,_,_,_,_,_,rfl,(mO fM a.size),Y,(mO fN a.size),Z,(mO fO a.size),aa,(mO fP a.size),ab,(mO fQ a.size),ac,(mO fR a.size),ad,⟨⟨(b.1.1),⟨(b.1.2.1),⟨(b.1.2.2.1),⟨(b.1.2.2.2.1),⟨(b.1.2.2.2.2.1),trivial⟩⟩⟩⟩⟩,⟨⟨(b.2.1.1),⟨(b.2.1.2.1),⟨(b.2.1.2.2.1),⟨(b.2.1.2.2.2.1),trivial⟩⟩⟩⟩,⟨⟨(b.2.2.1.1),⟨(b.2.2.1.2.1),⟨(b.2.2.1.2.2.1),trivial⟩⟩⟩,⟨⟨(b.2.2.2.1.1),⟨(b.2.2.2.1.2.1),trivial⟩⟩,⟨⟨(b.2.2.2.2.1.1),trivial⟩,⟨trivial,trivial⟩⟩⟩⟩⟩⟩⟩,trivial⟩
 have jv:=dF b6
 refine cf b6<|sr<|pu (vb (decide ((H)=9))) wN ?_
 refine aw (vb (decide ((H)=9))) ?_
 refine n2 ?_
 rcases bt (decide ((H)=9)) with b8|b8
 ·have jw:=dT b8
  refine ct b8<|mV ?_
  refine mw (vp g 0) ?_
  refine mw (vp g 0) ?_
  refine ltI ([0,4,12,41]:List Int) wN nf ?_
  intro jx jy Q ax da
  have db:=ChG.extk S ax
  have fT:=(W.kp ax)
  refine cl wN (oz Q g ca cc cb (cx fT hcr db hcl hcn) _ ([0,4,12,41]:List Int) ⟨_,_,rfl,(Rd.of_own da),(by simp),(fun _ z hz=>by have am:=(nb da z.block (by rw [hz];rfl)).1;have an:=nL hgl (z5 a d D l i);omega)⟩ (by simp)) ?_
  rintro _ R ⟨b9,aB,⟨jz,j0,fU,j1,j2,j3,j4⟩,rfl,fV⟩
  have dc:=ChG.ext db aB iL
  have q495m:b9=0∨b9=4∨b9=12∨b9=41:=by simpa using fV
  refine cl wN (oC R g ca cc cb (cx fU hcr dc hcl hcn) (b9) (by omega)) ?_
  rintro _ aj ⟨aC,cg,⟨j5,j6,fW,j7,j8,j9,jA⟩,⟨aP,aQ,rfl,aD,fX,jC⟩,jD⟩
  have fY:=ChG.ext dc cg iL
  refine pu (vp ae 9) wN ?_
  have c0:=nT (z2 a d) e
  have fZ:=((((V.ch i (Ne.symm (nN (nL hgl c0)))).kp ax).ch aB (Ne.symm (nN (nL hgl c0)))).ch cg (Ne.symm (nN (nL hgl c0))))
  refine sf (vs aP (aC).length aQ) wN nG fZ ?_
  intro ao bA ga jE
  have gb:=ChG.ext fY bA (fun k hk=>.inr (by subst hk;exact nT (z2 a d) e))
  refine mW<|mQ<|mP<|sr ?_
  refine lN (oD {(h) with Body:=(aC):PFrame} m p q r s t u w aP aQ B C) wN nk mZ ga ?_
  have gd:=((((((((T.ch d (Ne.symm (nN (nL hgl (j))))).kp D).ch l (nN (nL F (nT d.size e)))).ch i (Ne.symm (nN (nL hgl (j))))).kp ax).ch aB (Ne.symm (nN (nL hgl (j))))).ch cg (Ne.symm (nN (nL hgl (j))))).ch bA (nN (nL F (nT d.size e))))
  refine sv (oD {(h) with Body:=(aC):PFrame} m p q r s t u w aP aQ B C) wN mZ gd ?_
  intro bi cj ge jF
  have dd:=ChG.ext gb cj (fun k hk=>.inr (by subst hk;exact j))
  refine n3 ?_
  have bB:=fun (E sz n:Nat) (v:Value) (G:List Value) (o:World.ownsRow P O.heap.size E sz v n G) (f:World.ownsRow P O.heap.size E sz v n G)=>(gc (gc (gc (gc (mz (gc (gc (mz o D) l (ne2 f (e))) i (ne1 f (nL hgl a.size))) ax) aB (ne1 f (nL hgl a.size))) cg (ne1 f (nL hgl a.size))) bA (ne2 f (e))) cj (ne1 f (F)))
  have gf:=(bB _ _ _ _ _ I I)
  have gg:=(bB _ _ _ _ _ J J)
  have gh:=(bB _ _ _ _ _ K K)
  have gi:=(bB _ _ _ _ _ L L)
  have gj:=(gc (gc aD bA (ne1 aD (nL aT (z4 l i ax aB)))) cj (ne1 aD (nL F (z6 d D l i ax aB))))
  have gk:=(bB _ _ _ _ _ N N)
  refine rc (oD {(h) with Body:=(aC):PFrame} m p q r s t u w aP aQ B C) ge nk mZ ?_
  have gl:=((fW.ch bA (nN (nL hgl (nT (z2 a d) e)))).ch cj (nN (nL hgl (j))))
  have bC:=z5 D l i ax aB
  exact ⟨{(h) with Body:=(aC):PFrame},dd,(cx gl hcr dd hcl hcn),⟨_,_,_,_,_,_,_,_,_,_,_,_,rfl,(mO gf a.size),Y,(mO gg a.size),Z,(mO gh a.size),aa,(mO gi a.size),ab,(mO gj (z7 a d D l i ax aB)),fX,(mO gk a.size),ad,⟨⟨(b.1.1),⟨(b.1.2.1),⟨(b.1.2.2.1),⟨(Ap.lt I aD bC),⟨(b.1.2.2.2.2.1),trivial⟩⟩⟩⟩⟩,⟨⟨(b.2.1.1),⟨(b.2.1.2.1),⟨(Ap.lt J aD bC),⟨(b.2.1.2.2.2.1),trivial⟩⟩⟩⟩,⟨⟨(b.2.2.1.1),⟨(Ap.lt K aD bC),⟨(b.2.2.1.2.2.1),trivial⟩⟩⟩,⟨⟨(Ap.lt L aD bC),⟨(b.2.2.2.1.2.1),trivial⟩⟩,⟨⟨(Ap.lt N aD bC).symm,trivial⟩,⟨trivial,trivial⟩⟩⟩⟩⟩⟩⟩,trivial⟩
 have jG:=dF b8
 refine cf b8<|sr<|pu (vb (decide ((H)=10))) wN ?_
 refine aw (vb (decide ((H)=10))) ?_
 refine n2 ?_
 rcases bf (decide ((H)=10)) with bD|bD
 ·have jH:=dF bD
  refine cf bD<|nm<|mQ<|mP<|sr ?_
  have gm:=(V.ch i (Ne.symm (nN (nL hgl (nT (z2 a d) e)))))
  refine lN (oD (h) m p q r s t u w y A B C) wN nk mZ gm ?_
  have gn:=((((T.ch d (Ne.symm (nN (nL hgl (j))))).kp D).ch l (nN (nL F (nT d.size e)))).ch i (Ne.symm (nN (nL hgl (j)))))
  refine sv (oD (h) m p q r s t u w y A B C) wN mZ gn ?_
  intro Q c1 gp jI
  have de:=ChG.ext S c1 (fun k hk=>.inr (by subst hk;exact j))
  refine n3 ?_
  have aZ:=fun (E sz n:Nat) (v:Value) (G:List Value) (o:World.ownsRow P O.heap.size E sz v n G) (f:World.ownsRow P O.heap.size E sz v n G)=>(gc (gc (gc (mz o D) l (ne2 f (e))) i (ne1 f (nL hgl a.size))) c1 (ne1 f (F)))
  have gq:=(aZ _ _ _ _ _ I I)
  have gr:=(aZ _ _ _ _ _ J J)
  have gs:=(aZ _ _ _ _ _ K K)
  have gt:=(aZ _ _ _ _ _ L L)
  have gu:=(aZ _ _ _ _ _ M M)
  have gv:=(aZ _ _ _ _ _ N N)
  refine rc (oD (h) m p q r s t u w y A B C) gp nk mZ ?_
  have gw:=(W.ch c1 (nN (nL hgl (j))))
  exact ⟨(h),de,(cx gw hcr de hcl hcn),⟨_,_,_,_,_,_,_,_,_,_,_,_,rfl,(mO gq a.size),Y,(mO gr a.size),Z,(mO gs a.size),aa,(mO gt a.size),ab,(mO gu a.size),ac,(mO gv a.size),ad,⟨⟨(b.1.1),⟨(b.1.2.1),⟨(b.1.2.2.1),⟨(b.1.2.2.2.1),⟨(b.1.2.2.2.2.1),trivial⟩⟩⟩⟩⟩,⟨⟨(b.2.1.1),⟨(b.2.1.2.1),⟨(b.2.1.2.2.1),⟨(b.2.1.2.2.2.1),trivial⟩⟩⟩⟩,⟨⟨(b.2.2.1.1),⟨(b.2.2.1.2.1),⟨(b.2.2.1.2.2.1),trivial⟩⟩⟩,⟨⟨(b.2.2.2.1.1),⟨(b.2.2.2.1.2.1),trivial⟩⟩,⟨⟨(b.2.2.2.2.1.1),trivial⟩,⟨trivial,trivial⟩⟩⟩⟩⟩⟩⟩,trivial⟩
 have jJ:=dT bD
 refine ct bD<|mV ?_
 refine mw (vp g 0) ?_
 refine mw (vp g 0) ?_
 refine ltI ([0,15,17]:List Int) wN nf ?_
 intro jK jL Q ay df
 have dg:=ChG.extk S ay
 have gx:=(W.kp ay)
 refine cl wN (oz Q g ca cc cb (cx gx hcr dg hcl hcn) _ ([0,15,17]:List Int) ⟨_,_,rfl,(Rd.of_own df),(by simp),(fun _ z hz=>by have am:=(nb df z.block (by rw [hz];rfl)).1;have an:=nL hgl (z5 a d D l i);omega)⟩ (by simp)) ?_
 rintro _ R ⟨ck,aE,⟨jM,jN,gy,jO,jP,jQ,jR⟩,rfl,gz⟩
 have dh:=ChG.ext dg aE iL
 have q551m:ck=0∨ck=15∨ck=17:=by simpa using gz
 refine cl wN (oC R g ca cc cb (cx gy hcr dh hcl hcn) (ck) (by omega)) ?_
 rintro _ aj ⟨aF,cm,⟨jS,jT,g0,jU,jV,jW,jX⟩,⟨aR,aS,rfl,aG,g1,jY⟩,jZ⟩
 have g2:=ChG.ext dh cm iL
 refine pu (vp ae 10) wN ?_
 have c2:=nT (z2 a d) e
 have g3:=((((V.ch i (Ne.symm (nN (nL hgl c2)))).kp ay).ch aE (Ne.symm (nN (nL hgl c2)))).ch cm (Ne.symm (nN (nL hgl c2))))
 refine sf (vs aR (aF).length aS) wN nG g3 ?_
 intro ao bE g4 ka
 have g5:=ChG.ext g2 bE (fun k hk=>.inr (by subst hk;exact nT (z2 a d) e))
 refine mW<|mQ<|mP<|sr ?_
 refine lN (oD {(h) with Tag:=(aF):PFrame} m p q r s t u w y A aR aS) wN nk mZ g4 ?_
 have g6:=((((((((T.ch d (Ne.symm (nN (nL hgl (j))))).kp D).ch l (nN (nL F (nT d.size e)))).ch i (Ne.symm (nN (nL hgl (j))))).kp ay).ch aE (Ne.symm (nN (nL hgl (j))))).ch cm (Ne.symm (nN (nL hgl (j))))).ch bE (nN (nL F (nT d.size e))))
 refine sv (oD {(h) with Tag:=(aF):PFrame} m p q r s t u w y A aR aS) wN mZ g6 ?_
 intro bi cn g7 kb
 have di:=ChG.ext g5 cn (fun k hk=>.inr (by subst hk;exact j))
 refine n3 ?_
 have bF:=fun (E sz n:Nat) (v:Value) (G:List Value) (o:World.ownsRow P O.heap.size E sz v n G) (f:World.ownsRow P O.heap.size E sz v n G)=>(gc (gc (gc (gc (mz (gc (gc (mz o D) l (ne2 f (e))) i (ne1 f (nL hgl a.size))) ay) aE (ne1 f (nL hgl a.size))) cm (ne1 f (nL hgl a.size))) bE (ne2 f (e))) cn (ne1 f (F)))
 have g8:=(bF _ _ _ _ _ I I)
 have g9:=(bF _ _ _ _ _ J J)
 have gA:=(bF _ _ _ _ _ K K)
 have gB:=(bF _ _ _ _ _ L L)
 have gC:=(bF _ _ _ _ _ M M)
 have gD:=(gc (gc aG bE (ne1 aG (nL aT (z4 l i ay aE)))) cn (ne1 aG (nL F (z6 d D l i ay aE))))
 refine rc (oD {(h) with Tag:=(aF):PFrame} m p q r s t u w y A aR aS) g7 nk mZ ?_
 have gE:=((g0.ch bE (nN (nL hgl (nT (z2 a d) e)))).ch cn (nN (nL hgl (j))))
 have bG:=z5 D l i ay aE
 exact ⟨{(h) with Tag:=(aF):PFrame},di,(cx gE hcr di hcl hcn),⟨_,_,_,_,_,_,_,_,_,_,_,_,rfl,(mO g8 a.size),Y,(mO g9 a.size),Z,(mO gA a.size),aa,(mO gB a.size),ab,(mO gC a.size),ac,(mO gD (z7 a d D l i ay aE)),g1,⟨⟨(b.1.1),⟨(b.1.2.1),⟨(b.1.2.2.1),⟨(b.1.2.2.2.1),⟨(Ap.lt I aG bG),trivial⟩⟩⟩⟩⟩,⟨⟨(b.2.1.1),⟨(b.2.1.2.1),⟨(b.2.1.2.2.1),⟨(Ap.lt J aG bG),trivial⟩⟩⟩⟩,⟨⟨(b.2.2.1.1),⟨(b.2.2.1.2.1),⟨(Ap.lt K aG bG),trivial⟩⟩⟩,⟨⟨(b.2.2.2.1.1),⟨(Ap.lt L aG bG),trivial⟩⟩,⟨⟨(Ap.lt M aG bG),trivial⟩,⟨trivial,trivial⟩⟩⟩⟩⟩⟩⟩,trivial⟩
end Go.Proofs.YtacoceibbheccaaGreat.K
