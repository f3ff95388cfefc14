import Derived.Test.YtacoceibbheccaaGreatCore
import Derived.Test.YtacoceibbheccaaGreatProg
import Derived.Test.YtacoceibbheccaaGreatHeld
import Derived.Test.YtacoceibbheccaaGreatFun
import Derived.Test.YtacoceibbheccaaGreatFunZ
import Derived.Test.YtacoceibbheccaaGreatSqz
import Derived.Test.YtacoceibbheccaaGreatHash
import Derived.Test.YtacoceibbheccaaGreatCur
import Derived.Test.YtacoceibbheccaaGreatDrawW
import Derived.Test.YtacoceibbheccaaGreatAead
import Derived.Test.YtacoceibbheccaaGreatWj2
namespace Go.Proofs.YtacoceibbheccaaGreat.K
open Go.RowKit
set_option linter.unusedVariables false
set_option linter.unusedSimpArgs false
set_option maxRecDepth 100000
set_option maxHeartbeats 4000000
theorem Ib:∀ w,(sizeOf 4).run Tryz.prog w=.ok 1 w:=fun w=>by kernel_rfl
theorem Dj:∀ w,(sizeOf 22).run Tryz.prog w=.ok 1 w:=fun w=>by kernel_rfl
def Lc (w:World) (lo:Nat) (v:Value) (x:(PChan)×(List UInt8)×(Int)):Prop:=∃ (a:Option Addr) (b:Nat) (d:Option Addr) (e:Nat) (f:Option Addr) (g:Nat) (h:Option Addr) (i:Nat) (j:Option Addr) (k:Nat) (l:Option Addr) (m:Nat) (o:Option Addr) (p:Nat),v=.tuple #[.agg #[.int .i64 x.1.Role,.slice a x.1.Sn.length b,.int .i64 x.1.Cur.N,.slice d x.1.Cur.Key.length e,.int .i64 x.1.Cur.Seq,.int .i64 x.1.Cur.Win.Top,.slice f x.1.Cur.Win.Bits.length g,.int .i64 x.1.Old.N,.slice h x.1.Old.Key.length i,.int .i64 x.1.Old.Seq,.int .i64 x.1.Old.Win.Top,.slice j x.1.Old.Win.Bits.length k,.bool x.1.HasOld,.int .i64 x.1.Until,.slice l x.1.Next.length m],.slice o x.2.1.length p,.int .i64 x.2.2]∧w.ownsRow lo 5 1 (.slice a x.1.Sn.length b) x.1.Sn.length (x.1.Sn.map bV)∧x.1.Sn.length≤1073741824∧w.ownsRow lo 5 1 (.slice d x.1.Cur.Key.length e) x.1.Cur.Key.length (x.1.Cur.Key.map bV)∧x.1.Cur.Key.length≤1073741824∧w.ownsRow lo 3 1 (.slice f x.1.Cur.Win.Bits.length g) x.1.Cur.Win.Bits.length (x.1.Cur.Win.Bits.map iV)∧x.1.Cur.Win.Bits.length≤1073741824∧w.ownsRow lo 5 1 (.slice h x.1.Old.Key.length i) x.1.Old.Key.length (x.1.Old.Key.map bV)∧x.1.Old.Key.length≤1073741824∧w.ownsRow lo 3 1 (.slice j x.1.Old.Win.Bits.length k) x.1.Old.Win.Bits.length (x.1.Old.Win.Bits.map iV)∧x.1.Old.Win.Bits.length≤1073741824∧w.ownsRow lo 5 1 (.slice l x.1.Next.length m) x.1.Next.length (x.1.Next.map bV)∧x.1.Next.length≤1073741824∧w.ownsRow lo 5 1 (.slice o x.2.1.length p) x.2.1.length (x.2.1.map bV)∧x.2.1.length≤1073741824∧Aps [(a,b),(d,e),(f,g),(h,i),(j,k),(l,m),(o,p)]
theorem GX {w:World} {x:PChan} {a:Option Addr} {b:Nat} {d:Option Addr} {e:Nat} {f:Option Addr} {g:Nat} {h:Option Addr} {i:Nat} {j:Option Addr} {k:Nat} {l:Option Addr} {m:Nat} (o:Rd w 1 (.slice a x.Sn.length b) x.Sn.length (x.Sn.map bV)) (p:x.Sn.length≤1073741824) (q:Rd w 1 (.slice d x.Cur.Key.length e) x.Cur.Key.length (x.Cur.Key.map bV)) (r:x.Cur.Key.length≤1073741824) (s:Rd w 1 (.slice f x.Cur.Win.Bits.length g) x.Cur.Win.Bits.length (x.Cur.Win.Bits.map iV)) (t:x.Cur.Win.Bits.length≤1073741824) (u:Rd w 1 (.slice h x.Old.Key.length i) x.Old.Key.length (x.Old.Key.map bV)) (v:x.Old.Key.length≤1073741824) (y:Rd w 1 (.slice j x.Old.Win.Bits.length k) x.Old.Win.Bits.length (x.Old.Win.Bits.map iV)) (A:x.Old.Win.Bits.length≤1073741824) (B:Rd w 1 (.slice l x.Next.length m) x.Next.length (x.Next.map bV)) (C:x.Next.length≤1073741824):Nc w (va (Dv x a b d e f g h i j k l m)) x:=⟨_,_,_,_,_,_,_,_,_,_,_,_,rfl,o,p,q,r,s,t,u,v,y,A,B,C⟩
def Na (w:World) (lo:Nat) (v:Value) (x:(PEp)×(List UInt8)×(Int)) (k:Option Addr×Nat→Option Addr×Nat→Option Addr×Nat→Prop):Prop:=∃ (a:Option Addr) (b:Nat) (d:Option Addr) (e:Nat) (f:Option Addr) (g:Nat),v=.tuple #[.agg #[.int .i64 x.1.N,.slice a x.1.Key.length b,.int .i64 x.1.Seq,.int .i64 x.1.Win.Top,.slice d x.1.Win.Bits.length e],.slice f x.2.1.length g,.int .i64 x.2.2]∧w.ownsRow lo 5 1 (.slice a x.1.Key.length b) x.1.Key.length (x.1.Key.map bV)∧x.1.Key.length≤1073741824∧w.ownsRow lo 3 1 (.slice d x.1.Win.Bits.length e) x.1.Win.Bits.length (x.1.Win.Bits.map iV)∧x.1.Win.Bits.length≤1073741824∧w.ownsRow lo 5 1 (.slice f x.2.1.length g) x.2.1.length (x.2.1.map bV)∧x.2.1.length≤1073741824∧Aps [(a,b),(d,e),(f,g)]∧k (a,b) (d,e) (f,g)
def DG (a:PChan) (d:Int) (b:PFrame):(PChan)×(List UInt8)×(Int):=bif (decide (0 < (a.Next.length:Int))) then (bif (decide (b.Epoch=(a.Cur.N+1))) then (bif (decide ((tA (Cw (a.Cur.N+1) a.Next) (1 - a.Role) b).2.2=0)) then (({Role:=(a).Role,Sn:=(a).Sn,Cur:=((tA (Cw (a.Cur.N+1) a.Next) (1 - a.Role) b).1),Old:=((a).Cur),HasOld:=true,Until:=(d+5),Next:=[]:PChan},(tA (Cw (a.Cur.N+1) a.Next) (1 - a.Role) b).2.1,0)) else (((a),[],(tA (Cw (a.Cur.N+1) a.Next) (1 - a.Role) b).2.2))) else (((a),[],8))) else (((a),[],8))
def DY (a:PChan) (d:Int) (b:PFrame):(PChan)×(List UInt8)×(Int):=bif (decide ((tA a.Old (1 - a.Role) b).2.2=0)) then (({Role:=(a).Role,Sn:=(a).Sn,Cur:=((a).Cur),Old:=((tA a.Old (1 - a.Role) b).1),HasOld:=(a).HasOld,Until:=(a).Until,Next:=(a).Next:PChan},(tA a.Old (1 - a.Role) b).2.1,0)) else (((a),[],(tA a.Old (1 - a.Role) b).2.2))
def s_ChanOpen (a:PChan) (d:Int) (b:PFrame):(PChan)×(List UInt8)×(Int):=bif (CQ a) then (bif (Cy d 0 1000000) then (bif (Cx b) then (bif (Ej b.Kind) then (bif (Gf b.Sn a.Sn) then (bif (decide (b.Epoch=a.Cur.N)) then (bif (decide ((tA a.Cur (1 - a.Role) b).2.2=0)) then (bif a.HasOld then (bif (decide (a.Until=(-1))) then (({Role:=(a).Role,Sn:=(a).Sn,Cur:=((tA a.Cur (1 - a.Role) b).1),Old:=((a).Old),HasOld:=(a).HasOld,Until:=(d+5),Next:=(a).Next:PChan},(tA a.Cur (1 - a.Role) b).2.1,0)) else (({Role:=(a).Role,Sn:=(a).Sn,Cur:=((tA a.Cur (1 - a.Role) b).1),Old:=((a).Old),HasOld:=(a).HasOld,Until:=(a).Until,Next:=(a).Next:PChan},(tA a.Cur (1 - a.Role) b).2.1,0))) else (({Role:=(a).Role,Sn:=(a).Sn,Cur:=((tA a.Cur (1 - a.Role) b).1),Old:=((a).Old),HasOld:=(a).HasOld,Until:=(a).Until,Next:=(a).Next:PChan},(tA a.Cur (1 - a.Role) b).2.1,0))) else (((a),[],(tA a.Cur (1 - a.Role) b).2.2))) else (bif a.HasOld then (bif (decide (b.Epoch=a.Old.N)) then (bif (decide (a.Until=(-1))) then ((DY a d b)) else (bif (decide (a.Until < d)) then (((a),[],9)) else ((DY a d b)))) else ((DG a d b))) else ((DG a d b)))) else (((a),[],8))) else (((a),[],1))) else (((a),[],1))) else (((a),[],1))) else (((a),[],1))
theorem MO (cg:World) (ey:Value) (a:PChan) (fc:Nc cg ey a) (A:Int) (ez:Value) (b:PFrame) (fd:JC cg ez b) :Fn Tryz.prog 8 #[ey,(vi A),ez] cg (fun v bo=>Keep cg bo∧Lc bo cg.heap.size v (s_ChanOpen a A b)):=by
 obtain ⟨c8,c9,cC,cD,cE,cF,cG,cH,cI,cJ,b7,b8,rfl,dz,d0,d1,d2,d3,d4,d5,d6,d7,d8,cY,d9⟩:=fc
 obtain ⟨b9,bA,bp,bq,bB,bC,bD,bE,bF,bG,bH,bI,rfl,cZ,da,cK,cL,db,dc,dd,de,df,dg,dh,di⟩:=fd
 refine Cl (n:=174) [(va (Dv a c8 c9 cC cD cE cF cG cH cI cJ b7 b8)),(vi A),(va (EB b b9 bA bp bq bB bC bD bE bF bG bH bI))] Tryz.func8 rfl rfl ?_
 refine sr ?_
 refine bx (Dv a c8 c9 cC cD cE cF cG cH cI cJ b7 b8) wN ?_
 intro aa dj iY dA j fe
 refine bx (EB b b9 bA bp bq bB bC bD bE bF bG bH bI) wN ?_
 intro aY iZ ja ff f fg
 refine al Mr wN Fz ?_
 intro cM ac aH O s aI
 have bJ:=(((Ch.base cg).extk j).extk f).extk s
 refine aw (vs none 0 0) ?_
 refine aw (vi 0) ?_
 refine nx ?_
 have e0:=((fe.kp f).kp s)
 refine lN (Dv a c8 c9 cC cD cE cF cG cH cI cJ b7 b8) wN Cv BY e0 ?_
 refine cl wN (NS ac _ a (GX (dz.from0 bJ) d0 (d1.from0 bJ) d2 (d3.from0 bJ) d4 (d5.from0 bJ) d6 (d7.from0 bJ) d8 (cY.from0 bJ) d9)) ?_
 rintro _ af ⟨x,⟨B,C,D,F,G,H,P,Q,R,S,I,J,rfl,M,aJ,V,aZ,W,ba,X,bb,Y,bc,T,aS,d⟩⟩
 refine al Mr wN Fz ?_
 intro az jb K aK u fh
 refine sv (Dv (a) B C D F G H P Q R S I J) wN BY fh ?_
 intro fi p aT jc
 have br:=((bJ.extk x).extk u).ext p (fun k hk=>by subst hk;exact nT (z4 j f s x) K)
 refine n4 ?_
 refine jT1 [(1,(vi A)),(3,(vp aa 0)),(5,(vp aY 0)),(6,(vp cM 0)),(7,(vs none 0 0)),(8,(vi 0)),(9,(vp az 0))] (s_ChanOpen a A b=((a),[],1)) ?_ fun dk=>?_
 ·intro fj e1 a6 jd
  refine sr ?_
  have fk:=(aT.kp a6)
  refine lN (Dv (a) B C D F G H P Q R S I J) wN Cv BY fk ?_
  refine CR wN rfl rfl tD (fun w=>by kernel_rfl) ?_
  intro e2 e3 dB bu
  have fl:=(((((aI.kp x).kp u).ch p (nN (nL O (nT x.size K)))).kp a6).kp dB)
  refine sv (Dv (a) B C D F G H P Q R S I J) wN BY fl ?_
  intro e4 dC fm je
  have fo:=((br.extk a6).extk dB).ext dC (fun k hk=>by subst hk;exact nT (z2 j f) aH)
  refine aw (vs (some e2) 0 0) ?_
  refine aw (vi 1) ?_
  refine n1 ?_
  have ci:=fun (E sz n:Nat) (v:Value) (L:List Value) (o:World.ownsRow af ac.heap.size E sz v n L) (y:World.ownsRow af ac.heap.size E sz v n L)=>(tC (gc (gc (tC (gc o u) p (ne2 y (K))) a6) dB) dC (ne1 y (O)))
  have fp:=(ci _ _ _ _ _ M M)
  have fq:=(ci _ _ _ _ _ V V)
  have fr:=(ci _ _ _ _ _ W W)
  have fs:=(ci _ _ _ _ _ X X)
  have ft:=(ci _ _ _ _ _ Y Y)
  have fu:=(ci _ _ _ _ _ T T)
  have fv:=(tC bu dC (ne1 bu (nL O (z4 x u p a6))))
  refine ED (.inl rfl) (va (Dv (a) B C D F G H P Q R S I J)) (vs (some e2) 0 0) (vi 1) rfl (Fe (Dv (a) B C D F G H P Q R S I J) rfl fm Cv BY) rfl rfl ?_
  refine ⟨fo.keep0,?_⟩
  rw [fj]
  exact ⟨_,_,_,_,_,_,_,_,_,_,_,_,_,_,rfl,(tB fp (z3 j f s)),aJ,(tB fq (z3 j f s)),aZ,(tB fr (z3 j f s)),ba,(tB fs (z3 j f s)),bb,(tB ft (z3 j f s)),bc,(tB fu (z3 j f s)),aS,(tB fv (z7 j f s x u p a6)),(by simp),⟨⟨(d.1.1),⟨(d.1.2.1),⟨(d.1.2.2.1),⟨(d.1.2.2.2.1),⟨(d.1.2.2.2.2.1),⟨(Ap.lt M bu (z3 u p a6)),trivial⟩⟩⟩⟩⟩⟩,⟨⟨(d.2.1.1),⟨(d.2.1.2.1),⟨(d.2.1.2.2.1),⟨(d.2.1.2.2.2.1),⟨(Ap.lt V bu (z3 u p a6)),trivial⟩⟩⟩⟩⟩,⟨⟨(d.2.2.1.1),⟨(d.2.2.1.2.1),⟨(d.2.2.1.2.2.1),⟨(Ap.lt W bu (z3 u p a6)),trivial⟩⟩⟩⟩,⟨⟨(d.2.2.2.1.1),⟨(d.2.2.2.1.2.1),⟨(Ap.lt X bu (z3 u p a6)),trivial⟩⟩⟩,⟨⟨(d.2.2.2.2.1.1),⟨(Ap.lt Y bu (z3 u p a6)),trivial⟩⟩,⟨⟨(Ap.lt T bu (z3 u p a6)),trivial⟩,⟨trivial,trivial⟩⟩⟩⟩⟩⟩⟩⟩
 have e5:=(((e0.kp x).kp u).ch p (nN (nL dA (nT (z3 f s x) K))))
 refine lN (Dv a c8 c9 cC cD cE cF cG cH cI cJ b7 b8) wN Cv BY e5 ?_
 refine cl wN (Pm fi _ a (GX (dz.from0 br) d0 (d1.from0 br) d2 (d3.from0 br) d4 (d5.from0 br) d6 (d7.from0 br) d8 (cY.from0 br) d9)) ?_
 rintro _ e1 ⟨i,rfl⟩
 refine pu (vb (!(CQ a))) wN ?_
 refine mw (vb (!(CQ a))) ?_
 rcases bf (CQ a) with ah|ah
 ·iterate 3 refine sk (cA not ah) ?_
  refine pk (vb true) wN (cA not ah) ?_
  refine mw (vb true) ?_
  iterate 3 refine sk (Eq.refl true) ?_
  refine pk (vb true) wN (Eq.refl true) ?_
  refine mw (vb true) ?_
  iterate 4 refine sk (Eq.refl true) ?_
  refine pk (vb true) wN (Eq.refl true) ?_
  refine n2 ?_
  refine ct (Eq.refl true) ?_
  have fw:s_ChanOpen a A b=((a),[],1):=by simp only [s_ChanOpen,ah,cond_true,cond_false]
  exact wj (dk fw _ i)
 have jf:=JL ah
 refine mv (vi A) (wS (cA not ah)) ?_
 refine cl (wS (cA not ah)) (EA e1 A 0 1000000) ?_
 rintro _ e3 ⟨l,rfl⟩
 have bK:=(br.extk i).extk l
 refine pu (vb (!(Cy A 0 1000000))) (wS (cA not ah)) ?_
 refine pf (vb (!(Cy A 0 1000000))) wN (cA not ah) ?_
 refine mw (vb (!(Cy A 0 1000000))) ?_
 rcases bf (Cy A 0 1000000) with ai|ai
 ·have jg:=CW ai
  iterate 3 refine sk (cA not ai) ?_
  refine pk (vb true) wN (cA not ai) ?_
  refine mw (vb true) ?_
  iterate 4 refine sk (Eq.refl true) ?_
  refine pk (vb true) wN (Eq.refl true) ?_
  refine n2 ?_
  refine ct (Eq.refl true) ?_
  have fx:s_ChanOpen a A b=((a),[],1):=by simp only [s_ChanOpen,ah,ai,cond_true,cond_false]
  exact wj (dk fx _ (i.trans l))
 have jh:=CK ai
 have e6:=((((((fg.kp s).kp x).kp u).ch p (nN (nL ff (nT (z2 s x) K)))).kp i).kp l)
 refine lN (EB b b9 bA bp bq bB bC bD bE bF bG bH bI) (wS (cA not ai)) Dn CV e6 ?_
 refine cl (wS (cA not ai)) (KW e3 _ b (FC (cZ.from0 bK) da (cK.from0 bK) cL (db.from0 bK) dc (dd.from0 bK) de (df.from0 bK) dg (dh.from0 bK) di)) ?_
 rintro _ e4 ⟨m,rfl⟩
 refine pu (vb (!(Cx b))) (wS (cA not ai)) ?_
 refine pf (vb (!(Cx b))) wN (cA not ai) ?_
 refine mw (vb (!(Cx b))) ?_
 rcases bf (Cx b) with aj|aj
 ·iterate 4 refine sk (cA not aj) ?_
  refine pk (vb true) wN (cA not aj) ?_
  refine n2 ?_
  refine ct (Eq.refl true) ?_
  have fy:s_ChanOpen a A b=((a),[],1):=by simp only [s_ChanOpen,ah,ai,aj,cond_true,cond_false]
  exact wj (dk fy _ ((i.trans l).trans m))
 have ji:=KP aj
 refine pu (vp aY 0) (wS (cA not aj)) ?_
 have e7:=(e6.kp m)
 refine ld (vi b.Kind) (wS (cA not aj)) tE e7 ?_
 refine cl (wS (cA not aj)) (Ke e4 b.Kind) ?_
 rintro _ fz ⟨q,rfl⟩
 have dD:=(bK.extk m).extk q
 refine pu (vb (!(Ej b.Kind))) (wS (cA not aj)) ?_
 refine pf (vb (!(Ej b.Kind))) wN (cA not aj) ?_
 refine n2 ?_
 rcases bf (Ej b.Kind) with a0|a0
 ·refine ct (cA not a0) ?_
  have f0:s_ChanOpen a A b=((a),[],1):=by simp only [s_ChanOpen,ah,ai,aj,a0,cond_true,cond_false]
  exact wj (dk f0 _ (((i.trans l).trans m).trans q))
 refine cf (cA not a0) ?_
 refine y2 ?_
 refine pu (vp aY 3) wN ?_
 have e8:=(e7.kp q)
 refine ld (vs bp b.Sn.length bq) wN BT e8 ?_
 refine pu (vp aa 1) wN ?_
 have e9:=((((e5.kp i).kp l).kp m).kp q)
 refine ld (vs c8 a.Sn.length c9) wN BT e9 ?_
 refine cl wN (Ph fz _ b.Sn (CC (cK.from0 dD) cL) _ a.Sn (CC (dz.from0 dD) d0)) ?_
 rintro _ cN ⟨r,rfl⟩
 have a3:=dD.extk r
 refine pu (vb (!(Gf b.Sn a.Sn))) wN ?_
 refine n2 ?_
 rcases bf (Gf b.Sn a.Sn) with a4|a4
 ·refine ct (cA not a4) ?_
  refine sr ?_
  have f3:=(((((aT.kp i).kp l).kp m).kp q).kp r)
  refine lN (Dv (a) B C D F G H P Q R S I J) wN Cv BY f3 ?_
  refine CR wN rfl rfl tD (fun w=>by kernel_rfl) ?_
  intro eA ak dE bv
  have f4:=(((((((((aI.kp x).kp u).ch p (nN (nL O (nT x.size K)))).kp i).kp l).kp m).kp q).kp r).kp dE)
  refine sv (Dv (a) B C D F G H P Q R S I J) wN BY f4 ?_
  intro Z dG f5 jj
  have f6:=(a3.extk dE).ext dG (fun k hk=>by subst hk;exact nT (z2 j f) aH)
  refine aw (vs (some eA) 0 0) ?_
  refine aw (vi 8) ?_
  refine n1 ?_
  have cj:=fun (E sz n:Nat) (v:Value) (L:List Value) (o:World.ownsRow af ac.heap.size E sz v n L) (y:World.ownsRow af ac.heap.size E sz v n L)=>(tC (gc (gc (gc (gc (gc (gc (tC (gc o u) p (ne2 y (K))) i) l) m) q) r) dE) dG (ne1 y (O)))
  have f7:=(cj _ _ _ _ _ M M)
  have f8:=(cj _ _ _ _ _ V V)
  have f9:=(cj _ _ _ _ _ W W)
  have fA:=(cj _ _ _ _ _ X X)
  have fB:=(cj _ _ _ _ _ Y Y)
  have fC:=(cj _ _ _ _ _ T T)
  have fD:=(tC bv dG (ne1 bv (nL O (z8 x u p i l m q r))))
  refine ED (.inl rfl) (va (Dv (a) B C D F G H P Q R S I J)) (vs (some eA) 0 0) (vi 8) rfl (Fe (Dv (a) B C D F G H P Q R S I J) rfl f5 Cv BY) rfl rfl ?_
  refine ⟨f6.keep0,?_⟩
  simp only [s_ChanOpen,ah,ai,aj,a0,a4,cond_true,cond_false]
  have ck:=z7 u p i l m q r
  exact ⟨_,_,_,_,_,_,_,_,_,_,_,_,_,_,rfl,(tB f7 (z3 j f s)),aJ,(tB f8 (z3 j f s)),aZ,(tB f9 (z3 j f s)),ba,(tB fA (z3 j f s)),bb,(tB fB (z3 j f s)),bc,(tB fC (z3 j f s)),aS,(tB fD (z11 j f s x u p i l m q r)),(by simp),⟨⟨(d.1.1),⟨(d.1.2.1),⟨(d.1.2.2.1),⟨(d.1.2.2.2.1),⟨(d.1.2.2.2.2.1),⟨(Ap.lt M bv ck),trivial⟩⟩⟩⟩⟩⟩,⟨⟨(d.2.1.1),⟨(d.2.1.2.1),⟨(d.2.1.2.2.1),⟨(d.2.1.2.2.2.1),⟨(Ap.lt V bv ck),trivial⟩⟩⟩⟩⟩,⟨⟨(d.2.2.1.1),⟨(d.2.2.1.2.1),⟨(d.2.2.1.2.2.1),⟨(Ap.lt W bv ck),trivial⟩⟩⟩⟩,⟨⟨(d.2.2.2.1.1),⟨(d.2.2.2.1.2.1),⟨(Ap.lt X bv ck),trivial⟩⟩⟩,⟨⟨(d.2.2.2.2.1.1),⟨(Ap.lt Y bv ck),trivial⟩⟩,⟨⟨(Ap.lt T bv ck),trivial⟩,⟨trivial,trivial⟩⟩⟩⟩⟩⟩⟩⟩
 refine cf (cA not a4) ?_
 refine y1 ?_
 refine pu (vp aa 0) wN ?_
 have aU:=(e9.kp r)
 refine ld (vi a.Role) wN tE aU ?_
 refine ar (1 - a.Role) wN ?_
 refine aw (vi (1 - a.Role)) ?_
 refine n4 ?_
 refine pu (vp aY 7) wN ?_
 have cO:=(e8.kp r)
 refine ld (vi b.Epoch) wN tE cO ?_
 refine pu (vp aa 2) wN ?_
 refine pu (vp aa 2) wN ?_
 refine ld (vi a.Cur.N) wN tE aU ?_
 refine pu (vb (decide (b.Epoch=a.Cur.N))) wN ?_
 refine n2 ?_
 rcases bt (decide (b.Epoch=a.Cur.N)) with a1|a1
 ·have jk:=dT a1
  refine ct a1 ?_
  refine sr ?_
  refine pu (vp aa 2) wN ?_
  refine lN (Dd a.Cur cC cD cE cF) wN Cs BW aU ?_
  refine mw (vi (1 - a.Role)) ?_
  refine lN (EB b b9 bA bp bq bB bC bD bE bF bG bH bI) wN Dn CV cO ?_
  refine cl wN (Kf cN _ a.Cur (Fh (d1.from0 a3) d2 (d3.from0 a3) d4) (1 - a.Role) _ b (FC (cZ.from0 a3) da (cK.from0 a3) cL (db.from0 a3) dc (dd.from0 a3) de (df.from0 a3) dg (dh.from0 a3) di)) ?_
  rintro _ ak ⟨ad,⟨ao,ap,aq,au,aV,aW,rfl,a7,eB,a8,eC,a9,eD,cm⟩⟩
  refine mw (.tuple #[(va (Dd ((tA a.Cur (1 - a.Role) b).1) ao ap aq au)),(vs aV ((tA a.Cur (1 - a.Role) b).2.1).length aW),(vi ((tA a.Cur (1 - a.Role) b).2.2))]) ?_
  refine pu (va (Dd ((tA a.Cur (1 - a.Role) b).1) ao ap aq au)) wN ?_
  refine pu (vs aV ((tA a.Cur (1 - a.Role) b).2.1).length aW) wN ?_
  refine pu (vi ((tA a.Cur (1 - a.Role) b).2.2)) wN ?_
  refine al HC wN Ev ?_
  intro jl Z aA jm av fE
  refine sv (Dd ((tA a.Cur (1 - a.Role) b).1) ao ap aq au) wN BW fE ?_
  intro bw ax fF jn
  have eE:=((a3.extk ad).extk av).ext ax (fun k hk=>by subst hk;exact nT (z12 j f s x u p i l m q r ad) aA)
  refine aw (vs aV ((tA a.Cur (1 - a.Role) b).2.1).length aW) ?_
  refine aw (vi ((tA a.Cur (1 - a.Role) b).2.2)) ?_
  refine n4 ?_
  refine mw (vi ((tA a.Cur (1 - a.Role) b).2.2)) ?_
  refine pu (vb (!(decide ((tA a.Cur (1 - a.Role) b).2.2=0)))) wN ?_
  refine n2 ?_
  rcases bf (decide ((tA a.Cur (1 - a.Role) b).2.2=0)) with bd|bd
  ·have jo:=dF bd
   refine ct (cA not bd) ?_
   refine sr ?_
   have fG:=((((((((aT.kp i).kp l).kp m).kp q).kp r).kp ad).kp av).ch ax (nN (nL aK (nT (z7 p i l m q r ad) aA))))
   refine lN (Dv (a) B C D F G H P Q R S I J) wN Cv BY fG ?_
   refine CR wN rfl rfl tD (fun w=>by kernel_rfl) ?_
   intro eF cP dH bz
   refine mw (vi ((tA a.Cur (1 - a.Role) b).2.2)) ?_
   have fH:=((((((((((((aI.kp x).kp u).ch p (nN (nL O (nT x.size K)))).kp i).kp l).kp m).kp q).kp r).kp ad).kp av).ch ax (nN (nL O (nT (z9 x u p i l m q r ad) aA)))).kp dH)
   refine sv (Dv (a) B C D F G H P Q R S I J) wN BY fH ?_
   intro cQ dI fI jp
   have fJ:=(eE.extk dH).ext dI (fun k hk=>by subst hk;exact nT (z2 j f) aH)
   refine aw (vs (some eF) 0 0) ?_
   refine aw (vi ((tA a.Cur (1 - a.Role) b).2.2)) ?_
   refine BU<|re<|DJ<|Cb<|Cb ?_
   have cn:=fun (E sz n:Nat) (v:Value) (L:List Value) (o:World.ownsRow af ac.heap.size E sz v n L) (y:World.ownsRow af ac.heap.size E sz v n L)=>(tC (gc (tC (gc (gc (gc (gc (gc (gc (gc (tC (gc o u) p (ne2 y (K))) i) l) m) q) r) ad) av) ax (ne2 y (nT (z8 u p i l m q r ad) aA))) dH) dI (ne1 y (O)))
   have fK:=(cn _ _ _ _ _ M M)
   have fL:=(cn _ _ _ _ _ V V)
   have fM:=(cn _ _ _ _ _ W W)
   have fN:=(cn _ _ _ _ _ X X)
   have fO:=(cn _ _ _ _ _ Y Y)
   have fP:=(cn _ _ _ _ _ T T)
   have fQ:=(tC bz dI (ne1 bz (nL O (z11 x u p i l m q r ad av ax))))
   refine ED (.inl rfl) (va (Dv (a) B C D F G H P Q R S I J)) (vs (some eF) 0 0) (vi ((tA a.Cur (1 - a.Role) b).2.2)) rfl (Fe (Dv (a) B C D F G H P Q R S I J) rfl fI Cv BY) rfl rfl ?_
   refine ⟨fJ.keep0,?_⟩
   simp only [s_ChanOpen,ah,ai,aj,a0,a4,a1,bd,cond_true,cond_false]
   have co:=z10 u p i l m q r ad av ax
   exact ⟨_,_,_,_,_,_,_,_,_,_,_,_,_,_,rfl,(tB fK (z3 j f s)),aJ,(tB fL (z3 j f s)),aZ,(tB fM (z3 j f s)),ba,(tB fN (z3 j f s)),bb,(tB fO (z3 j f s)),bc,(tB fP (z3 j f s)),aS,(tB fQ (t3 (z12 j f s x u p i l m q r ad) av.size ax.size)),(by simp),⟨⟨(d.1.1),⟨(d.1.2.1),⟨(d.1.2.2.1),⟨(d.1.2.2.2.1),⟨(d.1.2.2.2.2.1),⟨(Ap.lt M bz co),trivial⟩⟩⟩⟩⟩⟩,⟨⟨(d.2.1.1),⟨(d.2.1.2.1),⟨(d.2.1.2.2.1),⟨(d.2.1.2.2.2.1),⟨(Ap.lt V bz co),trivial⟩⟩⟩⟩⟩,⟨⟨(d.2.2.1.1),⟨(d.2.2.1.2.1),⟨(d.2.2.1.2.2.1),⟨(Ap.lt W bz co),trivial⟩⟩⟩⟩,⟨⟨(d.2.2.2.1.1),⟨(d.2.2.2.1.2.1),⟨(Ap.lt X bz co),trivial⟩⟩⟩,⟨⟨(d.2.2.2.2.1.1),⟨(Ap.lt Y bz co),trivial⟩⟩,⟨⟨(Ap.lt T bz co),trivial⟩,⟨trivial,trivial⟩⟩⟩⟩⟩⟩⟩⟩
  have jq:=dT bd
  refine cf (cA not bd) ?_
  refine y1 ?_
  refine lN (Dd ((tA a.Cur (1 - a.Role) b).1) ao ap aq au) wN Cs BW fF ?_
  refine pu (vp az 2) wN ?_
  have fR:=((((((((aT.kp i).kp l).kp m).kp q).kp r).kp ad).kp av).ch ax (nN (nL aK (nT (z7 p i l m q r ad) aA))))
  refine st (va (Dd ((tA a.Cur (1 - a.Role) b).1) ao ap aq au)) (Dd ((tA a.Cur (1 - a.Role) b).1) ao ap aq au) [(vi ((a).Role)),(vs B ((a).Sn).length C),(vi (((tA a.Cur (1 - a.Role) b).1).N)),(vs ao (((tA a.Cur (1 - a.Role) b).1).Key).length ap),(vi (((tA a.Cur (1 - a.Role) b).1).Seq)),(vi ((((tA a.Cur (1 - a.Role) b).1).Win).Top)),(vs aq ((((tA a.Cur (1 - a.Role) b).1).Win).Bits).length au),(vi (((a).Old).N)),(vs P (((a).Old).Key).length Q),(vi (((a).Old).Seq)),(vi ((((a).Old).Win).Top)),(vs R ((((a).Old).Win).Bits).length S),(vb ((a).HasOld)),(vi ((a).Until)),(vs I ((a).Next).length J)] wN BW fR ?_
  intro cP b0 eG jr
  have eH:=eE.ext b0 (fun k hk=>by subst hk;exact nT (z4 j f s x) K)
  refine n4 ?_
  refine jF1 [(1,(vi A)),(3,(vp aa 0)),(5,(vp aY 0)),(6,(vp cM 0)),(7,(vs none 0 0)),(8,(vi 0)),(9,(vp az 0)),(10,(vi (1 - a.Role))),(12,(vs aV ((tA a.Cur (1 - a.Role) b).2.1).length aW))] (s_ChanOpen a A b=({Role:=(a).Role,Sn:=(a).Sn,Cur:=((tA a.Cur (1 - a.Role) b).1),Old:=((a).Old),HasOld:=(a).HasOld,Until:=(a).Until,Next:=(a).Next:PChan},(tA a.Cur (1 - a.Role) b).2.1,0)) ?_ fun eI=>?_
  ·intro fS cQ cR js
   refine y1 ?_
   have fT:=(eG.kp cR)
   refine lN [(vi ((a).Role)),(vs B ((a).Sn).length C),(vi (((tA a.Cur (1 - a.Role) b).1).N)),(vs ao (((tA a.Cur (1 - a.Role) b).1).Key).length ap),(vi (((tA a.Cur (1 - a.Role) b).1).Seq)),(vi ((((tA a.Cur (1 - a.Role) b).1).Win).Top)),(vs aq ((((tA a.Cur (1 - a.Role) b).1).Win).Bits).length au),(vi (((a).Old).N)),(vs P (((a).Old).Key).length Q),(vi (((a).Old).Seq)),(vi ((((a).Old).Win).Top)),(vs R ((((a).Old).Win).Bits).length S),(vb ((a).HasOld)),(vi ((a).Until)),(vs I ((a).Next).length J)] wN Cv BY fT ?_
   refine mw (vs aV ((tA a.Cur (1 - a.Role) b).2.1).length aW) ?_
   have fU:=(((((((((((((aI.kp x).kp u).ch p (nN (nL O (nT x.size K)))).kp i).kp l).kp m).kp q).kp r).kp ad).kp av).ch ax (nN (nL O (nT (z9 x u p i l m q r ad) aA)))).ch b0 (nN (nL O (nT x.size K)))).kp cR)
   refine sv [(vi ((a).Role)),(vs B ((a).Sn).length C),(vi (((tA a.Cur (1 - a.Role) b).1).N)),(vs ao (((tA a.Cur (1 - a.Role) b).1).Key).length ap),(vi (((tA a.Cur (1 - a.Role) b).1).Seq)),(vi ((((tA a.Cur (1 - a.Role) b).1).Win).Top)),(vs aq ((((tA a.Cur (1 - a.Role) b).1).Win).Bits).length au),(vi (((a).Old).N)),(vs P (((a).Old).Key).length Q),(vi (((a).Old).Seq)),(vi ((((a).Old).Win).Top)),(vs R ((((a).Old).Win).Bits).length S),(vb ((a).HasOld)),(vi ((a).Until)),(vs I ((a).Next).length J)] wN BY fU ?_
   intro dl dJ fV jt
   have fW:=(eH.extk cR).ext dJ (fun k hk=>by subst hk;exact nT (z2 j f) aH)
   refine aw (vs aV ((tA a.Cur (1 - a.Role) b).2.1).length aW) ?_
   refine aw (vi 0) ?_
   refine n1 ?_
   have dm:=fun (E sz n:Nat) (v:Value) (L:List Value) (o:World.ownsRow af ac.heap.size E sz v n L) (y:World.ownsRow af ac.heap.size E sz v n L)=>(tC (gc (tC (tC (gc (gc (gc (gc (gc (gc (gc (tC (gc o u) p (ne2 y (K))) i) l) m) q) r) ad) av) ax (ne2 y (nT (z8 u p i l m q r ad) aA))) b0 (ne2 y (K))) cR) dJ (ne1 y (O)))
   have fX:=(dm _ _ _ _ _ M M)
   have dK:=fun (E sz n:Nat) (v:Value) (L:List Value) (o:World.ownsRow ak cN.heap.size E sz v n L) (y:World.ownsRow ak cN.heap.size E sz v n L)=>(tC (gc (tC (tC (gc o av) ax (ne2 y (aA))) b0 (ne1 y (nL aK (z6 p i l m q r)))) cR) dJ (ne1 y (nL O (z8 x u p i l m q r))))
   have fY:=(dK _ _ _ _ _ a7 a7)
   have fZ:=(dK _ _ _ _ _ a8 a8)
   have ga:=(dm _ _ _ _ _ X X)
   have gb:=(dm _ _ _ _ _ Y Y)
   have gd:=(dm _ _ _ _ _ T T)
   have ge:=(dK _ _ _ _ _ a9 a9)
   refine ED (.inl rfl) (va [(vi ((a).Role)),(vs B ((a).Sn).length C),(vi (((tA a.Cur (1 - a.Role) b).1).N)),(vs ao (((tA a.Cur (1 - a.Role) b).1).Key).length ap),(vi (((tA a.Cur (1 - a.Role) b).1).Seq)),(vi ((((tA a.Cur (1 - a.Role) b).1).Win).Top)),(vs aq ((((tA a.Cur (1 - a.Role) b).1).Win).Bits).length au),(vi (((a).Old).N)),(vs P (((a).Old).Key).length Q),(vi (((a).Old).Seq)),(vi ((((a).Old).Win).Top)),(vs R ((((a).Old).Win).Bits).length S),(vb ((a).HasOld)),(vi ((a).Until)),(vs I ((a).Next).length J)]) (vs aV ((tA a.Cur (1 - a.Role) b).2.1).length aW) (vi 0) rfl (Fe [(vi ((a).Role)),(vs B ((a).Sn).length C),(vi (((tA a.Cur (1 - a.Role) b).1).N)),(vs ao (((tA a.Cur (1 - a.Role) b).1).Key).length ap),(vi (((tA a.Cur (1 - a.Role) b).1).Seq)),(vi ((((tA a.Cur (1 - a.Role) b).1).Win).Top)),(vs aq ((((tA a.Cur (1 - a.Role) b).1).Win).Bits).length au),(vi (((a).Old).N)),(vs P (((a).Old).Key).length Q),(vi (((a).Old).Seq)),(vi ((((a).Old).Win).Top)),(vs R ((((a).Old).Win).Bits).length S),(vb ((a).HasOld)),(vi ((a).Until)),(vs I ((a).Next).length J)] rfl fV Cv BY) rfl rfl ?_
   refine ⟨fW.keep0,?_⟩
   rw [fS]
   have dL:=z11 j f s x u p i l m q r
   have aB:=z7 u p i l m q r
   exact ⟨_,_,_,_,_,_,_,_,_,_,_,_,_,_,rfl,(tB fX (z3 j f s)),aJ,(tB fY dL),eB,(tB fZ dL),eC,(tB ga (z3 j f s)),bb,(tB gb (z3 j f s)),bc,(tB gd (z3 j f s)),aS,(tB ge dL),eD,⟨⟨(Ap.lt M a7 aB),⟨(Ap.lt M a8 aB),⟨(d.1.2.2.1),⟨(d.1.2.2.2.1),⟨(d.1.2.2.2.2.1),⟨(Ap.lt M a9 aB),trivial⟩⟩⟩⟩⟩⟩,⟨⟨(cm.1.1),⟨(Ap.lt X a7 aB).symm,⟨(Ap.lt Y a7 aB).symm,⟨(Ap.lt T a7 aB).symm,⟨(cm.1.2.1),trivial⟩⟩⟩⟩⟩,⟨⟨(Ap.lt X a8 aB).symm,⟨(Ap.lt Y a8 aB).symm,⟨(Ap.lt T a8 aB).symm,⟨(cm.2.1.1),trivial⟩⟩⟩⟩,⟨⟨(d.2.2.2.1.1),⟨(d.2.2.2.1.2.1),⟨(Ap.lt X a9 aB),trivial⟩⟩⟩,⟨⟨(d.2.2.2.2.1.1),⟨(Ap.lt Y a9 aB),trivial⟩⟩,⟨⟨(Ap.lt T a9 aB),trivial⟩,⟨trivial,trivial⟩⟩⟩⟩⟩⟩⟩⟩
  refine pu (vp aa 12) wN ?_
  have eJ:=((((aU.kp ad).kp av).ch ax (nN (nL dA (nT (z11 f s x u p i l m q r ad) aA)))).ch b0 (nN (nL dA (nT (z3 f s x) K))))
  refine ld (vb a.HasOld) wN FZ eJ ?_
  refine mw (vb a.HasOld) ?_
  rcases bf a.HasOld with aX|aX
  ·iterate 3 refine sk aX ?_
   refine pf (vb false) wN aX ?_
   refine n2 ?_
   refine cf (Eq.refl false) ?_
   have gf:s_ChanOpen a A b=({Role:=(a).Role,Sn:=(a).Sn,Cur:=((tA a.Cur (1 - a.Role) b).1),Old:=((a).Old),HasOld:=(a).HasOld,Until:=(a).Until,Next:=(a).Next:PChan},(tA a.Cur (1 - a.Role) b).2.1,0):=by simp only [s_ChanOpen,ah,ai,aj,a0,a4,a1,bd,aX,cond_true,cond_false]
   exact wj (eI gf _ (Ch.refl _ _))
  refine pu (vp aa 13) (wS aX) ?_
  refine ld (vi a.Until) (wS aX) tE eJ ?_
  refine pu (vb (decide (a.Until=(-1)))) (wS aX) ?_
  refine pk (vb (decide (a.Until=(-1)))) wN aX ?_
  refine n2 ?_
  rcases bf (decide (a.Until=(-1))) with bL|bL
  ·have ju:=dF bL
   refine cf bL ?_
   have gg:s_ChanOpen a A b=({Role:=(a).Role,Sn:=(a).Sn,Cur:=((tA a.Cur (1 - a.Role) b).1),Old:=((a).Old),HasOld:=(a).HasOld,Until:=(a).Until,Next:=(a).Next:PChan},(tA a.Cur (1 - a.Role) b).2.1,0):=by simp only [s_ChanOpen,ah,ai,aj,a0,a4,a1,bd,aX,bL,cond_true,cond_false]
   exact wj (eI gg _ (Ch.refl _ _))
  have jv:=dT bL
  refine ct bL ?_
  refine BZ ?_
  refine mw (vi A) ?_
  refine ar (A+5) wN ?_
  refine pu (vp az 13) wN ?_
  refine st (vi (A+5)) [(vi (A+5))] [(vi ((a).Role)),(vs B ((a).Sn).length C),(vi (((tA a.Cur (1 - a.Role) b).1).N)),(vs ao (((tA a.Cur (1 - a.Role) b).1).Key).length ap),(vi (((tA a.Cur (1 - a.Role) b).1).Seq)),(vi ((((tA a.Cur (1 - a.Role) b).1).Win).Top)),(vs aq ((((tA a.Cur (1 - a.Role) b).1).Win).Bits).length au),(vi (((a).Old).N)),(vs P (((a).Old).Key).length Q),(vi (((a).Old).Seq)),(vi ((((a).Old).Win).Top)),(vs R ((((a).Old).Win).Bits).length S),(vb ((a).HasOld)),(vi (A+5)),(vs I ((a).Next).length J)] wN CZ eG ?_
  intro cQ dn gh jw
  have gi:=eH.ext dn (fun k hk=>by subst hk;exact nT (z4 j f s x) K)
  refine nx ?_
  refine lN [(vi ((a).Role)),(vs B ((a).Sn).length C),(vi (((tA a.Cur (1 - a.Role) b).1).N)),(vs ao (((tA a.Cur (1 - a.Role) b).1).Key).length ap),(vi (((tA a.Cur (1 - a.Role) b).1).Seq)),(vi ((((tA a.Cur (1 - a.Role) b).1).Win).Top)),(vs aq ((((tA a.Cur (1 - a.Role) b).1).Win).Bits).length au),(vi (((a).Old).N)),(vs P (((a).Old).Key).length Q),(vi (((a).Old).Seq)),(vi ((((a).Old).Win).Top)),(vs R ((((a).Old).Win).Bits).length S),(vb ((a).HasOld)),(vi (A+5)),(vs I ((a).Next).length J)] wN Cv BY gh ?_
  refine mw (vs aV ((tA a.Cur (1 - a.Role) b).2.1).length aW) ?_
  have dM:=nL O (nT x.size K)
  have gj:=(((((((((((((aI.kp x).kp u).ch p (nN dM)).kp i).kp l).kp m).kp q).kp r).kp ad).kp av).ch ax (nN (nL O (nT (z9 x u p i l m q r ad) aA)))).ch b0 (nN dM)).ch dn (nN dM))
  refine sv [(vi ((a).Role)),(vs B ((a).Sn).length C),(vi (((tA a.Cur (1 - a.Role) b).1).N)),(vs ao (((tA a.Cur (1 - a.Role) b).1).Key).length ap),(vi (((tA a.Cur (1 - a.Role) b).1).Seq)),(vi ((((tA a.Cur (1 - a.Role) b).1).Win).Top)),(vs aq ((((tA a.Cur (1 - a.Role) b).1).Win).Bits).length au),(vi (((a).Old).N)),(vs P (((a).Old).Key).length Q),(vi (((a).Old).Seq)),(vi ((((a).Old).Win).Top)),(vs R ((((a).Old).Win).Bits).length S),(vb ((a).HasOld)),(vi (A+5)),(vs I ((a).Next).length J)] wN BY gj ?_
  intro dl dN gk jx
  have gl:=gi.ext dN (fun k hk=>by subst hk;exact nT (z2 j f) aH)
  refine aw (vs aV ((tA a.Cur (1 - a.Role) b).2.1).length aW) ?_
  refine aw (vi 0) ?_
  refine n1 ?_
  have dp:=fun (E sz n:Nat) (v:Value) (L:List Value) (o:World.ownsRow af ac.heap.size E sz v n L) (y:World.ownsRow af ac.heap.size E sz v n L)=>(tC (tC (tC (tC (gc (gc (gc (gc (gc (gc (gc (tC (gc o u) p (ne2 y (K))) i) l) m) q) r) ad) av) ax (ne2 y (nT (z8 u p i l m q r ad) aA))) b0 (ne2 y (K))) dn (ne2 y (K))) dN (ne1 y (O)))
  have gm:=(dp _ _ _ _ _ M M)
  have dO:=fun (E sz n:Nat) (v:Value) (L:List Value) (o:World.ownsRow ak cN.heap.size E sz v n L) (y:World.ownsRow ak cN.heap.size E sz v n L)=>(tC (tC (tC (tC (gc o av) ax (ne2 y (aA))) b0 (ne1 y (nL aK (z6 p i l m q r)))) dn (ne1 y (nL aK (z6 p i l m q r)))) dN (ne1 y (nL O (z8 x u p i l m q r))))
  have gn:=(dO _ _ _ _ _ a7 a7)
  have gp:=(dO _ _ _ _ _ a8 a8)
  have gq:=(dp _ _ _ _ _ X X)
  have gr:=(dp _ _ _ _ _ Y Y)
  have gs:=(dp _ _ _ _ _ T T)
  have gu:=(dO _ _ _ _ _ a9 a9)
  refine ED (.inl rfl) (va [(vi ((a).Role)),(vs B ((a).Sn).length C),(vi (((tA a.Cur (1 - a.Role) b).1).N)),(vs ao (((tA a.Cur (1 - a.Role) b).1).Key).length ap),(vi (((tA a.Cur (1 - a.Role) b).1).Seq)),(vi ((((tA a.Cur (1 - a.Role) b).1).Win).Top)),(vs aq ((((tA a.Cur (1 - a.Role) b).1).Win).Bits).length au),(vi (((a).Old).N)),(vs P (((a).Old).Key).length Q),(vi (((a).Old).Seq)),(vi ((((a).Old).Win).Top)),(vs R ((((a).Old).Win).Bits).length S),(vb ((a).HasOld)),(vi (A+5)),(vs I ((a).Next).length J)]) (vs aV ((tA a.Cur (1 - a.Role) b).2.1).length aW) (vi 0) rfl (Fe [(vi ((a).Role)),(vs B ((a).Sn).length C),(vi (((tA a.Cur (1 - a.Role) b).1).N)),(vs ao (((tA a.Cur (1 - a.Role) b).1).Key).length ap),(vi (((tA a.Cur (1 - a.Role) b).1).Seq)),(vi ((((tA a.Cur (1 - a.Role) b).1).Win).Top)),(vs aq ((((tA a.Cur (1 - a.Role) b).1).Win).Bits).length au),(vi (((a).Old).N)),(vs P (((a).Old).Key).length Q),(vi (((a).Old).Seq)),(vi ((((a).Old).Win).Top)),(vs R ((((a).Old).Win).Bits).length S),(vb ((a).HasOld)),(vi (A+5)),(vs I ((a).Next).length J)] rfl gk Cv BY) rfl rfl ?_
  refine ⟨gl.keep0,?_⟩
  simp only [s_ChanOpen,ah,ai,aj,a0,a4,a1,bd,aX,bL,cond_true,cond_false]
  have dP:=z11 j f s x u p i l m q r
  have aC:=z7 u p i l m q r
  exact ⟨_,_,_,_,_,_,_,_,_,_,_,_,_,_,rfl,(tB gm (z3 j f s)),aJ,(tB gn dP),eB,(tB gp dP),eC,(tB gq (z3 j f s)),bb,(tB gr (z3 j f s)),bc,(tB gs (z3 j f s)),aS,(tB gu dP),eD,⟨⟨(Ap.lt M a7 aC),⟨(Ap.lt M a8 aC),⟨(d.1.2.2.1),⟨(d.1.2.2.2.1),⟨(d.1.2.2.2.2.1),⟨(Ap.lt M a9 aC),trivial⟩⟩⟩⟩⟩⟩,⟨⟨(cm.1.1),⟨(Ap.lt X a7 aC).symm,⟨(Ap.lt Y a7 aC).symm,⟨(Ap.lt T a7 aC).symm,⟨(cm.1.2.1),trivial⟩⟩⟩⟩⟩,⟨⟨(Ap.lt X a8 aC).symm,⟨(Ap.lt Y a8 aC).symm,⟨(Ap.lt T a8 aC).symm,⟨(cm.2.1.1),trivial⟩⟩⟩⟩,⟨⟨(d.2.2.2.1.1),⟨(d.2.2.2.1.2.1),⟨(Ap.lt X a9 aC),trivial⟩⟩⟩,⟨⟨(d.2.2.2.2.1.1),⟨(Ap.lt Y a9 aC),trivial⟩⟩,⟨⟨(Ap.lt T a9 aC),trivial⟩,⟨trivial,trivial⟩⟩⟩⟩⟩⟩⟩⟩
 have jy:=dF a1
 refine cf a1 ?_
 refine y2 ?_
 refine jF1 [(1,(vi A)),(3,(vp aa 0)),(5,(vp aY 0)),(6,(vp cM 0)),(7,(vs none 0 0)),(8,(vi 0)),(9,(vp az 0)),(10,(vi (1 - a.Role)))] (s_ChanOpen a A b=(DG a A b)) ?_ fun eK=>?_
 ·intro dq ak ab jz
  have cS:=a3.extk ab
  refine y2 ?_
  refine jF1 [(6,(vp cM 0)),(7,(vs none 0 0)),(8,(vi 0)),(9,(vp az 0))] (s_ChanOpen a A b=((a),[],8)) ?_ fun eL=>?_
  ·intro gv Z bM j0
   refine y1 ?_
   have gw:=(((((((aT.kp i).kp l).kp m).kp q).kp r).kp ab).kp bM)
   refine lN (Dv (a) B C D F G H P Q R S I J) wN Cv BY gw ?_
   refine CR wN rfl rfl tD (fun w=>by kernel_rfl) ?_
   intro eM bw dQ b1
   have gx:=(((((((((((aI.kp x).kp u).ch p (nN (nL O (nT x.size K)))).kp i).kp l).kp m).kp q).kp r).kp ab).kp bM).kp dQ)
   refine sv (Dv (a) B C D F G H P Q R S I J) wN BY gx ?_
   intro cP dR gy j1
   have gz:=((cS.extk bM).extk dQ).ext dR (fun k hk=>by subst hk;exact nT (z2 j f) aH)
   refine aw (vs (some eM) 0 0) ?_
   refine aw (vi 8) ?_
   refine n3 ?_
   have cp:=fun (E sz n:Nat) (v:Value) (L:List Value) (o:World.ownsRow af ac.heap.size E sz v n L) (y:World.ownsRow af ac.heap.size E sz v n L)=>(tC (gc (gc (gc (gc (gc (gc (gc (gc (tC (gc o u) p (ne2 y (K))) i) l) m) q) r) ab) bM) dQ) dR (ne1 y (O)))
   have g0:=(cp _ _ _ _ _ M M)
   have g1:=(cp _ _ _ _ _ V V)
   have g2:=(cp _ _ _ _ _ W W)
   have g3:=(cp _ _ _ _ _ X X)
   have g4:=(cp _ _ _ _ _ Y Y)
   have g5:=(cp _ _ _ _ _ T T)
   have g6:=(tC b1 dR (ne1 b1 (nL O (z10 x u p i l m q r ab bM))))
   refine ED (.inl rfl) (va (Dv (a) B C D F G H P Q R S I J)) (vs (some eM) 0 0) (vi 8) rfl (Fe (Dv (a) B C D F G H P Q R S I J) rfl gy Cv BY) rfl rfl ?_
   refine ⟨gz.keep0,?_⟩
   rw [gv]
   have cq:=z9 u p i l m q r ab bM
   exact ⟨_,_,_,_,_,_,_,_,_,_,_,_,_,_,rfl,(tB g0 (z3 j f s)),aJ,(tB g1 (z3 j f s)),aZ,(tB g2 (z3 j f s)),ba,(tB g3 (z3 j f s)),bb,(tB g4 (z3 j f s)),bc,(tB g5 (z3 j f s)),aS,(tB g6 (nT (z12 j f s x u p i l m q r ab) bM.size)),(by simp),⟨⟨(d.1.1),⟨(d.1.2.1),⟨(d.1.2.2.1),⟨(d.1.2.2.2.1),⟨(d.1.2.2.2.2.1),⟨(Ap.lt M b1 cq),trivial⟩⟩⟩⟩⟩⟩,⟨⟨(d.2.1.1),⟨(d.2.1.2.1),⟨(d.2.1.2.2.1),⟨(d.2.1.2.2.2.1),⟨(Ap.lt V b1 cq),trivial⟩⟩⟩⟩⟩,⟨⟨(d.2.2.1.1),⟨(d.2.2.1.2.1),⟨(d.2.2.1.2.2.1),⟨(Ap.lt W b1 cq),trivial⟩⟩⟩⟩,⟨⟨(d.2.2.2.1.1),⟨(d.2.2.2.1.2.1),⟨(Ap.lt X b1 cq),trivial⟩⟩⟩,⟨⟨(d.2.2.2.2.1.1),⟨(Ap.lt Y b1 cq),trivial⟩⟩,⟨⟨(Ap.lt T b1 cq),trivial⟩,⟨trivial,trivial⟩⟩⟩⟩⟩⟩⟩⟩
  refine pu (vp aa 14) wN ?_
  have dr:=(aU.kp ab)
  refine ld (vs b7 a.Next.length b8) wN BT dr ?_
  refine ln wN tD (cY.from0 cS) ?_
  refine pu (vb (decide (0 < (a.Next.length:Int)))) wN ?_
  refine mw (vb (decide (0 < (a.Next.length:Int)))) ?_
  rcases bf (decide (0 < (a.Next.length:Int))) with am|am
  ·have j2:=dF am
   iterate 7 refine sk am ?_
   refine pf (vb false) wN am ?_
   refine n2 ?_
   refine cf (Eq.refl false) ?_
   have g7:s_ChanOpen a A b=((a),[],8):=by rw [dq];simp only [DG,am,cond_true,cond_false]
   exact wj (eL g7 _ (Ch.refl _ _))
  have j3:=dT am
  refine pu (vp aY 7) (wS am) ?_
  have eN:=(cO.kp ab)
  refine ld (vi b.Epoch) (wS am) tE eN ?_
  refine pu (vp aa 2) (wS am) ?_
  refine pu (vp aa 2) (wS am) ?_
  refine ld (vi a.Cur.N) (wS am) tE dr ?_
  refine ar (a.Cur.N+1) (wS am) ?_
  refine pu (vb (decide (b.Epoch=(a.Cur.N+1)))) (wS am) ?_
  refine pk (vb (decide (b.Epoch=(a.Cur.N+1)))) wN am ?_
  refine n2 ?_
  rcases bf (decide (b.Epoch=(a.Cur.N+1))) with b2|b2
  ·have j4:=dF b2
   refine cf b2 ?_
   have g8:s_ChanOpen a A b=((a),[],8):=by rw [dq];simp only [DG,am,b2,cond_true,cond_false]
   exact wj (eL g8 _ (Ch.refl _ _))
  have j5:=dT b2
  refine ct b2 ?_
  refine Cc ?_
  refine CU ([(141,[],[],(fun _ v _=>v=(vp aa 2))),(142,[],[0],(fun _ v _=>v=(vp aa 2))),(143,[],[0,1],(fun _ v _=>v=(vi a.Cur.N))),(144,[],[0,1,2],(fun _ v _=>v=(vi (a.Cur.N+1)))),(145,[],[],(fun _ v _=>v=(vp aa 14))),(146,[],[4],(fun _ v _=>v=(vs b7 a.Next.length b8))),(147,[],[0,1,2,3,4,5],(fun _ v w=>Qk w ak.heap.size v (Cw (a.Cur.N+1) a.Next))),(148,[],[],(fun _ v _=>v=(vi (1 - a.Role)))),(149,[],[],(fun _ v _=>v=(va (EB b b9 bA bp bq bB bC bD bE bF bG bH bI)))),(150,[147],[0,1,2,3,4,5,6,7,8],(fun e v w=>Na w ak.heap.size v (tA (Cw (a.Cur.N+1) a.Next) (1 - a.Role) b) (fun eO eP eQ=>Ap (sp (wr (e 147) 1)) eO∧Ap (sp (wr (e 147) 1)) eP∧Ap (sp (wr (e 147) 1)) eQ∧Ap (sp (wr (e 147) 4)) eO∧Ap (sp (wr (e 147) 4)) eP∧Ap (sp (wr (e 147) 4)) eQ))),(140,[150],[0,1,2,3,4,5,6,7,8,9],(fun e v _=>v=(.tuple #[(.agg #[(vi (((tA (Cw (a.Cur.N+1) a.Next) (1 - a.Role) b).1).N)),(wr (DA (e 150) 0) 1),(vi (((tA (Cw (a.Cur.N+1) a.Next) (1 - a.Role) b).1).Seq)),(vi ((((tA (Cw (a.Cur.N+1) a.Next) (1 - a.Role) b).1).Win).Top)),(wr (DA (e 150) 0) 4)]),(DA (e 150) 1),(vi ((tA (Cw (a.Cur.N+1) a.Next) (1 - a.Role) b).2.2))]))),(151,[150],[0,1,2,3,4,5,6,7,8,9,10],(fun e v _=>v=(.agg #[(vi (((tA (Cw (a.Cur.N+1) a.Next) (1 - a.Role) b).1).N)),(wr (DA (e 150) 0) 1),(vi (((tA (Cw (a.Cur.N+1) a.Next) (1 - a.Role) b).1).Seq)),(vi ((((tA (Cw (a.Cur.N+1) a.Next) (1 - a.Role) b).1).Win).Top)),(wr (DA (e 150) 0) 4)]))),(152,[150],[0,1,2,3,4,5,6,7,8,9,10],(fun e v _=>v=(DA (e 150) 1))),(153,[],[0,1,2,3,4,5,6,7,8,9,10],(fun _ v _=>v=(vi ((tA (Cw (a.Cur.N+1) a.Next) (1 - a.Role) b).2.2)))),(17,[],[],(fun _ v w=>∃ (g:Nat) (bN bO bP bQ bR:Value),v=vp g 0∧ak.heap.size≤g∧Blk w g 36 [bN,bO,bP,bQ,bR])),(189,[17,150],[0,1,2,3,4,5,6,7,8,9,10,11,14],(fun e _ w=>∃ g:Nat,e 17=vp g 0∧ak.heap.size≤g∧Blk w g 36 [(vi (((tA (Cw (a.Cur.N+1) a.Next) (1 - a.Role) b).1).N)),(wr (DA (e 150) 0) 1),(vi (((tA (Cw (a.Cur.N+1) a.Next) (1 - a.Role) b).1).Seq)),(vi ((((tA (Cw (a.Cur.N+1) a.Next) (1 - a.Role) b).1).Win).Top)),(wr (DA (e 150) 0) 4)])),(18,[150],[0,1,2,3,4,5,6,7,8,9,10,11,12,14,15],(fun e v _=>v=(DA (e 150) 1)))]:GV) (fun _ bo=>Keep ak bo) [(15,fun w bo=>∃ g:Nat,ak.heap.size≤g∧(∃ bN bO bP bQ bR:Value,Blk w g 36 [bN,bO,bP,bQ,bR])∧Ch (fun k=>k=g) w bo∧∃ bN bO bP bQ bR:Value,Blk bo g 36 [bN,bO,bP,bQ,bR])] DN rfl (by kernel_rfl) (by kernel_rfl) ?_ (fun _ _ h=>h) (fun _ _ _ _ h _ k=>h.trans k) ⟨(fun _ _ w bo h _ _ t=>by obtain ⟨g,hle,-,g9,-⟩:=t;exact h.new g9 (fun k hk=>by have j6:k=g:=hk;omega)),trivial⟩ ?_ ?_ ?_
  ·exact ⟨hV,hE,⟨hV,hE,⟨hV,hE,⟨hV,hE,⟨hV,hE,⟨hV,hE,⟨(fun e v w dj h hk=>by obtain ⟨bS,bT,bU,bW,he,bX,bY,bZ,ca,hap⟩:=h;exact ⟨bS,bT,bU,bW,he,gc bX hk,bY,gc bZ hk,ca,hap⟩),hE,⟨hV,hE,⟨hV,hE,⟨(fun e v w dj h hk=>by obtain ⟨bS,bT,bU,bW,dS,dU,he,bX,bY,bZ,ca,dV,dW,hap,hx⟩:=h;exact ⟨bS,bT,bU,bW,dS,dU,he,gc bX hk,bY,gc bZ hk,ca,gc dV hk,dW,hap,hx⟩),(fun cT cU v w hx h=>by have gA:=hx 147 (by simp);simp only [gA] at h;exact h),⟨hV,(fun cT cU v w hx h=>by have be:=hx 150 (by simp);simp only [be] at h;exact h),⟨hV,(fun cT cU v w hx h=>by have be:=hx 150 (by simp);simp only [be] at h;exact h),⟨hV,(fun cT cU v w hx h=>by have be:=hx 150 (by simp);simp only [be] at h;exact h),⟨hV,hE,⟨(fun e v w dj h hk=>by obtain ⟨g,bN,bO,bP,bQ,bR,he,hle,hb⟩:=h;exact ⟨g,_,_,_,_,_,he,hle,hb.kp hk⟩),hE,⟨(fun e v w dj h hk=>by obtain ⟨g,he,hle,hb⟩:=h;exact ⟨g,he,hle,hb.kp hk⟩),(fun cT cU v w hx h=>by have gB:=hx 17 (by simp);have be:=hx 150 (by simp);simp only [gB,be] at h;exact h),⟨hV,(fun cT cU v w hx h=>by have be:=hx 150 (by simp);simp only [be] at h;exact h),trivial⟩⟩⟩⟩⟩⟩⟩⟩⟩⟩⟩⟩⟩⟩⟩⟩⟩
  ·exact ⟨⟨.inr hV,⟨.inr hV,⟨.inr hV,⟨.inr hV,⟨.inr hV,⟨.inr hV,⟨.inr (fun e v wX wY h ht=>by obtain ⟨bS,bT,bU,bW,he,bX,bY,bZ,ca,hap⟩:=h;obtain ⟨gt,hlt,⟨_,_,_,_,_,hbt⟩,hct,⟨_,_,_,_,_,dX⟩⟩:=ht;exact ⟨bS,bT,bU,bW,he,Dc bX hbt (by decide) hct,bY,Dc bZ hbt (by decide) hct,ca,hap⟩),⟨.inr hV,⟨.inr hV,⟨.inr (fun e v wX wY h ht=>by obtain ⟨bS,bT,bU,bW,dS,dU,he,bX,bY,bZ,ca,dV,dW,hap,hx⟩:=h;obtain ⟨gt,hlt,⟨_,_,_,_,_,hbt⟩,hct,⟨_,_,_,_,_,dX⟩⟩:=ht;exact ⟨bS,bT,bU,bW,dS,dU,he,Dc bX hbt (by decide) hct,bY,Dc bZ hbt (by decide) hct,ca,Dc dV hbt (by decide) hct,dW,hap,hx⟩),⟨.inr hV,⟨.inr hV,⟨.inr hV,⟨.inr hV,⟨.inr (fun e v wX wY h ht=>by obtain ⟨g,bN,bO,bP,bQ,bR,he,hle,hb⟩:=h;obtain ⟨gt,hlt,⟨_,_,_,_,_,hbt⟩,hct,⟨_,_,_,_,_,dX⟩⟩:=ht;by_cases hg:g=gt;(· subst hg;exact ⟨g,_,_,_,_,_,he,hle,dX⟩);(· exact ⟨g,_,_,_,_,_,he,hle,hb.ch hct hg⟩)),⟨.inl rfl,⟨.inr hV,trivial⟩⟩⟩⟩⟩⟩⟩⟩⟩⟩⟩⟩⟩⟩⟩⟩⟩,trivial⟩
  ·refine ⟨?_,⟨?_,⟨?_,⟨?_,⟨?_,⟨?_,⟨?_,⟨?_,⟨?_,⟨?_,⟨?_,⟨?_,⟨?_,⟨?_,⟨?_,⟨?_,⟨?_,trivial⟩⟩⟩⟩⟩⟩⟩⟩⟩⟩⟩⟩⟩⟩⟩⟩⟩
   ·intro _ Z j7 _
    rintro _ _ _ _ _ _ _ _ _ _ _ _ _ _ _ _ _
    refine sw ?_
    refine pu (vp aa 2) wN ?_
    exact f1
   ·intro _ Z j8 _
    rintro _ rfl _ _ _ _ _ _ _ _ _ _ _ _ _ _ _ _
    refine sw ?_
    refine pu (vp aa 2) wN ?_
    exact f1
   ·intro _ Z gC _
    rintro _ rfl _ rfl _ _ _ _ _ _ _ _ _ _ _ _ _ _ _
    refine sw ?_
    have gD:=(dr.kp gC)
    refine ld (vi a.Cur.N) wN tE gD ?_
    exact f1
   ·intro _ Z j9 _
    rintro _ rfl _ rfl _ rfl _ _ _ _ _ _ _ _ _ _ _ _ _ _
    refine sw ?_
    refine ar (a.Cur.N+1) wN ?_
    exact f1
   ·intro _ Z jA _
    rintro _ _ _ _ _ _ _ _ _ _ _ _ _ _ _ _ _
    refine sw ?_
    refine pu (vp aa 14) wN ?_
    exact f1
   ·intro _ Z gE _
    rintro _ _ _ _ _ rfl _ _ _ _ _ _ _ _ _ _ _ _
    refine sw ?_
    have gF:=(dr.kp gE)
    refine ld (vs b7 a.Next.length b8) wN BT gF ?_
    exact f1
   ·intro _ Z dY _
    have gG:=cS.extk dY
    rintro _ rfl _ rfl _ rfl _ rfl _ rfl _ rfl _ _ _ _ _ _ _ _ _ _ _
    refine sw ?_
    refine cl wN (QJ Z (a.Cur.N+1) _ a.Next (CC (cY.from0 gG) d9)) ?_
    rintro _ bw ⟨gH,⟨jC,jD,jE,jF,rfl,gI,gJ,gK,gL,gM⟩⟩
    exact CN gH ⟨_,_,_,_,rfl,(tB gI dY.size),gJ,(tB gK dY.size),gL,gM⟩
   ·intro _ Z jG _
    rintro _ _ _ _ _ _ _ _ _ _ _ _ _ _ _ _ _
    refine sw ?_
    refine mw (vi (1 - a.Role)) ?_
    exact f1
   ·intro _ Z gN _
    rintro _ _ _ _ _ _ _ _ _ _ _ _ _ _ _ _ _
    refine sw ?_
    have gO:=(eN.kp gN)
    refine lN (EB b b9 bA bp bq bB bC bD bE bF bG bH bI) wN Dn CV gO ?_
    exact f1
   ·intro _ Z ds _
    have cr:=cS.extk ds
    rintro _ rfl _ rfl _ rfl _ rfl _ rfl _ rfl _ ⟨jH,jI,jJ,jK,rfl,dt,gP,du,gQ,jL⟩ _ rfl _ rfl _ _ _ _ _ _ _ _
    refine sw ?_
    refine cl wN (Kf Z _ (Cw (a.Cur.N+1) a.Next) (Fh (Rd.of_own dt) gP (Rd.of_own du) gQ) (1 - a.Role) _ b (FC (cZ.from0 cr) da (cK.from0 cr) cL (db.from0 cr) dc (dd.from0 cr) de (df.from0 cr) dg (dh.from0 cr) di)) ?_
    rintro _ bw ⟨gR,⟨jM,jN,jO,jP,jQ,jR,rfl,dZ,gS,ea,gT,ec,gU,gV⟩⟩
    exact CN gR ⟨_,_,_,_,_,_,rfl,(tB dZ ds.size),gS,(tB ea ds.size),gT,(tB ec ds.size),gU,gV,⟨(Ap.lt dt dZ (Nat.le_refl _)),(Ap.lt dt ea (Nat.le_refl _)),(Ap.lt dt ec (Nat.le_refl _)),(Ap.lt du dZ (Nat.le_refl _)),(Ap.lt du ea (Nat.le_refl _)),(Ap.lt du ec (Nat.le_refl _))⟩⟩
   ·intro _ Z jS _
    rintro _ rfl _ rfl _ rfl _ rfl _ rfl _ rfl _ ⟨jT,jU,jV,jW,rfl,_⟩ _ rfl _ rfl _ ⟨gW,gX,gY,gZ,ha,hc,rfl,_⟩ _ _ _ _ _ _ _
    refine sw ?_
    refine mw (.tuple #[(va (Dd ((tA (Cw (a.Cur.N+1) a.Next) (1 - a.Role) b).1) gW gX gY gZ)),(vs ha ((tA (Cw (a.Cur.N+1) a.Next) (1 - a.Role) b).2.1).length hc),(vi ((tA (Cw (a.Cur.N+1) a.Next) (1 - a.Role) b).2.2))]) ?_
    exact f1
   ·intro _ Z jX _
    rintro _ rfl _ rfl _ rfl _ rfl _ rfl _ rfl _ ⟨jY,jZ,ka,kb,rfl,_⟩ _ rfl _ rfl _ ⟨hd,hf,hh,hi,kc,kd,rfl,_⟩ _ rfl _ _ _ _ _ _
    refine sw ?_
    refine pu (va (Dd ((tA (Cw (a.Cur.N+1) a.Next) (1 - a.Role) b).1) hd hf hh hi)) wN ?_
    exact f1
   ·intro _ Z ke _
    rintro _ rfl _ rfl _ rfl _ rfl _ rfl _ rfl _ ⟨kf,kg,kh,ki,rfl,_⟩ _ rfl _ rfl _ ⟨kj,kk,kl,km,hj,hl,rfl,_⟩ _ rfl _ _ _ _ _ _
    refine sw ?_
    refine pu (vs hj ((tA (Cw (a.Cur.N+1) a.Next) (1 - a.Role) b).2.1).length hl) wN ?_
    exact f1
   ·intro _ Z kn _
    rintro _ rfl _ rfl _ rfl _ rfl _ rfl _ rfl _ ⟨ko,kq,kr,ks,rfl,_⟩ _ rfl _ rfl _ ⟨kt,ku,kv,kx,ky,kz,rfl,_⟩ _ rfl _ _ _ _ _ _
    refine sw ?_
    refine pu (vi ((tA (Cw (a.Cur.N+1) a.Next) (1 - a.Role) b).2.2)) wN ?_
    exact f1
   ·intro _ Z hm _
    rintro _ _ _ _ _ _ _ _ _ _ _ _ _ _ _ _ _
    refine sw ?_
    refine al HC wN Ev ?_
    intro k1 bw hn k2 ho hp
    exact CN ho ⟨_,_,_,_,_,_,rfl,(nT hm.size hn),hp⟩
   ·intro _ Z k3 _
    rintro _ rfl _ rfl _ rfl _ rfl _ rfl _ rfl _ ⟨k4,k5,k6,k7,rfl,_⟩ _ rfl _ rfl _ ⟨hq,hr,hs,hu,k8,k9,rfl,_⟩ _ rfl _ rfl _ _ _ ⟨kA,kB,kC,kD,kE,kF,rfl,eR,eS⟩ _ _
    refine sw ?_
    refine sv (Dd ((tA (Cw (a.Cur.N+1) a.Next) (1 - a.Role) b).1) hq hr hs hu) wN BW eS ?_
    intro bw hv eT kG
    exact JI (by decide) ⟨_,eR,⟨_,_,_,_,_,eS⟩,hv,⟨_,_,_,_,_,eT⟩⟩ ⟨_,rfl,eR,eT⟩
   ·intro _ Z kH _
    rintro _ rfl _ rfl _ rfl _ rfl _ rfl _ rfl _ ⟨kI,kJ,kK,kL,rfl,_⟩ _ rfl _ rfl _ ⟨kM,kN,kO,kP,hw,hy,rfl,_⟩ _ rfl _ rfl _ rfl _ _ ⟨kQ,kR,kS,kT,kU,kV,rfl,kW,kX⟩ _ ⟨h0,h1,-,kY⟩
    have hz:=Ji h1
    subst h0
    intro _
    refine sw ?_
    refine aw (vs hw ((tA (Cw (a.Cur.N+1) a.Next) (1 - a.Role) b).2.1).length hy) ?_
    exact f1
  ·intro _ Z a2
   have eU:=cS.extk a2
   rintro _ rfl _ rfl _ rfl _ rfl _ rfl _ rfl _ ⟨kZ,la,lb,lc,rfl,_⟩ _ rfl _ rfl _ ⟨bg,bh,bi,bj,ed,ee,rfl,cs,h2,cu,h3,cv,h4,ef,lf⟩ _ rfl _ rfl _ rfl _ rfl _ ⟨lg,lh,li,lj,lk,ll,rfl,h5,lm⟩ _ ⟨h6,h7,-,h8⟩
   have hz:=Ji h7
   subst h6
   rintro _ rfl
   refine sw ?_
   refine aw (vi ((tA (Cw (a.Cur.N+1) a.Next) (1 - a.Role) b).2.2)) ?_
   refine n4 ?_
   refine mw (vi ((tA (Cw (a.Cur.N+1) a.Next) (1 - a.Role) b).2.2)) ?_
   refine pu (vb (!(decide ((tA (Cw (a.Cur.N+1) a.Next) (1 - a.Role) b).2.2=0)))) wN ?_
   refine n2 ?_
   rcases bf (decide ((tA (Cw (a.Cur.N+1) a.Next) (1 - a.Role) b).2.2=0)) with cb|cb
   ·have lo:=dF cb
    refine ct (cA not cb) ?_
    refine sr ?_
    have h9:=(((((((aT.kp i).kp l).kp m).kp q).kp r).kp ab).kp a2)
    refine lN (Dv (a) B C D F G H P Q R S I J) wN Cv BY h9 ?_
    refine CR wN rfl rfl tD (fun w=>by kernel_rfl) ?_
    intro eV bw eg b3
    refine mw (vi ((tA (Cw (a.Cur.N+1) a.Next) (1 - a.Role) b).2.2)) ?_
    have hA:=(((((((((((aI.kp x).kp u).ch p (nN (nL O (nT x.size K)))).kp i).kp l).kp m).kp q).kp r).kp ab).kp a2).kp eg)
    refine sv (Dv (a) B C D F G H P Q R S I J) wN BY hA ?_
    intro cP eh hB lp
    have hC:=(eU.extk eg).ext eh (fun k hk=>by subst hk;exact nT (z2 j f) aH)
    refine aw (vs (some eV) 0 0) ?_
    refine aw (vi ((tA (Cw (a.Cur.N+1) a.Next) (1 - a.Role) b).2.2)) ?_
    refine BU<|re<|DJ<|Cb<|Cb ?_
    have cw:=fun (E sz n:Nat) (v:Value) (L:List Value) (o:World.ownsRow af ac.heap.size E sz v n L) (y:World.ownsRow af ac.heap.size E sz v n L)=>(tC (gc (gc (gc (gc (gc (gc (gc (gc (tC (gc o u) p (ne2 y (K))) i) l) m) q) r) ab) a2) eg) eh (ne1 y (O)))
    have hD:=(cw _ _ _ _ _ M M)
    have hF:=(cw _ _ _ _ _ V V)
    have hG:=(cw _ _ _ _ _ W W)
    have hH:=(cw _ _ _ _ _ X X)
    have hI:=(cw _ _ _ _ _ Y Y)
    have hJ:=(cw _ _ _ _ _ T T)
    have hK:=(tC b3 eh (ne1 b3 (nL O (z10 x u p i l m q r ab a2))))
    refine ED (.inl rfl) (va (Dv (a) B C D F G H P Q R S I J)) (vs (some eV) 0 0) (vi ((tA (Cw (a.Cur.N+1) a.Next) (1 - a.Role) b).2.2)) rfl (Fe (Dv (a) B C D F G H P Q R S I J) rfl hB Cv BY) rfl rfl ?_
    refine ⟨hC.keep0,?_⟩
    rw [dq];simp only [DG,am,b2,cb,cond_true,cond_false]
    have cx:=z9 u p i l m q r ab a2
    exact ⟨_,_,_,_,_,_,_,_,_,_,_,_,_,_,rfl,(tB hD (z3 j f s)),aJ,(tB hF (z3 j f s)),aZ,(tB hG (z3 j f s)),ba,(tB hH (z3 j f s)),bb,(tB hI (z3 j f s)),bc,(tB hJ (z3 j f s)),aS,(tB hK (nT (z12 j f s x u p i l m q r ab) a2.size)),(by simp),⟨⟨(d.1.1),⟨(d.1.2.1),⟨(d.1.2.2.1),⟨(d.1.2.2.2.1),⟨(d.1.2.2.2.2.1),⟨(Ap.lt M b3 cx),trivial⟩⟩⟩⟩⟩⟩,⟨⟨(d.2.1.1),⟨(d.2.1.2.1),⟨(d.2.1.2.2.1),⟨(d.2.1.2.2.2.1),⟨(Ap.lt V b3 cx),trivial⟩⟩⟩⟩⟩,⟨⟨(d.2.2.1.1),⟨(d.2.2.1.2.1),⟨(d.2.2.1.2.2.1),⟨(Ap.lt W b3 cx),trivial⟩⟩⟩⟩,⟨⟨(d.2.2.2.1.1),⟨(d.2.2.2.1.2.1),⟨(Ap.lt X b3 cx),trivial⟩⟩⟩,⟨⟨(d.2.2.2.2.1.1),⟨(Ap.lt Y b3 cx),trivial⟩⟩,⟨⟨(Ap.lt T b3 cx),trivial⟩,⟨trivial,trivial⟩⟩⟩⟩⟩⟩⟩⟩
   have lq:=dT cb
   refine cf (cA not cb) ?_
   refine y1 ?_
   refine pu (vp az 2) wN ?_
   have eW:=(((((((aT.kp i).kp l).kp m).kp q).kp r).kp ab).kp a2)
   refine lN (Dd ((a).Cur) D F G H) wN Cs BW eW ?_
   refine pu (vp az 7) wN ?_
   refine st (va (Dd ((a).Cur) D F G H)) (Dd ((a).Cur) D F G H) [(vi ((a).Role)),(vs B ((a).Sn).length C),(vi (((a).Cur).N)),(vs D (((a).Cur).Key).length F),(vi (((a).Cur).Seq)),(vi ((((a).Cur).Win).Top)),(vs G ((((a).Cur).Win).Bits).length H),(vi (((a).Cur).N)),(vs D (((a).Cur).Key).length F),(vi (((a).Cur).Seq)),(vi ((((a).Cur).Win).Top)),(vs G ((((a).Cur).Win).Bits).length H),(vb ((a).HasOld)),(vi ((a).Until)),(vs I ((a).Next).length J)] wN BW eW ?_
   intro bw aD hL lr
   have hM:=eU.ext aD (fun k hk=>by subst hk;exact nT (z4 j f s x) K)
   refine nx ?_
   refine pu (vp az 12) wN ?_
   refine st (vb true) [(vb true)] [(vi ((a).Role)),(vs B ((a).Sn).length C),(vi (((a).Cur).N)),(vs D (((a).Cur).Key).length F),(vi (((a).Cur).Seq)),(vi ((((a).Cur).Win).Top)),(vs G ((((a).Cur).Win).Bits).length H),(vi (((a).Cur).N)),(vs D (((a).Cur).Key).length F),(vi (((a).Cur).Seq)),(vi ((((a).Cur).Win).Top)),(vs G ((((a).Cur).Win).Bits).length H),(vb true),(vi ((a).Until)),(vs I ((a).Next).length J)] wN Ib hL ?_
   intro cP aE hN ls
   have hO:=hM.ext aE (fun k hk=>by subst hk;exact nT (z4 j f s x) K)
   refine nx ?_
   refine mw (vi A) ?_
   refine ar (A+5) wN ?_
   refine pu (vp az 13) wN ?_
   refine st (vi (A+5)) [(vi (A+5))] [(vi ((a).Role)),(vs B ((a).Sn).length C),(vi (((a).Cur).N)),(vs D (((a).Cur).Key).length F),(vi (((a).Cur).Seq)),(vi ((((a).Cur).Win).Top)),(vs G ((((a).Cur).Win).Bits).length H),(vi (((a).Cur).N)),(vs D (((a).Cur).Key).length F),(vi (((a).Cur).Seq)),(vi ((((a).Cur).Win).Top)),(vs G ((((a).Cur).Win).Bits).length H),(vb true),(vi (A+5)),(vs I ((a).Next).length J)] wN CZ hN ?_
   intro cQ aF hP lu
   have hQ:=hO.ext aF (fun k hk=>by subst hk;exact nT (z4 j f s x) K)
   refine nx ?_
   have ej:=nL aK (nT (z7 p i l m q r ab) h5)
   have hR:=(((h8.ch aD (Ne.symm (nN ej))).ch aE (Ne.symm (nN ej))).ch aF (Ne.symm (nN ej)))
   refine lN (Dd ((tA (Cw (a.Cur.N+1) a.Next) (1 - a.Role) b).1) bg bh bi bj) wN Cs BW hR ?_
   refine pu (vp az 2) wN ?_
   refine st (va (Dd ((tA (Cw (a.Cur.N+1) a.Next) (1 - a.Role) b).1) bg bh bi bj)) (Dd ((tA (Cw (a.Cur.N+1) a.Next) (1 - a.Role) b).1) bg bh bi bj) [(vi ((a).Role)),(vs B ((a).Sn).length C),(vi (((tA (Cw (a.Cur.N+1) a.Next) (1 - a.Role) b).1).N)),(vs bg (((tA (Cw (a.Cur.N+1) a.Next) (1 - a.Role) b).1).Key).length bh),(vi (((tA (Cw (a.Cur.N+1) a.Next) (1 - a.Role) b).1).Seq)),(vi ((((tA (Cw (a.Cur.N+1) a.Next) (1 - a.Role) b).1).Win).Top)),(vs bi ((((tA (Cw (a.Cur.N+1) a.Next) (1 - a.Role) b).1).Win).Bits).length bj),(vi (((a).Cur).N)),(vs D (((a).Cur).Key).length F),(vi (((a).Cur).Seq)),(vi ((((a).Cur).Win).Top)),(vs G ((((a).Cur).Win).Bits).length H),(vb true),(vi (A+5)),(vs I ((a).Next).length J)] wN BW hP ?_
   intro dl aL hS lv
   have hT:=hQ.ext aL (fun k hk=>by subst hk;exact nT (z4 j f s x) K)
   refine nx ?_
   refine CR wN rfl rfl tD (fun w=>by kernel_rfl) ?_
   intro cc lw cV bk
   refine pu (vp az 14) wN ?_
   have hU:=(hS.kp cV)
   refine st (vs (some cc) 0 0) [(vs (some cc) 0 0)] [(vi ((a).Role)),(vs B ((a).Sn).length C),(vi (((tA (Cw (a.Cur.N+1) a.Next) (1 - a.Role) b).1).N)),(vs bg (((tA (Cw (a.Cur.N+1) a.Next) (1 - a.Role) b).1).Key).length bh),(vi (((tA (Cw (a.Cur.N+1) a.Next) (1 - a.Role) b).1).Seq)),(vi ((((tA (Cw (a.Cur.N+1) a.Next) (1 - a.Role) b).1).Win).Top)),(vs bi ((((tA (Cw (a.Cur.N+1) a.Next) (1 - a.Role) b).1).Win).Bits).length bj),(vi (((a).Cur).N)),(vs D (((a).Cur).Key).length F),(vi (((a).Cur).Seq)),(vi ((((a).Cur).Win).Top)),(vs G ((((a).Cur).Win).Bits).length H),(vb true),(vi (A+5)),(vs (some cc) 0 0)] wN Dj hU ?_
   intro lx cW hW ly
   have hX:=(hT.extk cV).ext cW (fun k hk=>by subst hk;exact nT (z4 j f s x) K)
   refine nx ?_
   refine lN [(vi ((a).Role)),(vs B ((a).Sn).length C),(vi (((tA (Cw (a.Cur.N+1) a.Next) (1 - a.Role) b).1).N)),(vs bg (((tA (Cw (a.Cur.N+1) a.Next) (1 - a.Role) b).1).Key).length bh),(vi (((tA (Cw (a.Cur.N+1) a.Next) (1 - a.Role) b).1).Seq)),(vi ((((tA (Cw (a.Cur.N+1) a.Next) (1 - a.Role) b).1).Win).Top)),(vs bi ((((tA (Cw (a.Cur.N+1) a.Next) (1 - a.Role) b).1).Win).Bits).length bj),(vi (((a).Cur).N)),(vs D (((a).Cur).Key).length F),(vi (((a).Cur).Seq)),(vi ((((a).Cur).Win).Top)),(vs G ((((a).Cur).Win).Bits).length H),(vb true),(vi (A+5)),(vs (some cc) 0 0)] wN Cv BY hW ?_
   refine mw (vs ed ((tA (Cw (a.Cur.N+1) a.Next) (1 - a.Role) b).2.1).length ee) ?_
   have cy:=nL O (nT x.size K)
   have hY:=((((((((((((((((aI.kp x).kp u).ch p (nN cy)).kp i).kp l).kp m).kp q).kp r).kp ab).kp a2).ch aD (nN cy)).ch aE (nN cy)).ch aF (nN cy)).ch aL (nN cy)).kp cV).ch cW (nN cy))
   refine sv [(vi ((a).Role)),(vs B ((a).Sn).length C),(vi (((tA (Cw (a.Cur.N+1) a.Next) (1 - a.Role) b).1).N)),(vs bg (((tA (Cw (a.Cur.N+1) a.Next) (1 - a.Role) b).1).Key).length bh),(vi (((tA (Cw (a.Cur.N+1) a.Next) (1 - a.Role) b).1).Seq)),(vi ((((tA (Cw (a.Cur.N+1) a.Next) (1 - a.Role) b).1).Win).Top)),(vs bi ((((tA (Cw (a.Cur.N+1) a.Next) (1 - a.Role) b).1).Win).Bits).length bj),(vi (((a).Cur).N)),(vs D (((a).Cur).Key).length F),(vi (((a).Cur).Seq)),(vi ((((a).Cur).Win).Top)),(vs G ((((a).Cur).Win).Bits).length H),(vb true),(vi (A+5)),(vs (some cc) 0 0)] wN BY hY ?_
   intro lz dv hZ l0
   have ia:=hX.ext dv (fun k hk=>by subst hk;exact nT (z2 j f) aH)
   refine aw (vs ed ((tA (Cw (a.Cur.N+1) a.Next) (1 - a.Role) b).2.1).length ee) ?_
   refine aw (vi 0) ?_
   refine n1 ?_
   have ek:=fun (E sz n:Nat) (v:Value) (L:List Value) (o:World.ownsRow af ac.heap.size E sz v n L) (y:World.ownsRow af ac.heap.size E sz v n L)=>(tC (tC (gc (tC (tC (tC (tC (gc (gc (gc (gc (gc (gc (gc (tC (gc o u) p (ne2 y (K))) i) l) m) q) r) ab) a2) aD (ne2 y (K))) aE (ne2 y (K))) aF (ne2 y (K))) aL (ne2 y (K))) cV) cW (ne2 y (K))) dv (ne1 y (O)))
   have ib:=(ek _ _ _ _ _ M M)
   have cX:=nL aK (z7 p i l m q r ab)
   have em:=fun (E sz n:Nat) (v:Value) (L:List Value) (o:World.ownsRow Z ak.heap.size E sz v n L) (y:World.ownsRow Z ak.heap.size E sz v n L)=>(tC (tC (gc (tC (tC (tC (tC o aD (ne1 y cX)) aE (ne1 y cX)) aF (ne1 y cX)) aL (ne1 y cX)) cV) cW (ne1 y cX)) dv (ne1 y (nL O (z9 x u p i l m q r ab))))
   have ic:=(em _ _ _ _ _ cs cs)
   have ie:=(em _ _ _ _ _ cu cu)
   have ig:=(ek _ _ _ _ _ V V)
   have ih:=(ek _ _ _ _ _ W W)
   have ii:=(tC (tC bk cW (ne1 bk (nL aK (z12 p i l m q r ab a2 aD aE aF aL)))) dv (ne1 bk (nL O (t3 (z12 x u p i l m q r ab a2 aD aE) aF.size aL.size))))
   have ij:=(em _ _ _ _ _ cv cv)
   refine ED (.inl rfl) (va [(vi ((a).Role)),(vs B ((a).Sn).length C),(vi (((tA (Cw (a.Cur.N+1) a.Next) (1 - a.Role) b).1).N)),(vs bg (((tA (Cw (a.Cur.N+1) a.Next) (1 - a.Role) b).1).Key).length bh),(vi (((tA (Cw (a.Cur.N+1) a.Next) (1 - a.Role) b).1).Seq)),(vi ((((tA (Cw (a.Cur.N+1) a.Next) (1 - a.Role) b).1).Win).Top)),(vs bi ((((tA (Cw (a.Cur.N+1) a.Next) (1 - a.Role) b).1).Win).Bits).length bj),(vi (((a).Cur).N)),(vs D (((a).Cur).Key).length F),(vi (((a).Cur).Seq)),(vi ((((a).Cur).Win).Top)),(vs G ((((a).Cur).Win).Bits).length H),(vb true),(vi (A+5)),(vs (some cc) 0 0)]) (vs ed ((tA (Cw (a.Cur.N+1) a.Next) (1 - a.Role) b).2.1).length ee) (vi 0) rfl (Fe [(vi ((a).Role)),(vs B ((a).Sn).length C),(vi (((tA (Cw (a.Cur.N+1) a.Next) (1 - a.Role) b).1).N)),(vs bg (((tA (Cw (a.Cur.N+1) a.Next) (1 - a.Role) b).1).Key).length bh),(vi (((tA (Cw (a.Cur.N+1) a.Next) (1 - a.Role) b).1).Seq)),(vi ((((tA (Cw (a.Cur.N+1) a.Next) (1 - a.Role) b).1).Win).Top)),(vs bi ((((tA (Cw (a.Cur.N+1) a.Next) (1 - a.Role) b).1).Win).Bits).length bj),(vi (((a).Cur).N)),(vs D (((a).Cur).Key).length F),(vi (((a).Cur).Seq)),(vi ((((a).Cur).Win).Top)),(vs G ((((a).Cur).Win).Bits).length H),(vb true),(vi (A+5)),(vs (some cc) 0 0)] rfl hZ Cv BY) rfl rfl ?_
   refine ⟨ia.keep0,?_⟩
   rw [dq];simp only [DG,am,b2,cb,cond_true,cond_false]
   have en:=nT (z12 u p i l m q r ab a2 aD aE aF) aL.size
   have dw:=z12 j f s x u p i l m q r ab
   have bl:=z8 u p i l m q r ab
   exact ⟨_,_,_,_,_,_,_,_,_,_,_,_,_,_,rfl,(tB ib (z3 j f s)),aJ,(tB ic dw),h2,(tB ie dw),h3,(tB ig (z3 j f s)),aZ,(tB ih (z3 j f s)),ba,(tB ii (t6 dw a2.size aD.size aE.size aF.size aL.size)),(by simp),(tB ij dw),h4,⟨⟨(Ap.lt M cs bl),⟨(Ap.lt M cu bl),⟨(d.1.1),⟨(d.1.2.1),⟨(Ap.lt M bk en),⟨(Ap.lt M cv bl),trivial⟩⟩⟩⟩⟩⟩,⟨⟨(ef.1.1),⟨(Ap.lt V cs bl).symm,⟨(Ap.lt W cs bl).symm,⟨(Ap.lt cs bk (z4 aD aE aF aL)),⟨(ef.1.2.1),trivial⟩⟩⟩⟩⟩,⟨⟨(Ap.lt V cu bl).symm,⟨(Ap.lt W cu bl).symm,⟨(Ap.lt cu bk (z4 aD aE aF aL)),⟨(ef.2.1.1),trivial⟩⟩⟩⟩,⟨⟨(d.2.1.1),⟨(Ap.lt V bk en),⟨(Ap.lt V cv bl),trivial⟩⟩⟩,⟨⟨(Ap.lt W bk en),⟨(Ap.lt W cv bl),trivial⟩⟩,⟨⟨(Ap.lt cv bk (z4 aD aE aF aL)).symm,trivial⟩,⟨trivial,trivial⟩⟩⟩⟩⟩⟩⟩⟩
 refine pu (vp aa 12) wN ?_
 refine ld (vb a.HasOld) wN FZ aU ?_
 refine mw (vb a.HasOld) ?_
 rcases bf a.HasOld with ay|ay
 ·iterate 6 refine sk ay ?_
  refine pf (vb false) wN ay ?_
  refine n2 ?_
  refine cf (Eq.refl false) ?_
  have ik:s_ChanOpen a A b=(DG a A b):=by simp only [s_ChanOpen,ah,ai,aj,a0,a4,a1,ay,cond_true,cond_false]
  exact wj (eK ik _ (Ch.refl _ _))
 refine pu (vp aY 7) (wS ay) ?_
 refine ld (vi b.Epoch) (wS ay) tE cO ?_
 refine pu (vp aa 7) (wS ay) ?_
 refine pu (vp aa 7) (wS ay) ?_
 refine ld (vi a.Old.N) (wS ay) tE aU ?_
 refine pu (vb (decide (b.Epoch=a.Old.N))) (wS ay) ?_
 refine pk (vb (decide (b.Epoch=a.Old.N))) wN ay ?_
 refine n2 ?_
 rcases bf (decide (b.Epoch=a.Old.N)) with bm|bm
 ·have l1:=dF bm
  refine cf bm ?_
  have il:s_ChanOpen a A b=(DG a A b):=by simp only [s_ChanOpen,ah,ai,aj,a0,a4,a1,ay,bm,cond_true,cond_false]
  exact wj (eK il _ (Ch.refl _ _))
 have l2:=dT bm
 refine ct bm ?_
 refine Cc<|sr ?_
 refine jF1 [(1,(vi A)),(3,(vp aa 0)),(5,(vp aY 0)),(6,(vp cM 0)),(7,(vs none 0 0)),(8,(vi 0)),(9,(vp az 0)),(10,(vi (1 - a.Role)))] (s_ChanOpen a A b=(DY a A b)) ?_ fun eX=>?_
 ·intro eY ak ae l3
  have bn:=a3.extk ae
  refine y1 ?_
  refine pu (vp aa 7) wN ?_
  have im:=(aU.kp ae)
  refine lN (Dd a.Old cG cH cI cJ) wN Cs BW im ?_
  refine mw (vi (1 - a.Role)) ?_
  have io:=(cO.kp ae)
  refine lN (EB b b9 bA bp bq bB bC bD bE bF bG bH bI) wN Dn CV io ?_
  refine cl wN (Kf ak _ a.Old (Fh (d5.from0 bn) d6 (d7.from0 bn) d8) (1 - a.Role) _ b (FC (cZ.from0 bn) da (cK.from0 bn) cL (db.from0 bn) dc (dd.from0 bn) de (df.from0 bn) dg (dh.from0 bn) di)) ?_
  rintro _ Z ⟨an,⟨aM,aN,aO,aP,cz,c0,rfl,c1,ip,c2,iq,c3,ir,eo⟩⟩
  refine mw (.tuple #[(va (Dd ((tA a.Old (1 - a.Role) b).1) aM aN aO aP)),(vs cz ((tA a.Old (1 - a.Role) b).2.1).length c0),(vi ((tA a.Old (1 - a.Role) b).2.2))]) ?_
  refine pu (va (Dd ((tA a.Old (1 - a.Role) b).1) aM aN aO aP)) wN ?_
  refine pu (vs cz ((tA a.Old (1 - a.Role) b).2.1).length c0) wN ?_
  refine pu (vi ((tA a.Old (1 - a.Role) b).2.2)) wN ?_
  refine al HC wN Ev ?_
  intro l4 bw b4 l5 aQ it
  refine sv (Dd ((tA a.Old (1 - a.Role) b).1) aM aN aO aP) wN BW it ?_
  intro cP aR iu l6
  have eZ:=((bn.extk an).extk aQ).ext aR (fun k hk=>by subst hk;exact nT (nT (z12 j f s x u p i l m q r ae) an.size) b4)
  refine aw (vs cz ((tA a.Old (1 - a.Role) b).2.1).length c0) ?_
  refine aw (vi ((tA a.Old (1 - a.Role) b).2.2)) ?_
  refine n4 ?_
  refine mw (vi ((tA a.Old (1 - a.Role) b).2.2)) ?_
  refine pu (vb (!(decide ((tA a.Old (1 - a.Role) b).2.2=0)))) wN ?_
  refine n2 ?_
  rcases bf (decide ((tA a.Old (1 - a.Role) b).2.2=0)) with cd|cd
  ·have l7:=dF cd
   refine ct (cA not cd) ?_
   refine sr ?_
   have iv:=(((((((((aT.kp i).kp l).kp m).kp q).kp r).kp ae).kp an).kp aQ).ch aR (nN (nL aK (nT (z8 p i l m q r ae an) b4))))
   refine lN (Dv (a) B C D F G H P Q R S I J) wN Cv BY iv ?_
   refine CR wN rfl rfl tD (fun w=>by kernel_rfl) ?_
   intro fa cQ ep b5
   refine mw (vi ((tA a.Old (1 - a.Role) b).2.2)) ?_
   have iw:=(((((((((((((aI.kp x).kp u).ch p (nN (nL O (nT x.size K)))).kp i).kp l).kp m).kp q).kp r).kp ae).kp an).kp aQ).ch aR (nN (nL O (nT (z10 x u p i l m q r ae an) b4)))).kp ep)
   refine sv (Dv (a) B C D F G H P Q R S I J) wN BY iw ?_
   intro dl er iy l8
   have iz:=(eZ.extk ep).ext er (fun k hk=>by subst hk;exact nT (z2 j f) aH)
   refine aw (vs (some fa) 0 0) ?_
   refine aw (vi ((tA a.Old (1 - a.Role) b).2.2)) ?_
   refine BU<|re<|DJ<|Cb<|Cb ?_
   have c4:=fun (E sz n:Nat) (v:Value) (L:List Value) (o:World.ownsRow af ac.heap.size E sz v n L) (y:World.ownsRow af ac.heap.size E sz v n L)=>(tC (gc (tC (gc (gc (gc (gc (gc (gc (gc (gc (tC (gc o u) p (ne2 y (K))) i) l) m) q) r) ae) an) aQ) aR (ne2 y (nT (z9 u p i l m q r ae an) b4))) ep) er (ne1 y (O)))
   have i0:=(c4 _ _ _ _ _ M M)
   have i1:=(c4 _ _ _ _ _ V V)
   have i2:=(c4 _ _ _ _ _ W W)
   have i3:=(c4 _ _ _ _ _ X X)
   have i4:=(c4 _ _ _ _ _ Y Y)
   have i5:=(c4 _ _ _ _ _ T T)
   have i6:=(tC b5 er (ne1 b5 (nL O (z12 x u p i l m q r ae an aQ aR))))
   refine ED (.inl rfl) (va (Dv (a) B C D F G H P Q R S I J)) (vs (some fa) 0 0) (vi ((tA a.Old (1 - a.Role) b).2.2)) rfl (Fe (Dv (a) B C D F G H P Q R S I J) rfl iy Cv BY) rfl rfl ?_
   refine ⟨iz.keep0,?_⟩
   rw [eY];simp only [DY,cd,cond_true,cond_false]
   have c5:=z11 u p i l m q r ae an aQ aR
   exact ⟨_,_,_,_,_,_,_,_,_,_,_,_,_,_,rfl,(tB i0 (z3 j f s)),aJ,(tB i1 (z3 j f s)),aZ,(tB i2 (z3 j f s)),ba,(tB i3 (z3 j f s)),bb,(tB i4 (z3 j f s)),bc,(tB i5 (z3 j f s)),aS,(tB i6 (t4 (z12 j f s x u p i l m q r ae) an.size aQ.size aR.size)),(by simp),⟨⟨(d.1.1),⟨(d.1.2.1),⟨(d.1.2.2.1),⟨(d.1.2.2.2.1),⟨(d.1.2.2.2.2.1),⟨(Ap.lt M b5 c5),trivial⟩⟩⟩⟩⟩⟩,⟨⟨(d.2.1.1),⟨(d.2.1.2.1),⟨(d.2.1.2.2.1),⟨(d.2.1.2.2.2.1),⟨(Ap.lt V b5 c5),trivial⟩⟩⟩⟩⟩,⟨⟨(d.2.2.1.1),⟨(d.2.2.1.2.1),⟨(d.2.2.1.2.2.1),⟨(Ap.lt W b5 c5),trivial⟩⟩⟩⟩,⟨⟨(d.2.2.2.1.1),⟨(d.2.2.2.1.2.1),⟨(Ap.lt X b5 c5),trivial⟩⟩⟩,⟨⟨(d.2.2.2.2.1.1),⟨(Ap.lt Y b5 c5),trivial⟩⟩,⟨⟨(Ap.lt T b5 c5),trivial⟩,⟨trivial,trivial⟩⟩⟩⟩⟩⟩⟩⟩
  have l9:=dT cd
  refine cf (cA not cd) ?_
  refine y1 ?_
  refine lN (Dd ((tA a.Old (1 - a.Role) b).1) aM aN aO aP) wN Cs BW iu ?_
  refine pu (vp az 7) wN ?_
  have i7:=(((((((((aT.kp i).kp l).kp m).kp q).kp r).kp ae).kp an).kp aQ).ch aR (nN (nL aK (nT (z8 p i l m q r ae an) b4))))
  refine st (va (Dd ((tA a.Old (1 - a.Role) b).1) aM aN aO aP)) (Dd ((tA a.Old (1 - a.Role) b).1) aM aN aO aP) [(vi ((a).Role)),(vs B ((a).Sn).length C),(vi (((a).Cur).N)),(vs D (((a).Cur).Key).length F),(vi (((a).Cur).Seq)),(vi ((((a).Cur).Win).Top)),(vs G ((((a).Cur).Win).Bits).length H),(vi (((tA a.Old (1 - a.Role) b).1).N)),(vs aM (((tA a.Old (1 - a.Role) b).1).Key).length aN),(vi (((tA a.Old (1 - a.Role) b).1).Seq)),(vi ((((tA a.Old (1 - a.Role) b).1).Win).Top)),(vs aO ((((tA a.Old (1 - a.Role) b).1).Win).Bits).length aP),(vb ((a).HasOld)),(vi ((a).Until)),(vs I ((a).Next).length J)] wN BW i7 ?_
  intro cQ dx i8 lA
  have i9:=eZ.ext dx (fun k hk=>by subst hk;exact nT (z4 j f s x) K)
  refine nx ?_
  refine lN [(vi ((a).Role)),(vs B ((a).Sn).length C),(vi (((a).Cur).N)),(vs D (((a).Cur).Key).length F),(vi (((a).Cur).Seq)),(vi ((((a).Cur).Win).Top)),(vs G ((((a).Cur).Win).Bits).length H),(vi (((tA a.Old (1 - a.Role) b).1).N)),(vs aM (((tA a.Old (1 - a.Role) b).1).Key).length aN),(vi (((tA a.Old (1 - a.Role) b).1).Seq)),(vi ((((tA a.Old (1 - a.Role) b).1).Win).Top)),(vs aO ((((tA a.Old (1 - a.Role) b).1).Win).Bits).length aP),(vb ((a).HasOld)),(vi ((a).Until)),(vs I ((a).Next).length J)] wN Cv BY i8 ?_
  refine mw (vs cz ((tA a.Old (1 - a.Role) b).2.1).length c0) ?_
  have iA:=(((((((((((((aI.kp x).kp u).ch p (nN (nL O (nT x.size K)))).kp i).kp l).kp m).kp q).kp r).kp ae).kp an).kp aQ).ch aR (nN (nL O (nT (z10 x u p i l m q r ae an) b4)))).ch dx (nN (nL O (nT x.size K))))
  refine sv [(vi ((a).Role)),(vs B ((a).Sn).length C),(vi (((a).Cur).N)),(vs D (((a).Cur).Key).length F),(vi (((a).Cur).Seq)),(vi ((((a).Cur).Win).Top)),(vs G ((((a).Cur).Win).Bits).length H),(vi (((tA a.Old (1 - a.Role) b).1).N)),(vs aM (((tA a.Old (1 - a.Role) b).1).Key).length aN),(vi (((tA a.Old (1 - a.Role) b).1).Seq)),(vi ((((tA a.Old (1 - a.Role) b).1).Win).Top)),(vs aO ((((tA a.Old (1 - a.Role) b).1).Win).Bits).length aP),(vb ((a).HasOld)),(vi ((a).Until)),(vs I ((a).Next).length J)] wN BY iA ?_
  intro dl es iB lB
  have iC:=i9.ext es (fun k hk=>by subst hk;exact nT (z2 j f) aH)
  refine aw (vs cz ((tA a.Old (1 - a.Role) b).2.1).length c0) ?_
  refine aw (vi 0) ?_
  refine n1 ?_
  have dy:=fun (E sz n:Nat) (v:Value) (L:List Value) (o:World.ownsRow af ac.heap.size E sz v n L) (y:World.ownsRow af ac.heap.size E sz v n L)=>(tC (tC (tC (gc (gc (gc (gc (gc (gc (gc (gc (tC (gc o u) p (ne2 y (K))) i) l) m) q) r) ae) an) aQ) aR (ne2 y (nT (z9 u p i l m q r ae an) b4))) dx (ne2 y (K))) es (ne1 y (O)))
  have iD:=(dy _ _ _ _ _ M M)
  have iE:=(dy _ _ _ _ _ V V)
  have iF:=(dy _ _ _ _ _ W W)
  have et:=fun (E sz n:Nat) (v:Value) (L:List Value) (o:World.ownsRow Z ak.heap.size E sz v n L) (y:World.ownsRow Z ak.heap.size E sz v n L)=>(tC (tC (tC (gc o aQ) aR (ne2 y (b4))) dx (ne1 y (nL aK (z7 p i l m q r ae)))) es (ne1 y (nL O (z9 x u p i l m q r ae))))
  have iG:=(et _ _ _ _ _ c1 c1)
  have iH:=(et _ _ _ _ _ c2 c2)
  have iI:=(dy _ _ _ _ _ T T)
  have iJ:=(et _ _ _ _ _ c3 c3)
  refine ED (.inl rfl) (va [(vi ((a).Role)),(vs B ((a).Sn).length C),(vi (((a).Cur).N)),(vs D (((a).Cur).Key).length F),(vi (((a).Cur).Seq)),(vi ((((a).Cur).Win).Top)),(vs G ((((a).Cur).Win).Bits).length H),(vi (((tA a.Old (1 - a.Role) b).1).N)),(vs aM (((tA a.Old (1 - a.Role) b).1).Key).length aN),(vi (((tA a.Old (1 - a.Role) b).1).Seq)),(vi ((((tA a.Old (1 - a.Role) b).1).Win).Top)),(vs aO ((((tA a.Old (1 - a.Role) b).1).Win).Bits).length aP),(vb ((a).HasOld)),(vi ((a).Until)),(vs I ((a).Next).length J)]) (vs cz ((tA a.Old (1 - a.Role) b).2.1).length c0) (vi 0) rfl (Fe [(vi ((a).Role)),(vs B ((a).Sn).length C),(vi (((a).Cur).N)),(vs D (((a).Cur).Key).length F),(vi (((a).Cur).Seq)),(vi ((((a).Cur).Win).Top)),(vs G ((((a).Cur).Win).Bits).length H),(vi (((tA a.Old (1 - a.Role) b).1).N)),(vs aM (((tA a.Old (1 - a.Role) b).1).Key).length aN),(vi (((tA a.Old (1 - a.Role) b).1).Seq)),(vi ((((tA a.Old (1 - a.Role) b).1).Win).Top)),(vs aO ((((tA a.Old (1 - a.Role) b).1).Win).Bits).length aP),(vb ((a).HasOld)),(vi ((a).Until)),(vs I ((a).Next).length J)] rfl iB Cv BY) rfl rfl ?_
  refine ⟨iC.keep0,?_⟩
  rw [eY];simp only [DY,cd,cond_true,cond_false]
  have eu:=z12 j f s x u p i l m q r ae
  have aG:=z8 u p i l m q r ae
  exact ⟨_,_,_,_,_,_,_,_,_,_,_,_,_,_,rfl,(tB iD (z3 j f s)),aJ,(tB iE (z3 j f s)),aZ,(tB iF (z3 j f s)),ba,(tB iG eu),ip,(tB iH eu),iq,(tB iI (z3 j f s)),aS,(tB iJ eu),ir,⟨⟨(d.1.1),⟨(d.1.2.1),⟨(Ap.lt M c1 aG),⟨(Ap.lt M c2 aG),⟨(d.1.2.2.2.2.1),⟨(Ap.lt M c3 aG),trivial⟩⟩⟩⟩⟩⟩,⟨⟨(d.2.1.1),⟨(Ap.lt V c1 aG),⟨(Ap.lt V c2 aG),⟨(d.2.1.2.2.2.1),⟨(Ap.lt V c3 aG),trivial⟩⟩⟩⟩⟩,⟨⟨(Ap.lt W c1 aG),⟨(Ap.lt W c2 aG),⟨(d.2.2.1.2.2.1),⟨(Ap.lt W c3 aG),trivial⟩⟩⟩⟩,⟨⟨(eo.1.1),⟨(Ap.lt T c1 aG).symm,⟨(eo.1.2.1),trivial⟩⟩⟩,⟨⟨(Ap.lt T c2 aG).symm,⟨(eo.2.1.1),trivial⟩⟩,⟨⟨(Ap.lt T c3 aG),trivial⟩,⟨trivial,trivial⟩⟩⟩⟩⟩⟩⟩⟩
 refine pu (vp aa 13) wN ?_
 refine ld (vi a.Until) wN tE aU ?_
 refine pu (vb (!(decide (a.Until=(-1))))) wN ?_
 refine mw (vb (!(decide (a.Until=(-1))))) ?_
 rcases bt (decide (a.Until=(-1))) with a5|a5
 ·have lC:=dT a5
  iterate 4 refine sk (cA not a5) ?_
  refine pf (vb false) wN (cA not a5) ?_
  refine n2 ?_
  refine cf (Eq.refl false) ?_
  have iK:s_ChanOpen a A b=(DY a A b):=by simp only [s_ChanOpen,ah,ai,aj,a0,a4,a1,ay,bm,a5,cond_true,cond_false]
  exact wj (eX iK _ (Ch.refl _ _))
 have lD:=dF a5
 refine mv (vi A) (wS (cA not a5)) ?_
 refine pu (vp aa 13) (wS (cA not a5)) ?_
 refine ld (vi a.Until) (wS (cA not a5)) tE aU ?_
 refine pu (vb (decide (a.Until < A))) (wS (cA not a5)) ?_
 refine pk (vb (decide (a.Until < A))) wN (cA not a5) ?_
 refine n2 ?_
 rcases bf (decide (a.Until < A)) with ce|ce
 ·have lE:=dF ce
  refine cf ce ?_
  have iL:s_ChanOpen a A b=(DY a A b):=by simp only [s_ChanOpen,ah,ai,aj,a0,a4,a1,ay,bm,a5,ce,cond_true,cond_false]
  exact wj (eX iL _ (Ch.refl _ _))
 have lF:=dT ce
 refine ct ce ?_
 refine sr ?_
 have iM:=(((((aT.kp i).kp l).kp m).kp q).kp r)
 refine lN (Dv (a) B C D F G H P Q R S I J) wN Cv BY iM ?_
 refine CR wN rfl rfl tD (fun w=>by kernel_rfl) ?_
 intro fb ak ew b6
 have iN:=(((((((((aI.kp x).kp u).ch p (nN (nL O (nT x.size K)))).kp i).kp l).kp m).kp q).kp r).kp ew)
 refine sv (Dv (a) B C D F G H P Q R S I J) wN BY iN ?_
 intro Z ex iO lG
 have iP:=(a3.extk ew).ext ex (fun k hk=>by subst hk;exact nT (z2 j f) aH)
 refine aw (vs (some fb) 0 0) ?_
 refine aw (vi 9) ?_
 refine BU<|re<|DJ<|Cb<|Cb ?_
 have c6:=fun (E sz n:Nat) (v:Value) (L:List Value) (o:World.ownsRow af ac.heap.size E sz v n L) (y:World.ownsRow af ac.heap.size E sz v n L)=>(tC (gc (gc (gc (gc (gc (gc (tC (gc o u) p (ne2 y (K))) i) l) m) q) r) ew) ex (ne1 y (O)))
 have iQ:=(c6 _ _ _ _ _ M M)
 have iR:=(c6 _ _ _ _ _ V V)
 have iS:=(c6 _ _ _ _ _ W W)
 have iT:=(c6 _ _ _ _ _ X X)
 have iU:=(c6 _ _ _ _ _ Y Y)
 have iW:=(c6 _ _ _ _ _ T T)
 have iX:=(tC b6 ex (ne1 b6 (nL O (z8 x u p i l m q r))))
 refine ED (.inl rfl) (va (Dv (a) B C D F G H P Q R S I J)) (vs (some fb) 0 0) (vi 9) rfl (Fe (Dv (a) B C D F G H P Q R S I J) rfl iO Cv BY) rfl rfl ?_
 refine ⟨iP.keep0,?_⟩
 simp only [s_ChanOpen,ah,ai,aj,a0,a4,a1,ay,bm,a5,ce,cond_true,cond_false]
 have c7:=z7 u p i l m q r
 exact ⟨_,_,_,_,_,_,_,_,_,_,_,_,_,_,rfl,(tB iQ (z3 j f s)),aJ,(tB iR (z3 j f s)),aZ,(tB iS (z3 j f s)),ba,(tB iT (z3 j f s)),bb,(tB iU (z3 j f s)),bc,(tB iW (z3 j f s)),aS,(tB iX (z11 j f s x u p i l m q r)),(by simp),⟨⟨(d.1.1),⟨(d.1.2.1),⟨(d.1.2.2.1),⟨(d.1.2.2.2.1),⟨(d.1.2.2.2.2.1),⟨(Ap.lt M b6 c7),trivial⟩⟩⟩⟩⟩⟩,⟨⟨(d.2.1.1),⟨(d.2.1.2.1),⟨(d.2.1.2.2.1),⟨(d.2.1.2.2.2.1),⟨(Ap.lt V b6 c7),trivial⟩⟩⟩⟩⟩,⟨⟨(d.2.2.1.1),⟨(d.2.2.1.2.1),⟨(d.2.2.1.2.2.1),⟨(Ap.lt W b6 c7),trivial⟩⟩⟩⟩,⟨⟨(d.2.2.2.1.1),⟨(d.2.2.2.1.2.1),⟨(Ap.lt X b6 c7),trivial⟩⟩⟩,⟨⟨(d.2.2.2.2.1.1),⟨(Ap.lt Y b6 c7),trivial⟩⟩,⟨⟨(Ap.lt T b6 c7),trivial⟩,⟨trivial,trivial⟩⟩⟩⟩⟩⟩⟩⟩

def Qz (a:List UInt8):(List UInt8):=a
theorem GA (b:World) (d:Value) (a:List UInt8) (l:EP b d a) :Fn Tryz.prog 78 #[d] b (fun v e=>Keep b e∧GE e b.heap.size v (a)):=by
 obtain ⟨f,g,rfl,m,o⟩:=l
 refine Cl (n:=6) [(vs f a.length g)] Tryz.func78 rfl rfl ?_
 refine sr ?_
 refine aw (vs none 0 0) ?_
 refine nx ?_
 refine CR wN rfl rfl tD (fun w=>by kernel_rfl) ?_
 intro u x h p
 have i:=(Ch.base b).extk h
 refine mw (vs f a.length g) ?_
 refine ap0 a wN tD p (m.from0 i) h.size ?_
 intro j k y q r A
 have s:=i.extk q
 refine aw (vs j a.length k) ?_
 refine n3 ?_
 refine rt (vs j a.length k) ?_
 refine ⟨s.keep0,?_⟩
 have t:a=a:=by rfl
 rw [t]
 exact ⟨_,_,rfl,r,o,⟨trivial,trivial⟩⟩

def NF (a:PWin):(PWin):=a
theorem KX (f:World) (u:Value) (a:PWin) (G:LD f u a) :Fn Tryz.prog 115 #[u] f (fun v g=>Keep f g∧RQ g f.heap.size v (a)):=by
 obtain ⟨b,i,rfl,H,I⟩:=G
 refine Cl (n:=10) [(va (DW a b i))] Tryz.func115 rfl rfl ?_
 refine sr ?_
 refine bx (DW a b i) wN ?_
 intro j x ah ai p y
 refine al [(vi 0),(vs none 0 0)] wN FA ?_
 intro aj q J K l L
 have A:=((Ch.base f).extk p).extk l
 refine BU<|re<|Cc ?_
 refine CU ([(3,[],[],(fun _ v _=>v=(vp j 0))),(4,[],[0],(fun _ v _=>v=(vi a.Top))),(5,[],[],(fun _ v w=>∃ a0:Addr,v=.slice (some a0) 0 0∧w.ownsRow q.heap.size 3 1 (.slice (some a0) 0 0) 0 [])),(6,[],[],(fun _ v _=>v=(vp j 1))),(7,[],[3],(fun _ v _=>v=(vs b a.Bits.length i))),(8,[],[2,3,4],(fun _ v w=>∃ (b:Option Addr) (r:Nat),v=.slice b a.Bits.length r∧w.ownsRow q.heap.size 3 1 (.slice b a.Bits.length r) a.Bits.length (a.Bits.map iV)∧a.Bits.length≤1073741824∧Aps [(b,r)]))]:GV) (fun _ g=>Keep q g) [] DN rfl (by kernel_rfl) (by kernel_rfl) ?_ (fun _ _ h=>h) (fun _ _ _ _ h _ k=>h.trans k) trivial ?_ ?_ ?_
 ·exact ⟨hV,hE,⟨hV,hE,⟨(fun e v w x h hk=>by obtain ⟨s,he,t⟩:=h;exact ⟨s,he,gc t hk⟩),hE,⟨hV,hE,⟨hV,hE,⟨(fun e v w x h hk=>by obtain ⟨s,M,he,t,N,hap⟩:=h;exact ⟨s,M,he,gc t hk,N,hap⟩),hE,trivial⟩⟩⟩⟩⟩⟩
 ·exact trivial
 ·refine ⟨?_,⟨?_,⟨?_,⟨?_,⟨?_,⟨?_,trivial⟩⟩⟩⟩⟩⟩
  ·intro _ d ak _
   rintro _ _ _ _ _ _
   refine sw ?_
   refine pu (vp j 0) wN ?_
   exact f1
  ·intro _ d O _
   rintro _ rfl _ _ _ _ _
   refine sw ?_
   have P:=((y.kp l).kp O)
   refine ld (vi a.Top) wN tE P ?_
   exact f1
  ·intro _ d Q _
   rintro _ _ _ _ _ _
   refine sw ?_
   refine CR wN rfl rfl Cd (fun w=>by kernel_rfl) ?_
   intro am B R S
   exact CN R ⟨_,rfl,tB S Q.size⟩
  ·intro _ d an _
   rintro _ _ _ _ _ _
   refine sw ?_
   refine pu (vp j 1) wN ?_
   exact f1
  ·intro _ d T _
   rintro _ _ _ _ rfl _ _
   refine sw ?_
   have V:=((y.kp l).kp T)
   refine ld (vs b a.Bits.length i) wN Dk V ?_
   exact f1
  ·intro _ d C _
   have W:=A.extk C
   rintro _ _ _ ⟨ao,rfl,X⟩ _ rfl _ rfl _
   refine sw ?_
   refine QV a.Bits wN Cd X (H.from0 W) C.size ?_
   intro ap aq B Y Z au
   exact CN Y ⟨_,_,rfl,Z,I,⟨trivial,trivial⟩⟩
 ·intro _ d D
  rintro _ rfl _ rfl _ ⟨av,rfl,ax⟩ _ rfl _ rfl _ ⟨m,o,rfl,E,aa,-⟩
  refine sw ?_
  refine pu (va (DW a m o)) wN ?_
  have ab:=(L.kp D)
  refine sv (DW a m o) wN Cj ab ?_
  intro B F ac ay
  have ad:=(A.extk D).ext F (fun k hk=>by subst hk;exact nT p.size J)
  refine n3 ?_
  have ae:=(tC E F (ne1 E (K)))
  refine EY (.inl rfl) (va (DW a m o)) rfl (Fe (DW a m o) rfl ac CM Cj) ?_
  refine ⟨ad.keep0,?_⟩
  have af:a=a:=by rfl
  rw [af]
  exact ⟨_,_,rfl,(tB ae (z2 p l)),aa,⟨trivial,trivial⟩⟩

def OZ (a:PEp):(PEp):=a
theorem Ki (g:World) (F:Value) (a:PEp) (Q:Lf g F a) :Fn Tryz.prog 79 #[F] g (fun v i=>Keep g i∧Qk i g.heap.size v (a)):=by
 obtain ⟨j,l,m,o,rfl,R,S,T,V⟩:=Q
 refine Cl (n:=14) [(va (Dd a j l m o))] Tryz.func79 rfl rfl ?_
 refine sr ?_
 refine bx (Dd a j l m o) wN ?_
 intro d G a7 a8 p q
 refine al HC wN Ev ?_
 intro a9 x W H f X
 have y:=((Ch.base g).extk p).extk f
 refine BU<|re<|Cc ?_
 refine CU ([(3,[],[],(fun _ v _=>v=(vp d 0))),(4,[],[0],(fun _ v _=>v=(vi a.N))),(5,[],[],(fun _ v _=>v=(vp d 1))),(6,[],[2],(fun _ v _=>v=(vs j a.Key.length l))),(7,[],[2,3],(fun _ v w=>GE w x.heap.size v a.Key)),(8,[],[],(fun _ v _=>v=(vp d 2))),(9,[],[5],(fun _ v _=>v=(vi a.Seq))),(10,[],[],(fun _ v _=>v=(vp d 3))),(11,[],[7],(fun _ v _=>v=(va (DW a.Win m o)))),(12,[7],[2,3,4,7,8],(fun e v w=>RT w x.heap.size v a.Win (fun Y=>Ap (sp (e 7)) Y)))]:GV) (fun _ i=>Keep x i) [] DN rfl (by kernel_rfl) (by kernel_rfl) ?_ (fun _ _ h=>h) (fun _ _ _ _ h _ k=>h.trans k) trivial ?_ ?_ ?_
 ·exact ⟨hV,hE,⟨hV,hE,⟨hV,hE,⟨hV,hE,⟨(fun e v w G h hk=>by obtain ⟨A,B,he,C,D,hap⟩:=h;exact ⟨A,B,he,gc C hk,D,hap⟩),hE,⟨hV,hE,⟨hV,hE,⟨hV,hE,⟨hV,hE,⟨(fun e v w G h hk=>by obtain ⟨A,B,he,C,D,hap,hx⟩:=h;exact ⟨A,B,he,gc C hk,D,hap,hx⟩),(fun aA aB v w hx h=>by have Z:=hx 7 (by simp);simp only [Z] at h;exact h),trivial⟩⟩⟩⟩⟩⟩⟩⟩⟩⟩
 ·exact trivial
 ·refine ⟨?_,⟨?_,⟨?_,⟨?_,⟨?_,⟨?_,⟨?_,⟨?_,⟨?_,⟨?_,trivial⟩⟩⟩⟩⟩⟩⟩⟩⟩⟩
  ·intro _ b aC _
   rintro _ _ _ _ _ _ _ _ _ _
   refine sw ?_
   refine pu (vp d 0) wN ?_
   exact f1
  ·intro _ b aa _
   rintro _ rfl _ _ _ _ _ _ _ _ _
   refine sw ?_
   have ab:=((q.kp f).kp aa)
   refine ld (vi a.N) wN tE ab ?_
   exact f1
  ·intro _ b aD _
   rintro _ _ _ _ _ _ _ _ _ _
   refine sw ?_
   refine pu (vp d 1) wN ?_
   exact f1
  ·intro _ b ac _
   rintro _ _ _ rfl _ _ _ _ _ _ _
   refine sw ?_
   have ad:=((q.kp f).kp ac)
   refine ld (vs j a.Key.length l) wN BT ad ?_
   exact f1
  ·intro _ b I _
   have ae:=y.extk I
   rintro _ _ _ rfl _ rfl _ _ _ _ _ _
   refine sw ?_
   refine cl wN (GA b _ a.Key (CC (R.from0 ae) S)) ?_
   rintro _ J ⟨af,⟨aE,aF,rfl,ah,ai,aj⟩⟩
   exact CN af ⟨_,_,rfl,(tB ah I.size),ai,aj⟩
  ·intro _ b aG _
   rintro _ _ _ _ _ _ _ _ _ _
   refine sw ?_
   refine pu (vp d 2) wN ?_
   exact f1
  ·intro _ b ak _
   rintro _ _ _ _ _ _ rfl _ _ _ _
   refine sw ?_
   have am:=((q.kp f).kp ak)
   refine ld (vi a.Seq) wN tE am ?_
   exact f1
  ·intro _ b aH _
   rintro _ _ _ _ _ _ _ _ _ _
   refine sw ?_
   refine pu (vp d 3) wN ?_
   exact f1
  ·intro _ b an _
   rintro _ _ _ _ _ _ _ _ rfl _ _
   refine sw ?_
   have ao:=((q.kp f).kp an)
   refine lN (DW a.Win m o) wN CM Cj ao ?_
   exact f1
  ·intro _ b K _
   have ap:=y.extk K
   rintro _ _ _ rfl _ rfl _ ⟨aI,aJ,rfl,aq,_⟩ _ _ _ rfl _ rfl _
   refine sw ?_
   refine cl wN (KX b _ a.Win (FX (T.from0 ap) V)) ?_
   rintro _ J ⟨au,⟨aK,aL,rfl,L,av,ax⟩⟩
   exact CN au ⟨_,_,rfl,(tB L K.size),av,ax,(Ap.lt aq L (Nat.le_refl _))⟩
 ·intro _ b M
  rintro _ rfl _ rfl _ rfl _ rfl _ ⟨r,s,rfl,O,ay,aM⟩ _ rfl _ rfl _ rfl _ rfl _ ⟨t,u,rfl,P,az,aN,a0⟩
  refine sw ?_
  refine pu (va (Dd a r s t u)) wN ?_
  have a1:=(X.kp M)
  refine sv (Dd a r s t u) wN BW a1 ?_
  intro J E a2 aO
  have a3:=(y.extk M).ext E (fun k hk=>by subst hk;exact nT p.size W)
  refine n3 ?_
  have a4:=(tC O E (ne1 O (H)))
  have a5:=(tC P E (ne1 P (H)))
  refine EY (.inl rfl) (va (Dd a r s t u)) rfl (Fe (Dd a r s t u) rfl a2 Cs BW) ?_
  refine ⟨a3.keep0,?_⟩
  have a6:a=a:=by rfl
  rw [a6]
  exact ⟨_,_,_,_,rfl,(tB a4 (z2 p f)),ay,(tB a5 (z2 p f)),az,⟨⟨a0,trivial⟩,⟨trivial,trivial⟩⟩⟩

def PH (w:World) (lo:Nat) (v:Value) (x:(List UInt8)) (k:Option Addr×Nat→Prop):Prop:=∃ (a:Option Addr) (b:Nat),v=.slice a x.length b∧w.ownsRow lo 5 1 (.slice a x.length b) x.length (x.map bV)∧x.length≤1073741824∧Aps [(a,b)]∧k (a,b)
def Jo (a:PChan):(PChan):=a
theorem MV (S:World) (aC:Value) (a:PChan) (aR:Nc S aC a) :Fn Tryz.prog 41 #[aC] S (fun v aD=>Keep S aD∧Rc aD S.heap.size v (a)):=by
 obtain ⟨ab,ac,O,P,Q,R,A,B,C,D,T,V,rfl,aS,aT,aU,aV,aW,aX,aY,aZ,ba,bb,bc,bd⟩:=aR
 refine Cl (n:=20) [(va (Dv a ab ac O P Q R A B C D T V))] Tryz.func41 rfl rfl ?_
 refine sr ?_
 refine bx (Dv a ab ac O P Q R A B C D T V) wN ?_
 intro f ad ae W X ay
 refine al Mr wN Fz ?_
 intro ck aE aF az g be
 have a0:=((Ch.base S).extk X).extk g
 refine BU<|re<|Cc ?_
 refine FB ([(3,[],[],(fun _ v _=>v=(vp f 1))),(4,[],[0],(fun _ v _=>v=(vs ab a.Sn.length ac))),(5,[],[0,1],(fun _ v w=>GE w aE.heap.size v a.Sn)),(6,[],[],(fun _ v _=>v=(vp f 14))),(7,[],[3],(fun _ v _=>v=(vs T a.Next.length V))),(8,[5],[0,1,2,3,4],(fun e v w=>PH w aE.heap.size v a.Next (fun af=>Ap (sp (e 5)) af))),(9,[],[0,1,2,3,4],(fun _ v _=>v=(vp f 1)))]:GV) DN rfl (by kernel_rfl) (by kernel_rfl) ?_ ?_ ?_
 ·exact ⟨hV,hE,⟨hV,hE,⟨(fun e v w ad h hk=>by obtain ⟨F,G,he,H,I,hap⟩:=h;exact ⟨F,G,he,gc H hk,I,hap⟩),hE,⟨hV,hE,⟨hV,hE,⟨(fun e v w ad h hk=>by obtain ⟨F,G,he,H,I,hap,hx⟩:=h;exact ⟨F,G,he,gc H hk,I,hap,hx⟩),(fun bg bh v w hx h=>by have bi:=hx 5 (by simp);simp only [bi] at h;exact h),⟨hV,hE,trivial⟩⟩⟩⟩⟩⟩⟩
 ·refine ⟨?_,⟨?_,⟨?_,⟨?_,⟨?_,⟨?_,⟨?_,trivial⟩⟩⟩⟩⟩⟩⟩
  ·intro q cm
   rintro _ _ _ _ _ _ _
   refine sw ?_
   refine pu (vp f 1) wN ?_
   exact f2
  ·intro q bj
   rintro _ rfl _ _ _ _ _ _
   refine sw ?_
   have bk:=((ay.kp g).kp bj)
   refine ld (vs ab a.Sn.length ac) wN BT bk ?_
   exact f2
  ·intro q aG
   have bl:=a0.extk aG
   rintro _ rfl _ rfl _ _ _ _ _
   refine sw ?_
   refine cl wN (GA q _ a.Sn (CC (aS.from0 bl) aT)) ?_
   rintro _ aH ⟨bm,⟨cn,co,rfl,bn,bo,bp⟩⟩
   exact GB bm ⟨_,_,rfl,(tB bn aG.size),bo,bp⟩
  ·intro q cp
   rintro _ _ _ _ _ _ _
   refine sw ?_
   refine pu (vp f 14) wN ?_
   exact f2
  ·intro q bq
   rintro _ _ _ _ rfl _ _ _
   refine sw ?_
   have br:=((ay.kp g).kp bq)
   refine ld (vs T a.Next.length V) wN BT br ?_
   exact f2
  ·intro q aI
   have bu:=a0.extk aI
   rintro _ rfl _ rfl _ ⟨cq,cr,rfl,bv,_⟩ _ rfl _ rfl _ _
   refine sw ?_
   refine cl wN (GA q _ a.Next (CC (bc.from0 bu) bd)) ?_
   rintro _ aH ⟨bw,⟨cs,cu,rfl,aJ,bz,b0⟩⟩
   exact GB bw ⟨_,_,rfl,(tB aJ aI.size),bz,b0,(Ap.lt bv aJ (Nat.le_refl _))⟩
  ·intro q cv
   rintro _ rfl _ rfl _ ⟨cw,cx,rfl,_⟩ _ rfl _ rfl _ _
   refine sw ?_
   refine pu (vp f 1) wN ?_
   exact f2
 ·intro q J
  rintro _ rfl _ rfl _ ⟨j,l,rfl,m,b1,cy⟩ _ rfl _ rfl _ ⟨r,s,rfl,p,b2,cz,b3⟩ _ rfl
  refine sw ?_
  have b4:=((ay.kp g).kp J)
  refine st (vs j (a.Sn).length l) [(vs j (a.Sn).length l)] (Dv a j l O P Q R A B C D T V) wN Dj b4 ?_
  intro aH b b5 c0
  have b6:=(a0.extk J).ext b (fun k hk=>by subst hk;exact ae)
  refine pu (vp f 14) wN ?_
  refine st (vs r (a.Next).length s) [(vs r (a.Next).length s)] (Dv a j l O P Q R A B C D r s) wN Dj b5 ?_
  intro ah d a1 c1
  have a2:=b6.ext d (fun k hk=>by subst hk;exact ae)
  refine BU<|re<|Cc ?_
  refine FB ([(11,[],[],(fun _ v _=>v=(vp f 2))),(12,[],[0],(fun _ v _=>v=(va (Dd a.Cur O P Q R)))),(13,[],[0,1],(fun _ v w=>Qk w ah.heap.size v a.Cur)),(14,[],[],(fun _ v _=>v=(vp f 7))),(15,[],[3],(fun _ v _=>v=(va (Dd a.Old A B C D)))),(16,[13],[0,1,2,3,4],(fun e v w=>QZ w ah.heap.size v a.Old (fun af aK=>Ap (sp (wr (e 13) 1)) af∧Ap (sp (wr (e 13) 1)) aK∧Ap (sp (wr (e 13) 4)) af∧Ap (sp (wr (e 13) 4)) aK))),(17,[],[0,1,2,3,4],(fun _ v _=>v=(vp f 2)))]:GV) DN rfl (by kernel_rfl) (by kernel_rfl) ?_ ?_ ?_
  ·exact ⟨hV,hE,⟨hV,hE,⟨(fun e v w ad h hk=>by obtain ⟨F,G,a3,a4,he,H,I,a5,a6,hap⟩:=h;exact ⟨F,G,a3,a4,he,gc H hk,I,gc a5 hk,a6,hap⟩),hE,⟨hV,hE,⟨hV,hE,⟨(fun e v w ad h hk=>by obtain ⟨F,G,a3,a4,he,H,I,a5,a6,hap,hx⟩:=h;exact ⟨F,G,a3,a4,he,gc H hk,I,gc a5 hk,a6,hap,hx⟩),(fun bg bh v w hx h=>by have b7:=hx 13 (by simp);simp only [b7] at h;exact h),⟨hV,hE,trivial⟩⟩⟩⟩⟩⟩⟩
  ·refine ⟨?_,⟨?_,⟨?_,⟨?_,⟨?_,⟨?_,⟨?_,trivial⟩⟩⟩⟩⟩⟩⟩
   ·intro i c2
    rintro _ _ _ _ _ _ _
    refine sw ?_
    refine pu (vp f 2) wN ?_
    exact f2
   ·intro i b8
    rintro _ rfl _ _ _ _ _ _
    refine sw ?_
    have b9:=(a1.kp b8)
    refine lN (Dd a.Cur O P Q R) wN Cs BW b9 ?_
    exact f2
   ·intro i a7
    have aL:=a2.extk a7
    rintro _ rfl _ rfl _ _ _ _ _
    refine sw ?_
    refine cl wN (Ki i _ a.Cur (Fh (aU.from0 aL) aV (aW.from0 aL) aX)) ?_
    rintro _ aM ⟨bA,⟨c3,c4,c5,c6,rfl,bB,bC,bD,bE,bF⟩⟩
    exact GB bA ⟨_,_,_,_,rfl,(tB bB a7.size),bC,(tB bD a7.size),bE,bF⟩
   ·intro i c7
    rintro _ _ _ _ _ _ _
    refine sw ?_
    refine pu (vp f 7) wN ?_
    exact f2
   ·intro i bG
    rintro _ _ _ _ rfl _ _ _
    refine sw ?_
    have bH:=(a1.kp bG)
    refine lN (Dd a.Old A B C D) wN Cs BW bH ?_
    exact f2
   ·intro i a8
    have aN:=a2.extk a8
    rintro _ rfl _ rfl _ ⟨c8,c9,cC,cD,rfl,aO,cE,aP,_⟩ _ rfl _ rfl _ _
    refine sw ?_
    refine cl wN (Ki i _ a.Old (Fh (aY.from0 aN) aZ (ba.from0 aN) bb)) ?_
    rintro _ aM ⟨bI,⟨cF,cG,cH,cI,rfl,a9,bJ,aA,bK,bL⟩⟩
    exact GB bI ⟨_,_,_,_,rfl,(tB a9 a8.size),bJ,(tB aA a8.size),bK,bL,⟨(Ap.lt aO a9 (Nat.le_refl _)),(Ap.lt aO aA (Nat.le_refl _)),(Ap.lt aP a9 (Nat.le_refl _)),(Ap.lt aP aA (Nat.le_refl _))⟩⟩
   ·intro i cJ
    rintro _ rfl _ rfl _ ⟨cK,cL,cM,cN,rfl,_⟩ _ rfl _ rfl _ _
    refine sw ?_
    refine pu (vp f 2) wN ?_
    exact f2
  ·intro i Y
   rintro _ rfl _ rfl _ ⟨t,u,x,y,rfl,ai,bM,aj,bN,bO⟩ _ rfl _ rfl _ ⟨K,L,M,N,rfl,ak,bP,am,bQ,bR,an⟩ _ rfl
   refine sw ?_
   have bS:=(a1.kp Y)
   refine st (va (Dd (a.Cur) t u x y)) (Dd (a.Cur) t u x y) (Dv a j l t u x y A B C D r s) wN BW bS ?_
   intro aM Z bT cO
   have bU:=(a2.extk Y).ext Z (fun k hk=>by subst hk;exact ae)
   refine pu (vp f 7) wN ?_
   refine st (va (Dd (a.Old) K L M N)) (Dd (a.Old) K L M N) (Dv a j l t u x y K L M N r s) wN BW bT ?_
   intro cP aa bW cQ
   have bX:=bU.ext aa (fun k hk=>by subst hk;exact ae)
   refine nx ?_
   refine lN (Dv a j l t u x y K L M N r s) wN Cv BY bW ?_
   have ao:=nL W (aF)
   have bY:=((((((be.kp J).ch b (Ne.symm (nN ao))).ch d (Ne.symm (nN ao))).kp Y).ch Z (Ne.symm (nN ao))).ch aa (Ne.symm (nN ao)))
   refine sv (Dv a j l t u x y K L M N r s) wN BY bY ?_
   intro cR ap bZ cS
   have ca:=bX.ext ap (fun k hk=>by subst hk;exact nT X.size aF)
   refine n3 ?_
   have aq:=nL W g.size
   have cb:=(tC (tC (tC (gc (tC (tC m b (ne1 m aq)) d (ne1 m aq)) Y) Z (ne1 m aq)) aa (ne1 m aq)) ap (ne1 m (az)))
   have au:=fun (E sz n:Nat) (v:Value) (aQ:List Value) (o:World.ownsRow i ah.heap.size E sz v n aQ) (aB:World.ownsRow i ah.heap.size E sz v n aQ)=>(tC (tC (tC o Z (ne1 aB (nL W (z4 g J b d)))) aa (ne1 aB (nL W (z4 g J b d)))) ap (ne1 aB (nL az (z3 J b d))))
   have cc:=(au _ _ _ _ _ ai ai)
   have cd:=(au _ _ _ _ _ aj aj)
   have ce:=(au _ _ _ _ _ ak ak)
   have cg:=(au _ _ _ _ _ am am)
   have av:=nL W g.size
   have ci:=(tC (tC (tC (gc (tC (tC p b (ne1 p av)) d (ne1 p av)) Y) Z (ne1 p av)) aa (ne1 p av)) ap (ne1 p (az)))
   refine EY (.inl rfl) (va (Dv a j l t u x y K L M N r s)) rfl (Fe (Dv a j l t u x y K L M N r s) rfl bZ Cv BY) ?_
   refine ⟨ca.keep0,?_⟩
   have cj:a=a:=by rfl
   rw [cj]
   have ax:=z5 X g J b d
   exact ⟨_,_,_,_,_,_,_,_,_,_,_,_,rfl,(tB cb (z2 X g)),b1,(tB cc ax),bM,(tB cd ax),bN,(tB ce ax),bP,(tB cg ax),bQ,(tB ci (z2 X g)),b2,⟨⟨(Ap.lt m ai (z2 b d)),⟨(Ap.lt m aj (z2 b d)),⟨(Ap.lt m ak (z2 b d)),⟨(Ap.lt m am (z2 b d)),⟨b3,trivial⟩⟩⟩⟩⟩,⟨⟨(bO.1.1),⟨(an.1),⟨(an.2.1),⟨(Ap.lt p ai (z2 b d)).symm,trivial⟩⟩⟩⟩,⟨⟨(an.2.2.1),⟨(an.2.2.2),⟨(Ap.lt p aj (z2 b d)).symm,trivial⟩⟩⟩,⟨⟨(bR.1.1),⟨(Ap.lt p ak (z2 b d)).symm,trivial⟩⟩,⟨⟨(Ap.lt p am (z2 b d)).symm,trivial⟩,⟨trivial,trivial⟩⟩⟩⟩⟩⟩⟩

def DM (a:Int):(Bool):=bif (decide (a=0)) then (true) else (decide (a=1))
theorem Kg (d:World) (a:Int) :Fn Tryz.prog 55 #[(vi a)] d (fun v e=>Keep d e∧O_4 e d.heap.size v (DM a)):=by
 refine Cl (n:=9) [(vi a)] Tryz.func55 rfl rfl ?_
 refine sr ?_
 refine aw (vb false) ?_
 refine nx ?_
 refine mw (vi a) ?_
 refine pu (vb (decide (a=0))) wN ?_
 refine mw (vb (decide (a=0))) ?_
 rcases bt (decide (a=0)) with b|b
 ·have f:=dT b
  iterate 2 refine sk b ?_
  refine pk (vb true) wN b ?_
  refine aw (vb true) ?_
  refine n3 ?_
  refine rt (vb true) ?_
  refine ⟨Ch.refl _ _,?_⟩
  simp only [DM,b,cond_true,cond_false]
  exact rfl
 have g:=dF b
 refine mv (vi a) (wS b) ?_
 refine pu (vb (decide (a=1))) (wS b) ?_
 refine pf (vb (decide (a=1))) wN b ?_
 refine aw (vb (decide (a=1))) ?_
 refine n3 ?_
 refine rt (vb (decide (a=1))) ?_
 refine ⟨Ch.refl _ _,?_⟩
 simp only [DM,b,cond_true,cond_false]
 exact rfl
theorem Ii {n:Int} (h:DM n=true):n=0∨n=1:=by
  by_cases h0:n=0
  · exact .inl h0
  · simp [DM,h0] at h;exact .inr h
theorem JT {n:Int} (h:DM n=false):¬ n=0∧¬ n=1:=by
  by_cases h0:n=0 <;> by_cases h1:n=1 <;> simp [DM,h0,h1] at h
  exact ⟨h0,h1⟩

def CL (a:List UInt8):(Bool):=decide ((a.length:Int)=12)
theorem Fy (b:World) (d:Value) (a:List UInt8) (h:EP b d a) :Fn Tryz.prog 56 #[d] b (fun v e=>Keep b e∧O_4 e b.heap.size v (CL a)):=by
 obtain ⟨f,g,rfl,i,k⟩:=h
 refine Cl (n:=6) [(vs f a.length g)] Tryz.func56 rfl rfl ?_
 refine sr ?_
 refine aw (vb false) ?_
 refine nx ?_
 refine mw (vs f a.length g) ?_
 refine ln wN tD i ?_
 refine pu (vb (decide ((a.length:Int)=12))) wN ?_
 refine aw (vb (decide ((a.length:Int)=12))) ?_
 refine n3 ?_
 refine rt (vb (decide ((a.length:Int)=12))) ?_
 refine ⟨Ch.refl _ _,?_⟩
 have j:CL a=decide ((a.length:Int)=12):=by rfl
 rw [j]
 exact rfl
theorem Ft {b:List UInt8} (h:CL b=true):(b.length:Int)=12:=dT h
theorem Fu {b:List UInt8} (h:CL b=false):¬ (b.length:Int)=12:=dF h

def i_within (a:Int) (b:Int) (d:Int):(Bool):=bif (decide (b≤a)) then (decide (a≤d)) else (false)
theorem DI (f:World) (a:Int) (e:Int) (d:Int) :Fn Tryz.prog 42 #[(vi a),(vi e),(vi d)] f (fun v g=>Keep f g∧O_4 g f.heap.size v (i_within a e d)):=by
 refine Cl (n:=15) [(vi a),(vi e),(vi d)] Tryz.func42 rfl rfl ?_
 refine sr ?_
 refine aw (vb false) ?_
 refine nx ?_
 refine mw (vi a) ?_
 refine mw (vi e) ?_
 refine pu (vb (decide (e≤a))) wN ?_
 refine mw (vb (decide (e≤a))) ?_
 rcases bf (decide (e≤a)) with b|b
 ·have h:=dF b
  iterate 3 refine sk b ?_
  refine pf (vb false) wN b ?_
  refine aw (vb false) ?_
  refine n3 ?_
  refine rt (vb false) ?_
  refine ⟨Ch.refl _ _,?_⟩
  simp only [i_within,b,cond_true,cond_false]
  exact rfl
 have i:=dT b
 refine mv (vi a) (wS b) ?_
 refine mv (vi d) (wS b) ?_
 refine pu (vb (decide (a≤d))) (wS b) ?_
 refine pk (vb (decide (a≤d))) wN b ?_
 refine aw (vb (decide (a≤d))) ?_
 refine n3 ?_
 refine rt (vb (decide (a≤d))) ?_
 refine ⟨Ch.refl _ _,?_⟩
 simp only [i_within,b,cond_true,cond_false]
 exact rfl
theorem CE {n a b:Int} (h:i_within n a b=true):a≤n∧n≤b:=by
  unfold i_within at h
  by_cases h1:a≤n <;> simp [h1] at h
  exact ⟨h1,h⟩
theorem CT {n a b:Int} (h:i_within n a b=false):n < a∨b < n:=by
  unfold i_within at h
  by_cases h1:a≤n <;> simp [h1] at h <;> omega

theorem HQ (b:World) (m:Value) (a:List Int) (s:Mw b m a) (d:Int) :Fn Tryz.prog 131 #[m,(vi d)] b (fun v g=>Keep b g∧O_4 g b.heap.size v (Gp a d)):=by
 obtain ⟨e,f,rfl,l,A⟩:=s
 refine Cl (n:=21) [(vs e a.length f),(vi d)] Tryz.func131 rfl rfl ?_
 refine sr ?_
 refine aw (vb false) ?_
 refine n4 ?_
 refine mw (vs e a.length f) ?_
 refine ln wN Cd l ?_
 refine mw (vi 0) ?_
 refine BU<|re<|Ca ?_
 refine CJ [(0,(vs e a.length f)),(1,(vi d)),(7,(vs e a.length f)),(8,(vi (a.length:Int))),(9,(vi ((0:Nat):Int)))] ⟨rfl,rfl,rfl,rfl,(cA (Value.int .i64) (show (0:Int)=((0:Nat):Int) by omega)),trivial⟩ (fun e' g=>∃ (k:Nat) (o:Env),e'=pt o [(0,(vs e a.length f)),(1,(vi d)),(7,(vs e a.length f)),(8,(vi (a.length:Int))),(9,(vi ((k:Nat):Int)))]∧Ch (fun k=>b.heap.size≤k) b g∧Ch (fun k=>b.heap.size≤k) b g∧k≤a.length∧Fj (a.take k)=true) (fun e' _=>a.length - ((intOf (e' 9))).toNat) ?_ ?_
 ·exact fun u=>⟨0,u,rfl,(Ch.base b),(Ch.refl (fun k=>b.heap.size≤k) b),(by omega),(by first|rfl|exact Gq (by assumption) (by omega) (by assumption))⟩
 ·rintro _ p ⟨k,o,rfl,h,t,B,C⟩
  refine sr ?_
  refine pu (vb (decide (((k:Nat):Int) < (a.length:Int)))) wN ?_
  refine BU<|re<|Cc ?_
  rcases bf (decide (((k:Nat):Int) < (a.length:Int))) with i|i
  ·have D:=dF i
   refine cf i ?_
   refine CS<|wb<|wb<|Ce<|re<|sr ?_
   refine mw (vs e a.length f) ?_
   refine ln wN Cd (l.from0 h) ?_
   refine mw (vi d) ?_
   refine pu (vb (decide ((a.length:Int)=d))) wN ?_
   refine aw (vb (decide ((a.length:Int)=d))) ?_
   refine n3 ?_
   refine rt (vb (decide ((a.length:Int)=d))) ?_
   refine ⟨h.keep0,?_⟩
   have w:Gp a d=decide ((a.length:Int)=d):=by first|(have hz:=FD (x:=a) (k:=k) (by omega) (by assumption);simp [Gp,hz])|(have hz:=Dq (x:=a) (k:=k) (by assumption) (by omega);simp [Gp,hz])
   rw [w]
   exact rfl
  have E:=dT i
  refine ct i ?_
  refine Ct<|re<|Cc<|Ca<|sr ?_
  refine ix wN ((k:Nat):Int) Cd (l.from0 h) ?_
  refine ei (x:=a) k wN tE (l.from0 h) ?_
  refine aw (vi (a.getD k 0)) ?_
  refine nx ?_
  refine mw (vi (a.getD k 0)) ?_
  refine cl wN (DI p (a.getD k 0) 0 4294967295) ?_
  rintro _ F ⟨q,rfl⟩
  have r:=h.extk q
  refine pu (vb (!(i_within (a.getD k 0) 0 4294967295))) wN ?_
  refine n2 ?_
  rcases bf (i_within (a.getD k 0) 0 4294967295) with j|j
  ·have G:=CT j
   refine ct (cA not j) ?_
   refine sr ?_
   refine aw (vb false) ?_
   refine BU<|re<|DJ<|CB<|Cb<|Cb<|CB<|Cb ?_
   refine rt (vb false) ?_
   refine ⟨r.keep0,?_⟩
   have y:Gp a d=false:=by first|(have hz:=FD (x:=a) (k:=k) (by omega) (by assumption);simp [Gp,hz])|(have hz:=Dq (x:=a) (k:=k) (by assumption) (by omega);simp [Gp,hz])
   rw [y]
   exact rfl
  have H:=CE j
  refine cf (cA not j) ?_
  refine Ct<|BS<|re<|BZ ?_
  refine ar (((k:Nat):Int)+1) wN ?_
  refine mw (vi (((k:Nat):Int)+1)) ?_
  refine BU ?_
  refine CI (w0:=p) [(0,(vs e a.length f)),(1,(vi d)),(7,(vs e a.length f)),(8,(vi (a.length:Int))),(9,(vi (((k+1):Nat):Int)))] ?_ ?_ ?_
  · exact ⟨rfl,rfl,rfl,rfl,(cA (Value.int .i64) (show ((((k:Nat):Int)+1):Int)=(((k+1):Nat):Int) by omega)),trivial⟩
  · exact fun u=>⟨(k+1),u,rfl,r,(((Ch.refl (fun k=>b.heap.size≤k) b).ext t (fun k hk=>hk)).extk q),(by omega),(by first|rfl|exact Gq (by assumption) (by omega) (by assumption))⟩
  · show a.length - ((((k+1):Nat):Int)).toNat < a.length - (((k:Nat):Int)).toNat;omega

def Dp (b:PWin) (a:Int):(Bool):=decide ((((b.Bits.getD (((a % 1024) / 32)).toNat 0) / (2:Int) ^ ((a % 32)).toNat) % 2)=1)
theorem Kh (d:World) (h:Value) (b:PWin) (k:LD d h b) (a:Int) (q:b.Bits.length=32) (r:0≤a):Fn Tryz.prog 132 #[h,(vi a)] d (fun v i=>Keep d i∧O_4 i d.heap.size v (Dp b a)):=by
 obtain ⟨e,f,rfl,j,s⟩:=k
 refine Cl (n:=17) [(va (DW b e f)),(vi a)] Tryz.func132 rfl rfl ?_
 refine sr ?_
 refine bx (DW b e f) wN ?_
 intro l t u w m o
 have g:=(Ch.base d).extk m
 refine aw (vb false) ?_
 refine nx ?_
 refine pu (vp l 1) wN ?_
 refine ld (vs e b.Bits.length f) wN Dk o ?_
 refine mw (vi a) ?_
 refine Fq a 1024 wN rfl rfl (by kernel_rfl) (by first|omega|assumption) ?_
 refine GZ (a % 1024) 32 wN rfl rfl (by kernel_rfl) (by omega) (by omega) (by omega) ?_
 refine ix wN ((a % 1024) / 32) Cd (j.from0 g) ?_
 refine ei (x:=b.Bits) ((((a % 1024) / 32)).toNat) wN tE (j.from0 g) ?_
 refine mw (vi a) ?_
 refine Fq a 32 wN rfl rfl (by kernel_rfl) (by first|omega|assumption) ?_
 refine Jg (b.Bits.getD (((a % 1024) / 32)).toNat 0) (a % 32) wN rfl rfl rfl rfl rfl (by omega) (by omega) ?_
 refine FE ((b.Bits.getD (((a % 1024) / 32)).toNat 0) / (2:Int) ^ ((a % 32)).toNat) 1 2 1 wN rfl rfl (by decide) (by decide) (by decide) (by kernel_rfl) ?_
 refine pu (vb (decide ((((b.Bits.getD (((a % 1024) / 32)).toNat 0) / (2:Int) ^ ((a % 32)).toNat) % 2)=1))) wN ?_
 refine aw (vb (decide ((((b.Bits.getD (((a % 1024) / 32)).toNat 0) / (2:Int) ^ ((a % 32)).toNat) % 2)=1))) ?_
 refine n3 ?_
 refine rt (vb (decide ((((b.Bits.getD (((a % 1024) / 32)).toNat 0) / (2:Int) ^ ((a % 32)).toNat) % 2)=1))) ?_
 refine ⟨g.keep0,?_⟩
 have p:Dp b a=decide ((((b.Bits.getD (((a % 1024) / 32)).toNat 0) / (2:Int) ^ ((a % 32)).toNat) % 2)=1):=by rfl
 rw [p]
 exact rfl

def GG (w:PWin):Bool:=bif i_within w.Top (-1) 281474976710655 then (bif Gp w.Bits 32 then (bif IB (Dp w) (w.Top+1) 1024 then (decide (w.Top = -1) || Dp w w.Top) else false) else false) else false
theorem Od (l:World) (G:Value) (d:PWin) (R:LD l G d) :Fn Tryz.prog 94 #[G] l (fun v s=>Keep l s∧O_4 s l.heap.size v (GG d)):=by
 obtain ⟨t,w,rfl,A,B⟩:=R
 refine Cl (n:=33) [(va (DW d t w))] Tryz.func94 rfl rfl ?_
 refine sr ?_
 refine bx (DW d t w) wN ?_
 intro j S am H T I
 have J:=(Ch.base l).extk T
 refine aw (vb false) ?_
 refine n4 ?_
 refine jT1 [(1,(vp j 0)),(2,(vb false))] (GG d=false) ?_ fun K=>?_
 ·intro V L W an
  have X:=J.extk W
  refine sr ?_
  refine aw (vb false) ?_
  refine n1 ?_
  refine rt (vb false) ?_
  refine ⟨X.keep0,?_⟩
  rw [V]
  exact rfl
 refine pu (vp j 0) wN ?_
 refine ld (vi d.Top) wN tE I ?_
 refine cl wN (DI S d.Top (-1) 281474976710655) ?_
 rintro _ L ⟨o,rfl⟩
 have M:=J.extk o
 refine pu (vb (!(i_within d.Top (-1) 281474976710655))) wN ?_
 refine mw (vb (!(i_within d.Top (-1) 281474976710655))) ?_
 rcases bf (i_within d.Top (-1) 281474976710655) with e|e
 ·have ao:=CT e
  iterate 4 refine sk (cA not e) ?_
  refine pk (vb true) wN (cA not e) ?_
  refine n2 ?_
  refine ct (Eq.refl true) ?_
  have Y:GG d=false:=by first|(simp [GG,e];done)|(have hz:=EL (f:=Dp d) (a:=d.Top+1) (b:=1024) (q:=q) (by assumption) (by omega) (by omega);simp [GG,e,hz];done)|(have hz:=EK (f:=Dp d) (a:=d.Top+1) (b:=1024) (q:=q) (by assumption) (by omega);simp [GG,e,hz];done)
  exact wj (K Y _ o)
 have ap:=CE e
 refine pu (vp j 1) (wS (cA not e)) ?_
 have N:=(I.kp o)
 refine ld (vs t d.Bits.length w) (wS (cA not e)) Dk N ?_
 refine cl (wS (cA not e)) (HQ L _ d.Bits (GY (A.from0 M) B) 32) ?_
 rintro _ p ⟨x,rfl⟩
 have Z:=M.extk x
 refine pu (vb (!(Gp d.Bits 32))) (wS (cA not e)) ?_
 refine pf (vb (!(Gp d.Bits 32))) wN (cA not e) ?_
 refine n2 ?_
 rcases bf (Gp d.Bits 32) with g|g
 ·refine ct (cA not g) ?_
  have aa:GG d=false:=by first|(simp [GG,e,g];done)|(have hz:=EL (f:=Dp d) (a:=d.Top+1) (b:=1024) (q:=q) (by assumption) (by omega) (by omega);simp [GG,e,g,hz];done)|(have hz:=EK (f:=Dp d) (a:=d.Top+1) (b:=1024) (q:=q) (by assumption) (by omega);simp [GG,e,g,hz];done)
  exact wj (K aa _ (o.trans x))
 have aq:=FF g
 refine cf (cA not g) ?_
 refine y2 ?_
 refine pu (vp j 0) wN ?_
 have C:=(N.kp x)
 refine ld (vi d.Top) wN tE C ?_
 refine ar (d.Top+1) wN ?_
 refine aw (vi (d.Top+1)) ?_
 refine BU<|re<|Ca ?_
 refine CJ [(1,(vp j 0)),(3,(vi (d.Top+1)))] ⟨rfl,rfl,trivial⟩ (fun e' s=>∃ (q:Int) (O:Env),e'=pt O [(1,(vp j 0)),(3,(vi q))]∧Ch (fun k=>l.heap.size≤k) l s∧Ch (fun k=>p.heap.size≤k) p s∧d.Top+1≤q∧q≤281474976710656∧(∀ m:Int,d.Top+1≤m→m < q→Dp d m=false)) (fun e' _=>(1024 - (intOf (e' 3))).toNat) ?_ ?_
 ·exact fun u=>⟨(d.Top+1),u,rfl,Z,(Ch.refl (fun k=>p.heap.size≤k) p),(by omega),(by omega),(by first|(intro m ab ac;omega)|exact Gn (by assumption) (by assumption))⟩
 ·rintro _ D ⟨q,O,rfl,y,E,au,av,ax⟩
  refine Cc<|sr ?_
  refine mw (vi q) ?_
  refine pu (vb (decide (q < 1024))) wN ?_
  refine n2 ?_
  rcases bt (decide (q < 1024)) with i|i
  ·have ay:=dT i
   refine ct i ?_
   refine Ct<|re<|Cc<|Ca<|sr ?_
   have ad:=(C.ch E (Nat.not_le.2 (nL H (z2 o x))))
   refine lN (DW d t w) wN CM Cj ad ?_
   refine mw (vi q) ?_
   refine cl wN (Kh D _ d (FX (A.from0 y) B) q (by first|assumption|omega) (by first|assumption|omega)) ?_
   rintro _ ae ⟨P,rfl⟩
   have Q:=y.extk P
   refine n2 ?_
   rcases bf (Dp d q) with r|r
   ·refine cf r ?_
    refine Ct<|BS<|re<|BZ ?_
    refine mw (vi q) ?_
    refine ar (q+1) wN ?_
    refine aw (vi (q+1)) ?_
    refine BU ?_
    refine CI (w0:=D) [(1,(vp j 0)),(3,(vi (q+1)))] ?_ ?_ ?_
    · exact ⟨rfl,rfl,trivial⟩
    · exact fun u=>⟨(q+1),u,rfl,Q,(((Ch.refl (fun k=>p.heap.size≤k) p).ext E (fun k hk=>hk)).extk P),(by omega),(by omega),(by first|(intro m ab ac;omega)|exact Gn (by assumption) (by assumption))⟩
    · show (1024 - (q+1)).toNat < (1024 - q).toNat;omega
   refine ct r ?_
   refine sr ?_
   refine aw (vb false) ?_
   refine BU<|re<|DJ<|CB<|Cb<|Cb<|CB<|Cb ?_
   refine rt (vb false) ?_
   refine ⟨Q.keep0,?_⟩
   have af:GG d=false:=by first|(simp [GG,e,g,i,r];done)|(have hz:=EL (f:=Dp d) (a:=d.Top+1) (b:=1024) (q:=q) (by assumption) (by omega) (by omega);simp [GG,e,g,i,r,hz];done)|(have hz:=EK (f:=Dp d) (a:=d.Top+1) (b:=1024) (q:=q) (by assumption) (by omega);simp [GG,e,g,i,r,hz];done)
   rw [af]
   exact rfl
  have az:=dF i
  refine cf i ?_
  refine CS<|wb<|wb<|Ce<|re<|sr ?_
  refine pu (vp j 0) wN ?_
  have F:=(C.ch E (Nat.not_le.2 (nL H (z2 o x))))
  refine ld (vi d.Top) wN tE F ?_
  refine pu (vb (decide (d.Top=(-1)))) wN ?_
  refine mw (vb (decide (d.Top=(-1)))) ?_
  rcases bt (decide (d.Top=(-1))) with h|h
  ·have a0:=dT h
   iterate 4 refine sk h ?_
   refine pk (vb true) wN h ?_
   refine aw (vb true) ?_
   refine n3 ?_
   refine rt (vb true) ?_
   refine ⟨y.keep0,?_⟩
   have ah:GG d=true:=by first|(simp [GG,e,g,i,h];done)|(have hz:=EL (f:=Dp d) (a:=d.Top+1) (b:=1024) (q:=q) (by assumption) (by omega) (by omega);simp [GG,e,g,i,h,hz];done)|(have hz:=EK (f:=Dp d) (a:=d.Top+1) (b:=1024) (q:=q) (by assumption) (by omega);simp [GG,e,g,i,h,hz];done)
   rw [ah]
   exact rfl
  have a1:=dF h
  refine lN (DW d t w) (wS h) CM Cj F ?_
  refine pu (vp j 0) (wS h) ?_
  refine ld (vi d.Top) (wS h) tE F ?_
  refine cl (wS h) (Kh D _ d (FX (A.from0 y) B) d.Top (by first|assumption|omega) (by first|assumption|omega)) ?_
  rintro _ ae ⟨ai,rfl⟩
  have aj:=y.extk ai
  refine pf (vb (Dp d d.Top)) wN h ?_
  refine aw (vb (Dp d d.Top)) ?_
  refine n3 ?_
  refine rt (vb (Dp d d.Top)) ?_
  refine ⟨aj.keep0,?_⟩
  have ak:GG d=(Dp d d.Top):=by first|(simp [GG,e,g,i,h];done)|(have hz:=EL (f:=Dp d) (a:=d.Top+1) (b:=1024) (q:=q) (by assumption) (by omega) (by omega);simp [GG,e,g,i,h,hz];done)|(have hz:=EK (f:=Dp d) (a:=d.Top+1) (b:=1024) (q:=q) (by assumption) (by omega);simp [GG,e,g,i,h,hz];done)
  rw [ak]
  exact rfl
theorem PS {w:PWin} (h:GG w=true):Fj w.Bits=true∧w.Bits.length=32 ∧ -1≤w.Top∧w.Top≤281474976710655:=by
  unfold GG at h
  cases h1:i_within w.Top (-1) 281474976710655 with
  | false=>simp only [h1,cond_false] at h;cases h
  | true =>
    cases h2:Gp w.Bits 32 with
    | false=>simp only [h1,h2,cond_true,cond_false] at h;cases h
    | true =>
      have b:=FF h2
      have a:=CE h1
      exact ⟨b.1,by omega,a.1,a.2⟩

def EN (a:PEp):(Bool):=bif (i_within a.N 0 4294967295) then (bif (decide ((a.Key.length:Int)=32)) then (bif (i_within a.Seq 0 281474976710656) then ((GG a.Win)) else (false)) else (false)) else (false)
theorem Oi (f:World) (p:Value) (a:PEp) (u:Lf f p a) :Fn Tryz.prog 57 #[p] f (fun v q=>Keep f q∧O_4 q f.heap.size v (EN a)):=by
 obtain ⟨i,j,k,l,rfl,w,H,x,y⟩:=u
 refine Cl (n:=22) [(va (Dd a i j k l))] Tryz.func57 rfl rfl ?_
 refine sr ?_
 refine bx (Dd a i j k l) wN ?_
 intro g A I J B r
 refine aw (vb false) ?_
 refine nx ?_
 refine pu (vp g 0) wN ?_
 refine ld (vi a.N) wN tE r ?_
 refine cl wN (DI A a.N 0 4294967295) ?_
 rintro _ C ⟨s,rfl⟩
 have h:=((Ch.base f).extk B).extk s
 refine mw (vb (i_within a.N 0 4294967295)) ?_
 rcases bf (i_within a.N 0 4294967295) with b|b
 ·have K:=CT b
  iterate 4 refine sk b ?_
  refine pf (vb false) wN b ?_
  refine mw (vb false) ?_
  iterate 3 refine sk (Eq.refl false) ?_
  refine pf (vb false) wN (Eq.refl false) ?_
  refine mw (vb false) ?_
  iterate 3 refine sk (Eq.refl false) ?_
  refine pf (vb false) wN (Eq.refl false) ?_
  refine aw (vb false) ?_
  refine n3 ?_
  refine rt (vb false) ?_
  refine ⟨h.keep0,?_⟩
  simp only [EN,b,cond_true,cond_false]
  exact rfl
 have L:=CE b
 refine pu (vp g 1) (wS b) ?_
 have m:=(r.kp s)
 refine ld (vs i a.Key.length j) (wS b) BT m ?_
 refine ln (wS b) tD (w.from0 h) ?_
 refine pu (vb (decide ((a.Key.length:Int)=32))) (wS b) ?_
 refine pk (vb (decide ((a.Key.length:Int)=32))) wN b ?_
 refine mw (vb (decide ((a.Key.length:Int)=32))) ?_
 rcases bf (decide ((a.Key.length:Int)=32)) with d|d
 ·have M:=dF d
  iterate 3 refine sk d ?_
  refine pf (vb false) wN d ?_
  refine mw (vb false) ?_
  iterate 3 refine sk (Eq.refl false) ?_
  refine pf (vb false) wN (Eq.refl false) ?_
  refine aw (vb false) ?_
  refine n3 ?_
  refine rt (vb false) ?_
  refine ⟨h.keep0,?_⟩
  simp only [EN,b,d,cond_true,cond_false]
  exact rfl
 have O:=dT d
 refine pu (vp g 2) (wS d) ?_
 refine ld (vi a.Seq) (wS d) tE m ?_
 refine cl (wS d) (DI C a.Seq 0 281474976710656) ?_
 rintro _ D ⟨t,rfl⟩
 have o:=h.extk t
 refine pk (vb (i_within a.Seq 0 281474976710656)) wN d ?_
 refine mw (vb (i_within a.Seq 0 281474976710656)) ?_
 rcases bf (i_within a.Seq 0 281474976710656) with e|e
 ·have P:=CT e
  iterate 3 refine sk e ?_
  refine pf (vb false) wN e ?_
  refine aw (vb false) ?_
  refine n3 ?_
  refine rt (vb false) ?_
  refine ⟨o.keep0,?_⟩
  simp only [EN,b,d,e,cond_true,cond_false]
  exact rfl
 have Q:=CE e
 refine pu (vp g 3) (wS e) ?_
 have E:=(m.kp t)
 refine lN (DW a.Win k l) (wS e) CM Cj E ?_
 refine cl (wS e) (Od D _ a.Win (FX (x.from0 o) y)) ?_
 rintro _ R ⟨F,rfl⟩
 have G:=o.extk F
 refine pk (vb (GG a.Win)) wN e ?_
 refine aw (vb (GG a.Win)) ?_
 refine n3 ?_
 refine rt (vb (GG a.Win)) ?_
 refine ⟨G.keep0,?_⟩
 simp only [EN,b,d,e,cond_true,cond_false]
 exact rfl
theorem Gw {e:PEp} (h:EN e=true):0≤e.N∧e.N≤4294967295∧(e.Key.length:Int)=32∧0≤e.Seq∧e.Seq≤281474976710656∧GG e.Win=true:=by
  simp only [EN,Bool.cond_false_right,Bool.and_eq_true,decide_eq_true_eq] at h
  have a:=CE h.1
  have b:=CE h.2.2.1
  exact ⟨a.1,a.2,h.2.1,b.1,b.2,h.2.2.2⟩

def Du (a:List UInt8) (b:List UInt8):(Bool):=(eqS (ByteArray.mk a.toArray) (ByteArray.mk b.toArray))
theorem Hg (d:World) (e:Value) (a:List UInt8) (l:EP d e a) (f:Value) (b:List UInt8) (m:EP d f b) :Fn Tryz.prog 116 #[e,f] d (fun v g=>Keep d g∧O_4 g d.heap.size v (Du a b)):=by
 obtain ⟨h,i,rfl,o,r⟩:=l
 obtain ⟨j,k,rfl,p,s⟩:=m
 refine Cl (n:=10) [(vs h a.length i),(vs j b.length k)] Tryz.func116 rfl rfl ?_
 refine sr ?_
 refine aw (vb false) ?_
 refine nx ?_
 refine mw (vs h a.length i) ?_
 refine LJ a wN rfl rfl rfl rfl Tryz.underlying22 Tryz.underlying5 Tryz.underlying9 o ?_
 refine mw (vs j b.length k) ?_
 refine LJ b wN rfl rfl rfl rfl Tryz.underlying22 Tryz.underlying5 Tryz.underlying9 p ?_
 refine pu (vb (eqS (ByteArray.mk a.toArray) (ByteArray.mk b.toArray))) wN ?_
 refine aw (vb (eqS (ByteArray.mk a.toArray) (ByteArray.mk b.toArray))) ?_
 refine n3 ?_
 refine rt (vb (eqS (ByteArray.mk a.toArray) (ByteArray.mk b.toArray))) ?_
 refine ⟨Ch.refl _ _,?_⟩
 have q:Du a b=(eqS (ByteArray.mk a.toArray) (ByteArray.mk b.toArray)):=by rfl
 rw [q]
 exact rfl

theorem MU (d:World) (r:Value) (a:List Int) (w:Mw d r a) (s:Value) (b:List Int) (y:Mw d s b) :Fn Tryz.prog 133 #[r,s] d (fun v j=>Keep d j∧O_4 j d.heap.size v (eqI a b)):=by
 obtain ⟨f,g,rfl,p,F⟩:=w
 obtain ⟨h,i,rfl,q,G⟩:=y
 refine Cl (n:=26) [(vs f a.length g),(vs h b.length i)] Tryz.func133 rfl rfl ?_
 refine sr ?_
 refine aw (vb false) ?_
 refine n4 ?_
 refine mw (vs f a.length g) ?_
 refine ln wN Cd p ?_
 refine mw (vs h b.length i) ?_
 refine ln wN Cd q ?_
 refine pu (vb (!(decide ((a.length:Int)=(b.length:Int))))) wN ?_
 refine n2 ?_
 rcases bf (decide ((a.length:Int)=(b.length:Int))) with l|l
 ·have H:=dF l
  refine ct (cA not l) ?_
  refine sr ?_
  refine aw (vb false) ?_
  refine n1 ?_
  refine rt (vb false) ?_
  refine ⟨Ch.refl _ _,?_⟩
  have A:eqI a b=false:=by first|exact HN (by assumption)|exact Jt (by assumption)|exact HO (by assumption) (by omega) (by omega)
  rw [A]
  exact rfl
 have I:=dT l
 refine cf (cA not l) ?_
 refine y2 ?_
 refine mw (vs f a.length g) ?_
 refine ln wN Cd p ?_
 refine mw (vi 0) ?_
 refine BU<|re<|Ca ?_
 refine CJ [(1,(vs h b.length i)),(12,(vs f a.length g)),(13,(vi (a.length:Int))),(14,(vi ((0:Nat):Int)))] ⟨rfl,rfl,rfl,(cA (Value.int .i64) (show (0:Int)=((0:Nat):Int) by omega)),trivial⟩ (fun e' j=>∃ (k:Nat) (t:Env),e'=pt t [(1,(vs h b.length i)),(12,(vs f a.length g)),(13,(vi (a.length:Int))),(14,(vi ((k:Nat):Int)))]∧Ch (fun k=>d.heap.size≤k) d j∧Ch (fun k=>d.heap.size≤k) d j∧k≤a.length∧a.take k=b.take k) (fun e' _=>a.length - ((intOf (e' 14))).toNat) ?_ ?_
 ·exact fun u=>⟨0,u,rfl,(Ch.base d),(Ch.refl (fun k=>d.heap.size≤k) d),(by omega),(by first|rfl|exact Im (by assumption) (by omega) (by omega) (by assumption))⟩
 ·rintro _ B ⟨k,t,rfl,e,C,J,K⟩
  refine sr ?_
  refine pu (vb (decide (((k:Nat):Int) < (a.length:Int)))) wN ?_
  refine BU<|re<|Cc ?_
  rcases bf (decide (((k:Nat):Int) < (a.length:Int))) with m|m
  ·have L:=dF m
   refine cf m ?_
   refine CS<|wb<|wb<|Ce<|re<|sr ?_
   refine aw (vb true) ?_
   refine n3 ?_
   refine rt (vb true) ?_
   refine ⟨e.keep0,?_⟩
   have D:eqI a b=true:=by first|exact HN (by assumption)|exact Jt (by assumption)|exact HO (by assumption) (by omega) (by omega)
   rw [D]
   exact rfl
  have M:=dT m
  refine ct m ?_
  refine Ct<|re<|Cc<|Ca<|sr ?_
  refine mw (vi ((k:Nat):Int)) ?_
  refine ix wN ((k:Nat):Int) Cd (p.from0 e) ?_
  refine ei (x:=a) k wN tE (p.from0 e) ?_
  refine aw (vi ((k:Nat):Int)) ?_
  refine aw (vi (a.getD k 0)) ?_
  refine nx ?_
  refine mw (vi (a.getD k 0)) ?_
  refine mw (vs h b.length i) ?_
  refine mw (vi ((k:Nat):Int)) ?_
  refine ix wN ((k:Nat):Int) Cd (q.from0 e) ?_
  refine ei (x:=b) k wN tE (q.from0 e) ?_
  refine pu (vb (!(decide ((a.getD k 0)=(b.getD k 0))))) wN ?_
  refine n2 ?_
  rcases bf (decide ((a.getD k 0)=(b.getD k 0))) with o|o
  ·have N:=dF o
   refine ct (cA not o) ?_
   refine sr ?_
   refine aw (vb false) ?_
   refine BU<|re<|DJ<|CB<|Cb<|Cb<|CB<|Cb ?_
   refine rt (vb false) ?_
   refine ⟨e.keep0,?_⟩
   have E:eqI a b=false:=by first|exact HN (by assumption)|exact Jt (by assumption)|exact HO (by assumption) (by omega) (by omega)
   rw [E]
   exact rfl
  have O:=dT o
  refine cf (cA not o) ?_
  refine Ct<|BS<|re<|BZ ?_
  refine ar (((k:Nat):Int)+1) wN ?_
  refine mw (vi (((k:Nat):Int)+1)) ?_
  refine BU ?_
  refine CI (w0:=B) [(1,(vs h b.length i)),(12,(vs f a.length g)),(13,(vi (a.length:Int))),(14,(vi (((k+1):Nat):Int)))] ?_ ?_ ?_
  · exact ⟨rfl,rfl,rfl,(cA (Value.int .i64) (show ((((k:Nat):Int)+1):Int)=(((k+1):Nat):Int) by omega)),trivial⟩
  · exact fun u=>⟨(k+1),u,rfl,e,((Ch.refl (fun k=>d.heap.size≤k) d).ext C (fun k hk=>hk)),(by omega),(by first|rfl|exact Im (by assumption) (by omega) (by omega) (by assumption))⟩
  · show a.length - ((((k+1):Nat):Int)).toNat < a.length - (((k:Nat):Int)).toNat;omega

def i_sameEp (a:PEp) (b:PEp):(Bool):=bif (decide (a.N=b.N)) then (bif (Du a.Key b.Key) then (bif (decide (a.Seq=b.Seq)) then (bif (decide (a.Win.Top=b.Win.Top)) then ((eqI a.Win.Bits b.Win.Bits)) else (false)) else (false)) else (false)) else (false)
theorem Pr (j:World) (C:Value) (a:PEp) (G:Lf j C a) (D:Value) (b:PEp) (H:Lf j D b) :Fn Tryz.prog 95 #[C,D] j (fun v E=>Keep j E∧O_4 E j.heap.size v (i_sameEp a b)):=by
 obtain ⟨m,o,p,q,rfl,I,J,K,L⟩:=G
 obtain ⟨r,s,t,u,rfl,M,O,P,Q⟩:=H
 refine Cl (n:=42) [(va (Dd a m o p q)),(va (Dd b r s t u))] Tryz.func95 rfl rfl ?_
 refine sr ?_
 refine bx (Dd a m o p q) wN ?_
 intro h Y Z aa R S
 refine bx (Dd b r s t u) wN ?_
 intro i T ab ac F w
 have l:=((Ch.base j).extk R).extk F
 refine aw (vb false) ?_
 refine nx ?_
 refine pu (vp h 0) wN ?_
 have x:=(S.kp F)
 refine ld (vi a.N) wN tE x ?_
 refine pu (vp i 0) wN ?_
 refine ld (vi b.N) wN tE w ?_
 refine pu (vb (decide (a.N=b.N))) wN ?_
 refine mw (vb (decide (a.N=b.N))) ?_
 rcases bf (decide (a.N=b.N)) with d|d
 ·have ad:=dF d
  iterate 5 refine sk d ?_
  refine pf (vb false) wN d ?_
  refine mw (vb false) ?_
  iterate 5 refine sk (Eq.refl false) ?_
  refine pf (vb false) wN (Eq.refl false) ?_
  refine mw (vb false) ?_
  iterate 7 refine sk (Eq.refl false) ?_
  refine pf (vb false) wN (Eq.refl false) ?_
  refine mw (vb false) ?_
  iterate 7 refine sk (Eq.refl false) ?_
  refine pf (vb false) wN (Eq.refl false) ?_
  refine aw (vb false) ?_
  refine n3 ?_
  refine rt (vb false) ?_
  refine ⟨l.keep0,?_⟩
  simp only [i_sameEp,d,cond_true,cond_false]
  exact rfl
 have ae:=dT d
 refine pu (vp h 1) (wS d) ?_
 refine ld (vs m a.Key.length o) (wS d) BT x ?_
 refine pu (vp i 1) (wS d) ?_
 refine ld (vs r b.Key.length s) (wS d) BT w ?_
 refine cl (wS d) (Hg T _ a.Key (CC (I.from0 l) J) _ b.Key (CC (M.from0 l) O)) ?_
 rintro _ V ⟨y,rfl⟩
 have k:=l.extk y
 refine pk (vb (Du a.Key b.Key)) wN d ?_
 refine mw (vb (Du a.Key b.Key)) ?_
 rcases bf (Du a.Key b.Key) with g|g
 ·iterate 5 refine sk g ?_
  refine pf (vb false) wN g ?_
  refine mw (vb false) ?_
  iterate 7 refine sk (Eq.refl false) ?_
  refine pf (vb false) wN (Eq.refl false) ?_
  refine mw (vb false) ?_
  iterate 7 refine sk (Eq.refl false) ?_
  refine pf (vb false) wN (Eq.refl false) ?_
  refine aw (vb false) ?_
  refine n3 ?_
  refine rt (vb false) ?_
  refine ⟨k.keep0,?_⟩
  simp only [i_sameEp,d,g,cond_true,cond_false]
  exact rfl
 refine pu (vp h 2) (wS g) ?_
 have A:=(x.kp y)
 refine ld (vi a.Seq) (wS g) tE A ?_
 refine pu (vp i 2) (wS g) ?_
 have B:=(w.kp y)
 refine ld (vi b.Seq) (wS g) tE B ?_
 refine pu (vb (decide (a.Seq=b.Seq))) (wS g) ?_
 refine pk (vb (decide (a.Seq=b.Seq))) wN g ?_
 refine mw (vb (decide (a.Seq=b.Seq))) ?_
 rcases bf (decide (a.Seq=b.Seq)) with e|e
 ·have af:=dF e
  iterate 7 refine sk e ?_
  refine pf (vb false) wN e ?_
  refine mw (vb false) ?_
  iterate 7 refine sk (Eq.refl false) ?_
  refine pf (vb false) wN (Eq.refl false) ?_
  refine aw (vb false) ?_
  refine n3 ?_
  refine rt (vb false) ?_
  refine ⟨k.keep0,?_⟩
  simp only [i_sameEp,d,g,e,cond_true,cond_false]
  exact rfl
 have ah:=dT e
 refine pu (vp h 3) (wS e) ?_
 refine pu (vp h 3) (wS e) ?_
 refine ld (vi a.Win.Top) (wS e) tE A ?_
 refine pu (vp i 3) (wS e) ?_
 refine pu (vp i 3) (wS e) ?_
 refine ld (vi b.Win.Top) (wS e) tE B ?_
 refine pu (vb (decide (a.Win.Top=b.Win.Top))) (wS e) ?_
 refine pk (vb (decide (a.Win.Top=b.Win.Top))) wN e ?_
 refine mw (vb (decide (a.Win.Top=b.Win.Top))) ?_
 rcases bf (decide (a.Win.Top=b.Win.Top)) with f|f
 ·have ai:=dF f
  iterate 7 refine sk f ?_
  refine pf (vb false) wN f ?_
  refine aw (vb false) ?_
  refine n3 ?_
  refine rt (vb false) ?_
  refine ⟨k.keep0,?_⟩
  simp only [i_sameEp,d,g,e,f,cond_true,cond_false]
  exact rfl
 have aj:=dT f
 refine pu (vp h 3) (wS f) ?_
 refine pu (vp h 4) (wS f) ?_
 refine ld (vs p a.Win.Bits.length q) (wS f) Dk A ?_
 refine pu (vp i 3) (wS f) ?_
 refine pu (vp i 4) (wS f) ?_
 refine ld (vs t b.Win.Bits.length u) (wS f) Dk B ?_
 refine cl (wS f) (MU V _ a.Win.Bits (GY (K.from0 k) L) _ b.Win.Bits (GY (P.from0 k) Q)) ?_
 rintro _ ak ⟨W,rfl⟩
 have X:=k.extk W
 refine pk (vb (eqI a.Win.Bits b.Win.Bits)) wN f ?_
 refine aw (vb (eqI a.Win.Bits b.Win.Bits)) ?_
 refine n3 ?_
 refine rt (vb (eqI a.Win.Bits b.Win.Bits)) ?_
 refine ⟨X.keep0,?_⟩
 simp only [i_sameEp,d,g,e,f,cond_true,cond_false]
 exact rfl

def EG (a:PChan):(Bool):=bif a.HasOld then (bif (EN a.Old) then (bif (decide (a.Old.N=(a.Cur.N - 1))) then (bif (i_within a.Until 0 1000005) then (true) else (bif (decide (a.Until=(-1))) then (decide (a.Role=1)) else (false))) else (false)) else (false)) else (bif (i_sameEp a.Old {N:=0,Key:=[],Seq:=0,Win:={Top:=0,Bits:=[]:PWin}:PEp}) then (decide (a.Until=0)) else (false))
theorem QQ (k:World) (x:Value) (a:PChan) (S:Nc k x a) (ab:0≤a.Cur.N) (ac:a.Cur.N≤4294967295):Fn Tryz.prog 58 #[x] k (fun v y=>Keep k y∧O_4 y k.heap.size v (EG a)):=by
 obtain ⟨A,B,C,D,E,F,m,o,p,q,G,H,rfl,ad,ae,af,ah,ai,aj,I,J,K,L,ak,am⟩:=S
 refine Cl (n:=42) [(va (Dv a A B C D E F m o p q G H))] Tryz.func58 rfl rfl ?_
 refine sr ?_
 refine bx (Dv a A B C D E F m o p q G H) wN ?_
 intro e t an ao T l
 have j:=(Ch.base k).extk T
 refine aw (vb false) ?_
 refine n4 ?_
 refine pu (vp e 12) wN ?_
 refine ld (vb a.HasOld) wN FZ l ?_
 refine pu (vb (!a.HasOld)) wN ?_
 refine n2 ?_
 rcases bf a.HasOld with g|g
 ·refine ct (cA not g) ?_
  refine sr ?_
  refine pu (vp e 7) wN ?_
  refine lN (Dd a.Old m o p q) wN Cs BW l ?_
  refine pu (va HC) wN ?_
  refine cl wN (Pr t _ a.Old (Fh (I.from0 j) J (K.from0 j) L) _ _ (show Lf t (va HC) {N:=0,Key:=[],Seq:=0,Win:={Top:=0,Bits:=[]:PWin}:PEp} from ⟨_,_,_,_,rfl,(Rd.nil _ _),(by simp),(Rd.nil _ _),(by simp)⟩)) ?_
  rintro _ u ⟨M,rfl⟩
  have O:=j.extk M
  refine mw (vb (i_sameEp a.Old {N:=0,Key:=[],Seq:=0,Win:={Top:=0,Bits:=[]:PWin}:PEp})) ?_
  rcases bf (i_sameEp a.Old {N:=0,Key:=[],Seq:=0,Win:={Top:=0,Bits:=[]:PWin}:PEp}) with h|h
  ·iterate 3 refine sk h ?_
   refine pf (vb false) wN h ?_
   refine aw (vb false) ?_
   refine n1 ?_
   refine rt (vb false) ?_
   refine ⟨O.keep0,?_⟩
   simp only [EG,g,h,cond_true,cond_false]
   exact rfl
  refine pu (vp e 13) (wS h) ?_
  have V:=(l.kp M)
  refine ld (vi a.Until) (wS h) tE V ?_
  refine pu (vb (decide (a.Until=0))) (wS h) ?_
  refine pk (vb (decide (a.Until=0))) wN h ?_
  refine aw (vb (decide (a.Until=0))) ?_
  refine n1 ?_
  refine rt (vb (decide (a.Until=0))) ?_
  refine ⟨O.keep0,?_⟩
  simp only [EG,g,h,cond_true,cond_false]
  exact rfl
 refine cf (cA not g) ?_
 refine y2 ?_
 refine jT1 [(1,(vp e 0)),(2,(vb false))] (EG a=false) ?_ fun P=>?_
 ·intro W u X ap
  have Y:=j.extk X
  refine sr ?_
  refine aw (vb false) ?_
  refine n1 ?_
  refine rt (vb false) ?_
  refine ⟨Y.keep0,?_⟩
  rw [W]
  exact rfl
 refine pu (vp e 7) wN ?_
 refine lN (Dd a.Old m o p q) wN Cs BW l ?_
 refine cl wN (Oi t _ a.Old (Fh (I.from0 j) J (K.from0 j) L)) ?_
 rintro _ u ⟨r,rfl⟩
 refine pu (vb (!(EN a.Old))) wN ?_
 refine mw (vb (!(EN a.Old))) ?_
 rcases bf (EN a.Old) with b|b
 ·iterate 8 refine sk (cA not b) ?_
  refine pk (vb true) wN (cA not b) ?_
  refine n2 ?_
  refine ct (Eq.refl true) ?_
  have Z:EG a=false:=by simp only [EG,g,b,cond_true,cond_false]
  exact wj (P Z _ r)
 have aq:=Gw b
 refine pu (vp e 7) (wS (cA not b)) ?_
 refine pu (vp e 7) (wS (cA not b)) ?_
 have s:=(l.kp r)
 refine ld (vi a.Old.N) (wS (cA not b)) tE s ?_
 refine pu (vp e 2) (wS (cA not b)) ?_
 refine pu (vp e 2) (wS (cA not b)) ?_
 refine ld (vi a.Cur.N) (wS (cA not b)) tE s ?_
 refine ar (a.Cur.N - 1) (wS (cA not b)) ?_
 refine pu (vb (!(decide (a.Old.N=(a.Cur.N - 1))))) (wS (cA not b)) ?_
 refine pf (vb (!(decide (a.Old.N=(a.Cur.N - 1))))) wN (cA not b) ?_
 refine n2 ?_
 rcases bf (decide (a.Old.N=(a.Cur.N - 1))) with i|i
 ·have au:=dF i
  refine ct (cA not i) ?_
  have aa:EG a=false:=by simp only [EG,g,b,i,cond_true,cond_false]
  exact wj (P aa _ r)
 have av:=dT i
 refine cf (cA not i) ?_
 refine y1 ?_
 refine pu (vp e 13) wN ?_
 refine ld (vi a.Until) wN tE s ?_
 refine cl wN (DI u a.Until 0 1000005) ?_
 rintro _ ax ⟨Q,rfl⟩
 have w:=(j.extk r).extk Q
 refine mw (vb (i_within a.Until 0 1000005)) ?_
 rcases bt (i_within a.Until 0 1000005) with d|d
 ·have ay:=CE d
  iterate 4 refine sk d ?_
  refine su ?_
  refine su ?_
  refine su ?_
  refine sk d ?_
  refine pk (vb true) wN d ?_
  refine aw (vb true) ?_
  refine n3 ?_
  refine rt (vb true) ?_
  refine ⟨w.keep0,?_⟩
  simp only [EG,g,b,i,d,cond_true,cond_false]
  exact rfl
 have az:=CT d
 refine pu (vp e 13) (wS d) ?_
 have R:=(s.kp Q)
 refine ld (vi a.Until) (wS d) tE R ?_
 refine pu (vb (decide (a.Until=(-1)))) (wS d) ?_
 refine mv (vb (decide (a.Until=(-1)))) (wS d) ?_
 rcases bf (decide (a.Until=(-1))) with f|f
 ·have a0:=dF f
  iterate 3 refine sk f ?_
  refine pf (vb false) (wS d) f ?_
  refine pf (vb false) wN d ?_
  refine aw (vb false) ?_
  refine n3 ?_
  refine rt (vb false) ?_
  refine ⟨w.keep0,?_⟩
  simp only [EG,g,b,i,d,f,cond_true,cond_false]
  exact rfl
 have a1:=dT f
 refine pu (vp e 0) (wS f) ?_
 refine ld (vi a.Role) (wS f) tE R ?_
 refine pu (vb (decide (a.Role=1))) (wS f) ?_
 refine pk (vb (decide (a.Role=1))) (wS d) f ?_
 refine pf (vb (decide (a.Role=1))) wN d ?_
 refine aw (vb (decide (a.Role=1))) ?_
 refine n3 ?_
 refine rt (vb (decide (a.Role=1))) ?_
 refine ⟨w.keep0,?_⟩
 simp only [EG,g,b,i,d,f,cond_true,cond_false]
 exact rfl

def Ds (a:PChan):(Bool):=bif (DM a.Role) then (bif (CL a.Sn) then (bif (EN a.Cur) then (bif (EG a) then (bif (decide ((a.Next.length:Int)=0)) then (true) else (bif (decide (a.Role=0)) then (bif (decide ((a.Next.length:Int)=32)) then (decide (a.Cur.N < 4294967295)) else (false)) else (false))) else (false)) else (false)) else (false)) else (false)
theorem Py (o:World) (K:Value) (a:PChan) (ab:Nc o K a) :Fn Tryz.prog 24 #[K] o (fun v L=>Keep o L∧O_4 L o.heap.size v (Ds a)):=by
 obtain ⟨s,t,u,w,x,y,D,E,F,G,p,q,rfl,M,O,P,Q,R,S,ac,ad,ae,af,H,ah⟩:=ab
 refine Cl (n:=45) [(va (Dv a s t u w x y D E F G p q))] Tryz.func24 rfl rfl ?_
 refine sr ?_
 refine bx (Dv a s t u w x y D E F G p q) wN ?_
 intro i ai ay az aj T
 have V:=(Ch.base o).extk aj
 refine aw (vb false) ?_
 refine n4 ?_
 refine jT1 [(1,(vp i 0)),(2,(vb false))] (Ds a=false) ?_ fun A=>?_
 ·intro ak W am a0
  have an:=V.extk am
  refine sr ?_
  refine aw (vb false) ?_
  refine n1 ?_
  refine rt (vb false) ?_
  refine ⟨an.keep0,?_⟩
  rw [ak]
  exact rfl
 refine pu (vp i 0) wN ?_
 refine ld (vi a.Role) wN tE T ?_
 refine cl wN (Kg ai a.Role) ?_
 rintro _ W ⟨l,rfl⟩
 have X:=V.extk l
 refine pu (vb (!(DM a.Role))) wN ?_
 refine mw (vb (!(DM a.Role))) ?_
 rcases bf (DM a.Role) with d|d
 ·have a1:=JT d
  iterate 4 refine sk (cA not d) ?_
  refine pk (vb true) wN (cA not d) ?_
  refine mw (vb true) ?_
  iterate 4 refine sk (Eq.refl true) ?_
  refine pk (vb true) wN (Eq.refl true) ?_
  refine mw (vb true) ?_
  iterate 3 refine sk (Eq.refl true) ?_
  refine pk (vb true) wN (Eq.refl true) ?_
  refine n2 ?_
  refine ct (Eq.refl true) ?_
  have ao:Ds a=false:=by simp only [Ds,d,cond_true,cond_false]
  exact wj (A ao _ l)
 have a2:=Ii d
 refine pu (vp i 1) (wS (cA not d)) ?_
 have Y:=(T.kp l)
 refine ld (vs s a.Sn.length t) (wS (cA not d)) BT Y ?_
 refine cl (wS (cA not d)) (Fy W _ a.Sn (CC (M.from0 X) O)) ?_
 rintro _ ap ⟨r,rfl⟩
 have I:=X.extk r
 refine pu (vb (!(CL a.Sn))) (wS (cA not d)) ?_
 refine pf (vb (!(CL a.Sn))) wN (cA not d) ?_
 refine mw (vb (!(CL a.Sn))) ?_
 rcases bf (CL a.Sn) with e|e
 ·have a3:=Fu e
  iterate 4 refine sk (cA not e) ?_
  refine pk (vb true) wN (cA not e) ?_
  refine mw (vb true) ?_
  iterate 3 refine sk (Eq.refl true) ?_
  refine pk (vb true) wN (Eq.refl true) ?_
  refine n2 ?_
  refine ct (Eq.refl true) ?_
  have aq:Ds a=false:=by simp only [Ds,d,e,cond_true,cond_false]
  exact wj (A aq _ (l.trans r))
 have a4:=Ft e
 refine pu (vp i 2) (wS (cA not e)) ?_
 have Z:=(Y.kp r)
 refine lN (Dd a.Cur u w x y) (wS (cA not e)) Cs BW Z ?_
 refine cl (wS (cA not e)) (Oi ap _ a.Cur (Fh (P.from0 I) Q (R.from0 I) S)) ?_
 rintro _ au ⟨B,rfl⟩
 have k:=I.extk B
 refine pu (vb (!(EN a.Cur))) (wS (cA not e)) ?_
 refine pf (vb (!(EN a.Cur))) wN (cA not e) ?_
 refine mw (vb (!(EN a.Cur))) ?_
 rcases bf (EN a.Cur) with f|f
 ·iterate 3 refine sk (cA not f) ?_
  refine pk (vb true) wN (cA not f) ?_
  refine n2 ?_
  refine ct (Eq.refl true) ?_
  have av:Ds a=false:=by simp only [Ds,d,e,f,cond_true,cond_false]
  exact wj (A av _ ((l.trans r).trans B))
 have a5:=Gw f
 have aa:=(Z.kp B)
 refine lN (Dv a s t u w x y D E F G p q) (wS (cA not f)) Cv BY aa ?_
 refine cl (wS (cA not f)) (QQ au _ a (GX (M.from0 k) O (P.from0 k) Q (R.from0 k) S (ac.from0 k) ad (ae.from0 k) af (H.from0 k) ah) (by omega) (by omega)) ?_
 rintro _ a6 ⟨J,rfl⟩
 have m:=k.extk J
 refine pu (vb (!(EG a))) (wS (cA not f)) ?_
 refine pf (vb (!(EG a))) wN (cA not f) ?_
 refine n2 ?_
 rcases bf (EG a) with j|j
 ·refine ct (cA not j) ?_
  have ax:Ds a=false:=by simp only [Ds,d,e,f,j,cond_true,cond_false]
  exact wj (A ax _ (((l.trans r).trans B).trans J))
 refine cf (cA not j) ?_
 refine y1 ?_
 refine pu (vp i 14) wN ?_
 have C:=(aa.kp J)
 refine ld (vs p a.Next.length q) wN BT C ?_
 refine ln wN tD (H.from0 m) ?_
 refine pu (vb (decide ((a.Next.length:Int)=0))) wN ?_
 refine mw (vb (decide ((a.Next.length:Int)=0))) ?_
 rcases bt (decide ((a.Next.length:Int)=0)) with b|b
 ·have a7:=dT b
  iterate 4 refine sk b ?_
  refine su ?_
  refine su ?_
  refine su ?_
  refine su ?_
  iterate 2 refine sk b ?_
  refine su ?_
  refine su ?_
  refine su ?_
  refine su ?_
  refine sk b ?_
  refine pk (vb true) wN b ?_
  refine aw (vb true) ?_
  refine n3 ?_
  refine rt (vb true) ?_
  refine ⟨m.keep0,?_⟩
  simp only [Ds,d,e,f,j,b,cond_true,cond_false]
  exact rfl
 have a8:=dF b
 refine pu (vp i 0) (wS b) ?_
 refine ld (vi a.Role) (wS b) tE C ?_
 refine pu (vb (decide (a.Role=0))) (wS b) ?_
 refine mv (vb (decide (a.Role=0))) (wS b) ?_
 rcases bf (decide (a.Role=0)) with g|g
 ·have a9:=dF g
  iterate 4 refine sk g ?_
  refine pf (vb false) (wS b) g ?_
  refine mv (vb false) (wS b) ?_
  iterate 4 refine sk (Eq.refl false) ?_
  refine pf (vb false) (wS b) (Eq.refl false) ?_
  refine pf (vb false) wN b ?_
  refine aw (vb false) ?_
  refine n3 ?_
  refine rt (vb false) ?_
  refine ⟨m.keep0,?_⟩
  simp only [Ds,d,e,f,j,b,g,cond_true,cond_false]
  exact rfl
 have aA:=dT g
 refine pu (vp i 14) (wS g) ?_
 refine ld (vs p a.Next.length q) (wS g) BT C ?_
 refine ln (wS g) tD (H.from0 m) ?_
 refine pu (vb (decide ((a.Next.length:Int)=32))) (wS g) ?_
 refine pk (vb (decide ((a.Next.length:Int)=32))) (wS b) g ?_
 refine mv (vb (decide ((a.Next.length:Int)=32))) (wS b) ?_
 rcases bf (decide ((a.Next.length:Int)=32)) with h|h
 ·have aB:=dF h
  iterate 4 refine sk h ?_
  refine pf (vb false) (wS b) h ?_
  refine pf (vb false) wN b ?_
  refine aw (vb false) ?_
  refine n3 ?_
  refine rt (vb false) ?_
  refine ⟨m.keep0,?_⟩
  simp only [Ds,d,e,f,j,b,g,h,cond_true,cond_false]
  exact rfl
 have aC:=dT h
 refine pu (vp i 2) (wS h) ?_
 refine pu (vp i 2) (wS h) ?_
 refine ld (vi a.Cur.N) (wS h) tE C ?_
 refine pu (vb (decide (a.Cur.N < 4294967295))) (wS h) ?_
 refine pk (vb (decide (a.Cur.N < 4294967295))) (wS b) h ?_
 refine pf (vb (decide (a.Cur.N < 4294967295))) wN b ?_
 refine aw (vb (decide (a.Cur.N < 4294967295))) ?_
 refine n3 ?_
 refine rt (vb (decide (a.Cur.N < 4294967295))) ?_
 refine ⟨m.keep0,?_⟩
 simp only [Ds,d,e,f,j,b,g,h,cond_true,cond_false]
 exact rfl
theorem JU {c:PChan} (h:Ds c=true):0≤c.Cur.N∧c.Cur.N≤4294967295∧0≤c.Role∧c.Role≤1:=by
  simp only [Ds,Bool.cond_false_right,Bool.and_eq_true] at h
  have b:=Ii h.1
  have a:=Gw h.2.2.1
  exact ⟨a.1,a.2.1,by omega,by omega⟩

def DU (a:Int):(Bool):=(i_within a 4 8)
theorem Kj (b:World) (a:Int) :Fn Tryz.prog 43 #[(vi a)] b (fun v d=>Keep b d∧O_4 d b.heap.size v (DU a)):=by
 refine Cl (n:=5) [(vi a)] Tryz.func43 rfl rfl ?_
 refine sr ?_
 refine aw (vb false) ?_
 refine nx ?_
 refine mw (vi a) ?_
 refine cl wN (DI b a 4 8) ?_
 rintro _ h ⟨e,rfl⟩
 have f:=(Ch.base b).extk e
 refine aw (vb (i_within a 4 8)) ?_
 refine n3 ?_
 refine rt (vb (i_within a 4 8)) ?_
 refine ⟨f.keep0,?_⟩
 have g:DU a=(i_within a 4 8):=by rfl
 rw [g]
 exact rfl

def EM (b:Int) (a:Int):(Bool):=bif (decide (b=4)) then (decide (a≤40)) else (bif (decide (b=5)) then (decide (a=12)) else (bif (decide (b=6)) then (decide (a=12)) else (decide (a=4))))
theorem Ps (g:World) (b:Int) (a:Int) :Fn Tryz.prog 80 #[(vi b),(vi a)] g (fun v h=>Keep g h∧O_4 h g.heap.size v (EM b a)):=by
 refine Cl (n:=17) [(vi b),(vi a)] Tryz.func80 rfl rfl ?_
 refine sr ?_
 refine aw (vb false) ?_
 refine n4 ?_
 refine mw (vi b) ?_
 refine BU<|re<|Ca<|sr ?_
 refine pu (vb (decide (b=4))) wN ?_
 refine aw (vb (decide (b=4))) ?_
 refine n2 ?_
 rcases bt (decide (b=4)) with d|d
 ·have i:=dT d
  refine ct d ?_
  refine sr ?_
  refine mw (vi a) ?_
  refine pu (vb (decide (a≤40))) wN ?_
  refine aw (vb (decide (a≤40))) ?_
  refine BU<|re<|DJ<|CB<|Cb ?_
  refine rt (vb (decide (a≤40))) ?_
  refine ⟨Ch.refl _ _,?_⟩
  simp only [EM,d,cond_true,cond_false]
  exact rfl
 have j:=dF d
 refine cf d ?_
 refine Cc<|sr ?_
 refine pu (vb (decide (b=5))) wN ?_
 refine aw (vb (decide (b=5))) ?_
 refine n2 ?_
 rcases bt (decide (b=5)) with e|e
 ·have k:=dT e
  refine ct e ?_
  refine Ct<|re ?_
  refine ct e ?_
  refine sr ?_
  refine mw (vi a) ?_
  refine pu (vb (decide (a=12))) wN ?_
  refine aw (vb (decide (a=12))) ?_
  refine BU<|re<|DJ<|CB<|Cb ?_
  refine rt (vb (decide (a=12))) ?_
  refine ⟨Ch.refl _ _,?_⟩
  simp only [EM,d,e,cond_true,cond_false]
  exact rfl
 have l:=dF e
 refine cf e ?_
 refine BZ ?_
 refine pu (vb (decide (b=6))) wN ?_
 refine aw (vb (decide (b=6))) ?_
 refine n2 ?_
 rcases bt (decide (b=6)) with f|f
 ·have m:=dT f
  refine ct f ?_
  refine sr ?_
  refine mw (vi a) ?_
  refine pu (vb (decide (a=12))) wN ?_
  refine aw (vb (decide (a=12))) ?_
  refine BU<|re<|DJ<|CB<|Cb ?_
  refine rt (vb (decide (a=12))) ?_
  refine ⟨Ch.refl _ _,?_⟩
  simp only [EM,d,e,f,cond_true,cond_false]
  exact rfl
 have o:=dF f
 refine cf f ?_
 refine Ct<|BS<|re<|sr ?_
 refine mw (vi a) ?_
 refine pu (vb (decide (a=4))) wN ?_
 refine aw (vb (decide (a=4))) ?_
 refine n3 ?_
 refine rt (vb (decide (a=4))) ?_
 refine ⟨Ch.refl _ _,?_⟩
 simp only [EM,d,e,f,cond_true,cond_false]
 exact rfl

def CG (a:PFrame) (b:PFrame):(Bool):=bif (decide (a.Kind=b.Kind)) then (bif (decide (a.Id=b.Id)) then (bif (decide (a.Tick=b.Tick)) then (bif (decide (a.Epoch=b.Epoch)) then (bif (decide (a.Seq=b.Seq)) then (bif (Du a.Cn b.Cn) then (bif (Du a.Sn b.Sn) then (bif (Du a.Cookie b.Cookie) then (bif (Du a.Proof b.Proof) then (bif (Du a.Body b.Body) then ((Du a.Tag b.Tag)) else (false)) else (false)) else (false)) else (false)) else (false)) else (false)) else (false)) else (false)) else (false)) else (false)
theorem Gy (t:World) (af:Value) (a:PFrame) (ax:JC t af a) (ah:Value) (b:PFrame) (ay:JC t ah b) :Fn Tryz.prog 81 #[af,ah] t (fun v ai=>Keep t ai∧O_4 ai t.heap.size v (CG a b)):=by
 obtain ⟨B,C,D,E,F,G,H,I,J,K,L,M,rfl,az,a0,a1,a2,a3,a4,a5,a6,a7,a8,a9,aA⟩:=ax
 obtain ⟨N,O,P,Q,R,S,T,V,W,X,Y,Z,rfl,aB,aC,aD,aE,aF,aG,aH,aI,aJ,aK,aL,aM⟩:=ay
 refine Cl (n:=80) [(va (EB a B C D E F G H I J K L M)),(va (EB b N O P Q R S T V W X Y Z))] Tryz.func81 rfl rfl ?_
 refine sr ?_
 refine bx (EB a B C D E F G H I J K L M) wN ?_
 intro m aZ ba bb aN aO
 refine bx (EB b N O P Q R S T V W X Y Z) wN ?_
 intro o aP bc bd aj r
 have q:=((Ch.base t).extk aN).extk aj
 refine aw (vb false) ?_
 refine nx ?_
 refine pu (vp m 0) wN ?_
 have s:=(aO.kp aj)
 refine ld (vi a.Kind) wN tE s ?_
 refine pu (vp o 0) wN ?_
 refine ld (vi b.Kind) wN tE r ?_
 refine pu (vb (decide (a.Kind=b.Kind))) wN ?_
 refine mw (vb (decide (a.Kind=b.Kind))) ?_
 rcases bf (decide (a.Kind=b.Kind)) with d|d
 ·have be:=dF d
  iterate 5 refine sk d ?_
  refine pf (vb false) wN d ?_
  refine mw (vb false) ?_
  iterate 5 refine sk (Eq.refl false) ?_
  refine pf (vb false) wN (Eq.refl false) ?_
  refine mw (vb false) ?_
  iterate 5 refine sk (Eq.refl false) ?_
  refine pf (vb false) wN (Eq.refl false) ?_
  refine mw (vb false) ?_
  iterate 5 refine sk (Eq.refl false) ?_
  refine pf (vb false) wN (Eq.refl false) ?_
  refine mw (vb false) ?_
  iterate 5 refine sk (Eq.refl false) ?_
  refine pf (vb false) wN (Eq.refl false) ?_
  refine mw (vb false) ?_
  iterate 5 refine sk (Eq.refl false) ?_
  refine pf (vb false) wN (Eq.refl false) ?_
  refine mw (vb false) ?_
  iterate 5 refine sk (Eq.refl false) ?_
  refine pf (vb false) wN (Eq.refl false) ?_
  refine mw (vb false) ?_
  iterate 5 refine sk (Eq.refl false) ?_
  refine pf (vb false) wN (Eq.refl false) ?_
  refine mw (vb false) ?_
  iterate 5 refine sk (Eq.refl false) ?_
  refine pf (vb false) wN (Eq.refl false) ?_
  refine mw (vb false) ?_
  iterate 5 refine sk (Eq.refl false) ?_
  refine pf (vb false) wN (Eq.refl false) ?_
  refine aw (vb false) ?_
  refine n3 ?_
  refine rt (vb false) ?_
  refine ⟨q.keep0,?_⟩
  simp only [CG,d,cond_true,cond_false]
  exact rfl
 have bg:=dT d
 refine pu (vp m 1) (wS d) ?_
 refine ld (vi a.Id) (wS d) tE s ?_
 refine pu (vp o 1) (wS d) ?_
 refine ld (vi b.Id) (wS d) tE r ?_
 refine pu (vb (decide (a.Id=b.Id))) (wS d) ?_
 refine pk (vb (decide (a.Id=b.Id))) wN d ?_
 refine mw (vb (decide (a.Id=b.Id))) ?_
 rcases bf (decide (a.Id=b.Id)) with e|e
 ·have bh:=dF e
  iterate 5 refine sk e ?_
  refine pf (vb false) wN e ?_
  refine mw (vb false) ?_
  iterate 5 refine sk (Eq.refl false) ?_
  refine pf (vb false) wN (Eq.refl false) ?_
  refine mw (vb false) ?_
  iterate 5 refine sk (Eq.refl false) ?_
  refine pf (vb false) wN (Eq.refl false) ?_
  refine mw (vb false) ?_
  iterate 5 refine sk (Eq.refl false) ?_
  refine pf (vb false) wN (Eq.refl false) ?_
  refine mw (vb false) ?_
  iterate 5 refine sk (Eq.refl false) ?_
  refine pf (vb false) wN (Eq.refl false) ?_
  refine mw (vb false) ?_
  iterate 5 refine sk (Eq.refl false) ?_
  refine pf (vb false) wN (Eq.refl false) ?_
  refine mw (vb false) ?_
  iterate 5 refine sk (Eq.refl false) ?_
  refine pf (vb false) wN (Eq.refl false) ?_
  refine mw (vb false) ?_
  iterate 5 refine sk (Eq.refl false) ?_
  refine pf (vb false) wN (Eq.refl false) ?_
  refine mw (vb false) ?_
  iterate 5 refine sk (Eq.refl false) ?_
  refine pf (vb false) wN (Eq.refl false) ?_
  refine aw (vb false) ?_
  refine n3 ?_
  refine rt (vb false) ?_
  refine ⟨q.keep0,?_⟩
  simp only [CG,d,e,cond_true,cond_false]
  exact rfl
 have bi:=dT e
 refine pu (vp m 4) (wS e) ?_
 refine ld (vi a.Tick) (wS e) tE s ?_
 refine pu (vp o 4) (wS e) ?_
 refine ld (vi b.Tick) (wS e) tE r ?_
 refine pu (vb (decide (a.Tick=b.Tick))) (wS e) ?_
 refine pk (vb (decide (a.Tick=b.Tick))) wN e ?_
 refine mw (vb (decide (a.Tick=b.Tick))) ?_
 rcases bf (decide (a.Tick=b.Tick)) with f|f
 ·have bj:=dF f
  iterate 5 refine sk f ?_
  refine pf (vb false) wN f ?_
  refine mw (vb false) ?_
  iterate 5 refine sk (Eq.refl false) ?_
  refine pf (vb false) wN (Eq.refl false) ?_
  refine mw (vb false) ?_
  iterate 5 refine sk (Eq.refl false) ?_
  refine pf (vb false) wN (Eq.refl false) ?_
  refine mw (vb false) ?_
  iterate 5 refine sk (Eq.refl false) ?_
  refine pf (vb false) wN (Eq.refl false) ?_
  refine mw (vb false) ?_
  iterate 5 refine sk (Eq.refl false) ?_
  refine pf (vb false) wN (Eq.refl false) ?_
  refine mw (vb false) ?_
  iterate 5 refine sk (Eq.refl false) ?_
  refine pf (vb false) wN (Eq.refl false) ?_
  refine mw (vb false) ?_
  iterate 5 refine sk (Eq.refl false) ?_
  refine pf (vb false) wN (Eq.refl false) ?_
  refine mw (vb false) ?_
  iterate 5 refine sk (Eq.refl false) ?_
  refine pf (vb false) wN (Eq.refl false) ?_
  refine aw (vb false) ?_
  refine n3 ?_
  refine rt (vb false) ?_
  refine ⟨q.keep0,?_⟩
  simp only [CG,d,e,f,cond_true,cond_false]
  exact rfl
 have bk:=dT f
 refine pu (vp m 7) (wS f) ?_
 refine ld (vi a.Epoch) (wS f) tE s ?_
 refine pu (vp o 7) (wS f) ?_
 refine ld (vi b.Epoch) (wS f) tE r ?_
 refine pu (vb (decide (a.Epoch=b.Epoch))) (wS f) ?_
 refine pk (vb (decide (a.Epoch=b.Epoch))) wN f ?_
 refine mw (vb (decide (a.Epoch=b.Epoch))) ?_
 rcases bf (decide (a.Epoch=b.Epoch)) with g|g
 ·have bl:=dF g
  iterate 5 refine sk g ?_
  refine pf (vb false) wN g ?_
  refine mw (vb false) ?_
  iterate 5 refine sk (Eq.refl false) ?_
  refine pf (vb false) wN (Eq.refl false) ?_
  refine mw (vb false) ?_
  iterate 5 refine sk (Eq.refl false) ?_
  refine pf (vb false) wN (Eq.refl false) ?_
  refine mw (vb false) ?_
  iterate 5 refine sk (Eq.refl false) ?_
  refine pf (vb false) wN (Eq.refl false) ?_
  refine mw (vb false) ?_
  iterate 5 refine sk (Eq.refl false) ?_
  refine pf (vb false) wN (Eq.refl false) ?_
  refine mw (vb false) ?_
  iterate 5 refine sk (Eq.refl false) ?_
  refine pf (vb false) wN (Eq.refl false) ?_
  refine mw (vb false) ?_
  iterate 5 refine sk (Eq.refl false) ?_
  refine pf (vb false) wN (Eq.refl false) ?_
  refine aw (vb false) ?_
  refine n3 ?_
  refine rt (vb false) ?_
  refine ⟨q.keep0,?_⟩
  simp only [CG,d,e,f,g,cond_true,cond_false]
  exact rfl
 have bm:=dT g
 refine pu (vp m 8) (wS g) ?_
 refine ld (vi a.Seq) (wS g) tE s ?_
 refine pu (vp o 8) (wS g) ?_
 refine ld (vi b.Seq) (wS g) tE r ?_
 refine pu (vb (decide (a.Seq=b.Seq))) (wS g) ?_
 refine pk (vb (decide (a.Seq=b.Seq))) wN g ?_
 refine mw (vb (decide (a.Seq=b.Seq))) ?_
 rcases bf (decide (a.Seq=b.Seq)) with h|h
 ·have bn:=dF h
  iterate 5 refine sk h ?_
  refine pf (vb false) wN h ?_
  refine mw (vb false) ?_
  iterate 5 refine sk (Eq.refl false) ?_
  refine pf (vb false) wN (Eq.refl false) ?_
  refine mw (vb false) ?_
  iterate 5 refine sk (Eq.refl false) ?_
  refine pf (vb false) wN (Eq.refl false) ?_
  refine mw (vb false) ?_
  iterate 5 refine sk (Eq.refl false) ?_
  refine pf (vb false) wN (Eq.refl false) ?_
  refine mw (vb false) ?_
  iterate 5 refine sk (Eq.refl false) ?_
  refine pf (vb false) wN (Eq.refl false) ?_
  refine mw (vb false) ?_
  iterate 5 refine sk (Eq.refl false) ?_
  refine pf (vb false) wN (Eq.refl false) ?_
  refine aw (vb false) ?_
  refine n3 ?_
  refine rt (vb false) ?_
  refine ⟨q.keep0,?_⟩
  simp only [CG,d,e,f,g,h,cond_true,cond_false]
  exact rfl
 have bo:=dT h
 refine pu (vp m 2) (wS h) ?_
 refine ld (vs B a.Cn.length C) (wS h) BT s ?_
 refine pu (vp o 2) (wS h) ?_
 refine ld (vs N b.Cn.length O) (wS h) BT r ?_
 refine cl (wS h) (Hg aP _ a.Cn (CC (az.from0 q) a0) _ b.Cn (CC (aB.from0 q) aC)) ?_
 rintro _ aQ ⟨aa,rfl⟩
 have u:=q.extk aa
 refine pk (vb (Du a.Cn b.Cn)) wN h ?_
 refine mw (vb (Du a.Cn b.Cn)) ?_
 rcases bf (Du a.Cn b.Cn) with i|i
 ·iterate 5 refine sk i ?_
  refine pf (vb false) wN i ?_
  refine mw (vb false) ?_
  iterate 5 refine sk (Eq.refl false) ?_
  refine pf (vb false) wN (Eq.refl false) ?_
  refine mw (vb false) ?_
  iterate 5 refine sk (Eq.refl false) ?_
  refine pf (vb false) wN (Eq.refl false) ?_
  refine mw (vb false) ?_
  iterate 5 refine sk (Eq.refl false) ?_
  refine pf (vb false) wN (Eq.refl false) ?_
  refine mw (vb false) ?_
  iterate 5 refine sk (Eq.refl false) ?_
  refine pf (vb false) wN (Eq.refl false) ?_
  refine aw (vb false) ?_
  refine n3 ?_
  refine rt (vb false) ?_
  refine ⟨u.keep0,?_⟩
  simp only [CG,d,e,f,g,h,i,cond_true,cond_false]
  exact rfl
 refine pu (vp m 3) (wS i) ?_
 have ak:=(s.kp aa)
 refine ld (vs D a.Sn.length E) (wS i) BT ak ?_
 refine pu (vp o 3) (wS i) ?_
 have am:=(r.kp aa)
 refine ld (vs P b.Sn.length Q) (wS i) BT am ?_
 refine cl (wS i) (Hg aQ _ a.Sn (CC (a1.from0 u) a2) _ b.Sn (CC (aD.from0 u) aE)) ?_
 rintro _ aR ⟨ab,rfl⟩
 have w:=u.extk ab
 refine pk (vb (Du a.Sn b.Sn)) wN i ?_
 refine mw (vb (Du a.Sn b.Sn)) ?_
 rcases bf (Du a.Sn b.Sn) with j|j
 ·iterate 5 refine sk j ?_
  refine pf (vb false) wN j ?_
  refine mw (vb false) ?_
  iterate 5 refine sk (Eq.refl false) ?_
  refine pf (vb false) wN (Eq.refl false) ?_
  refine mw (vb false) ?_
  iterate 5 refine sk (Eq.refl false) ?_
  refine pf (vb false) wN (Eq.refl false) ?_
  refine mw (vb false) ?_
  iterate 5 refine sk (Eq.refl false) ?_
  refine pf (vb false) wN (Eq.refl false) ?_
  refine aw (vb false) ?_
  refine n3 ?_
  refine rt (vb false) ?_
  refine ⟨w.keep0,?_⟩
  simp only [CG,d,e,f,g,h,i,j,cond_true,cond_false]
  exact rfl
 refine pu (vp m 5) (wS j) ?_
 have an:=(ak.kp ab)
 refine ld (vs F a.Cookie.length G) (wS j) BT an ?_
 refine pu (vp o 5) (wS j) ?_
 have ao:=(am.kp ab)
 refine ld (vs R b.Cookie.length S) (wS j) BT ao ?_
 refine cl (wS j) (Hg aR _ a.Cookie (CC (a3.from0 w) a4) _ b.Cookie (CC (aF.from0 w) aG)) ?_
 rintro _ aS ⟨ac,rfl⟩
 have x:=w.extk ac
 refine pk (vb (Du a.Cookie b.Cookie)) wN j ?_
 refine mw (vb (Du a.Cookie b.Cookie)) ?_
 rcases bf (Du a.Cookie b.Cookie) with k|k
 ·iterate 5 refine sk k ?_
  refine pf (vb false) wN k ?_
  refine mw (vb false) ?_
  iterate 5 refine sk (Eq.refl false) ?_
  refine pf (vb false) wN (Eq.refl false) ?_
  refine mw (vb false) ?_
  iterate 5 refine sk (Eq.refl false) ?_
  refine pf (vb false) wN (Eq.refl false) ?_
  refine aw (vb false) ?_
  refine n3 ?_
  refine rt (vb false) ?_
  refine ⟨x.keep0,?_⟩
  simp only [CG,d,e,f,g,h,i,j,k,cond_true,cond_false]
  exact rfl
 refine pu (vp m 6) (wS k) ?_
 have ap:=(an.kp ac)
 refine ld (vs H a.Proof.length I) (wS k) BT ap ?_
 refine pu (vp o 6) (wS k) ?_
 have aq:=(ao.kp ac)
 refine ld (vs T b.Proof.length V) (wS k) BT aq ?_
 refine cl (wS k) (Hg aS _ a.Proof (CC (a5.from0 x) a6) _ b.Proof (CC (aH.from0 x) aI)) ?_
 rintro _ aT ⟨ad,rfl⟩
 have y:=x.extk ad
 refine pk (vb (Du a.Proof b.Proof)) wN k ?_
 refine mw (vb (Du a.Proof b.Proof)) ?_
 rcases bf (Du a.Proof b.Proof) with l|l
 ·iterate 5 refine sk l ?_
  refine pf (vb false) wN l ?_
  refine mw (vb false) ?_
  iterate 5 refine sk (Eq.refl false) ?_
  refine pf (vb false) wN (Eq.refl false) ?_
  refine aw (vb false) ?_
  refine n3 ?_
  refine rt (vb false) ?_
  refine ⟨y.keep0,?_⟩
  simp only [CG,d,e,f,g,h,i,j,k,l,cond_true,cond_false]
  exact rfl
 refine pu (vp m 9) (wS l) ?_
 have au:=(ap.kp ad)
 refine ld (vs J a.Body.length K) (wS l) BT au ?_
 refine pu (vp o 9) (wS l) ?_
 have av:=(aq.kp ad)
 refine ld (vs W b.Body.length X) (wS l) BT av ?_
 refine cl (wS l) (Hg aT _ a.Body (CC (a7.from0 y) a8) _ b.Body (CC (aJ.from0 y) aK)) ?_
 rintro _ aU ⟨ae,rfl⟩
 have A:=y.extk ae
 refine pk (vb (Du a.Body b.Body)) wN l ?_
 refine mw (vb (Du a.Body b.Body)) ?_
 rcases bf (Du a.Body b.Body) with p|p
 ·iterate 5 refine sk p ?_
  refine pf (vb false) wN p ?_
  refine aw (vb false) ?_
  refine n3 ?_
  refine rt (vb false) ?_
  refine ⟨A.keep0,?_⟩
  simp only [CG,d,e,f,g,h,i,j,k,l,p,cond_true,cond_false]
  exact rfl
 refine pu (vp m 10) (wS p) ?_
 have aV:=(au.kp ae)
 refine ld (vs L a.Tag.length M) (wS p) BT aV ?_
 refine pu (vp o 10) (wS p) ?_
 have aW:=(av.kp ae)
 refine ld (vs Y b.Tag.length Z) (wS p) BT aW ?_
 refine cl (wS p) (Hg aU _ a.Tag (CC (a9.from0 A) aA) _ b.Tag (CC (aL.from0 A) aM)) ?_
 rintro _ bp ⟨aX,rfl⟩
 have aY:=A.extk aX
 refine pk (vb (Du a.Tag b.Tag)) wN p ?_
 refine aw (vb (Du a.Tag b.Tag)) ?_
 refine n3 ?_
 refine rt (vb (Du a.Tag b.Tag)) ?_
 refine ⟨aY.keep0,?_⟩
 simp only [CG,d,e,f,g,h,i,j,k,l,p,cond_true,cond_false]
 exact rfl
end Go.Proofs.YtacoceibbheccaaGreat.K
