import Derived.Test.YtacoceibbheccaaGreatCore
import Derived.Test.YtacoceibbheccaaGreatProg
import Derived.Test.YtacoceibbheccaaGreatHeld
import Derived.Test.YtacoceibbheccaaGreatFun
import Derived.Test.YtacoceibbheccaaGreatFunZ
import Derived.Test.YtacoceibbheccaaGreatSqz
import Derived.Test.YtacoceibbheccaaGreatHash
import Derived.Test.YtacoceibbheccaaGreatCur
import Derived.Test.YtacoceibbheccaaGreatDrawW
import Derived.Test.YtacoceibbheccaaGreatAead
import Derived.Test.YtacoceibbheccaaGreatWe1
namespace Go.Proofs.YtacoceibbheccaaGreat.K
open Go.RowKit
set_option linter.unusedVariables false
set_option linter.unusedSimpArgs false
set_option maxRecDepth 100000
set_option maxHeartbeats 4000000
def FT (a:List UInt8):(Bool):=decide ((a.length:Int)=12)
theorem Iv (b:World) (d:Value) (a:List UInt8) (h:HP b d a) :Fn Tryz.prog 56 #[d] b (fun v e=>Keep b e∧O_4 e b.heap.size v (FT a)):=by
 obtain ⟨f,g,rfl,i,k⟩:=h
 refine FI (n:=6) [(vs f a.length g)] Tryz.func56 rfl rfl ?_
 refine sr<|aw (vb false) ?_
 refine nx<|mw (vs f a.length g) ?_
 refine ln wN tD i ?_
 refine pu (vb (decide ((a.length:Int)=12))) wN ?_
 refine aw (vb (decide ((a.length:Int)=12))) ?_
 refine n3<|rt (vb (decide ((a.length:Int)=12))) ?_
 refine ⟨Ch.refl _ _,?_⟩
 have j:FT a=decide ((a.length:Int)=12):=by rfl
 rw [j]
 exact rfl
theorem Ir {b:List UInt8} (h:FT b=true):(b.length:Int)=12:=dT h
theorem Is {b:List UInt8} (h:FT b=false):¬ (b.length:Int)=12:=dF h

theorem Jt:∀ w,(zeroValue 34).run Tryz.prog w=.ok (va [(vi 0),(vs none 0 0)]) w:=fun w=>by kernel_rfl
theorem FH:∀ w,(sizeOf 34).run Tryz.prog w=.ok 2 w:=fun w=>by kernel_rfl
theorem Gj:∀ w,(isAgg 34).run Tryz.prog w=.ok true w:=fun w=>by kernel_rfl
def UO (w:World) (lo:Nat) (v:Value) (x:(PWin)):Prop:=∃ (a:Option Addr) (b:Nat),v=.agg #[.int .i64 x.Top,.slice a x.Bits.length b]∧w.ownsRow lo 3 1 (.slice a x.Bits.length b) x.Bits.length (x.Bits.map iV)∧x.Bits.length≤1073741824∧Aps [(a,b)]
def GS :(PWin):={Top:=(-1),Bits:=(List.replicate 32 (0:Int)):PWin}
theorem Sm (a:World)  :Fn Tryz.prog 82 #[] a (fun v e=>Keep a e∧UO e a.heap.size v (GS)):=by
 refine FI (n:=3) [] Tryz.func82 rfl rfl ?_
 refine sr<|al [(vi 0),(vs none 0 0)] wN Jt ?_
 intro t u j l f m
 refine nx<|OG (32) wN rfl rfl rfl uQ 32 rfl (by omega) (by first|(simp only [List.length_append,List.length_cons,List.length_nil,List.length_replicate,List.length_take,List.length_drop];omega)|omega) (by first|(simp only [List.length_append,List.length_cons,List.length_nil,List.length_replicate,List.length_take,List.length_drop];omega)|omega) ?_
 intro b d w g h
 refine pu (va [(vi (-1)),(vs b (List.replicate 32 (0:Int)).length d)]) wN ?_
 have o:=(m.kp g)
 refine sv [(vi (-1)),(vs b (List.replicate 32 (0:Int)).length d)] wN FH o ?_
 intro x i p y
 have q:=(((Ch.base a).extk f).extk g).ext i (fun k hk=>by subst hk;exact j)
 refine n3 ?_
 have r:=(tC h i (ne1 h (l)))
 refine Jz (.inl rfl) (va [(vi (-1)),(vs b (List.replicate 32 (0:Int)).length d)]) rfl (HL [(vi (-1)),(vs b (List.replicate 32 (0:Int)).length d)] rfl p Gj FH) ?_
 refine ⟨q.keep0,?_⟩
 have s:GS={Top:=(-1),Bits:=(List.replicate 32 (0:Int)):PWin}:=by rfl
 rw [s]
 exact ⟨_,_,rfl,(tA r f.size),(by rw [List.length_replicate];first|assumption|omega),⟨trivial,trivial⟩⟩

abbrev Ks:List Value:=[(vi 0),(vs none 0 0),(vi 0),(vi 0),(vs none 0 0)]
theorem Hy:∀ w,(zeroValue 36).run Tryz.prog w=.ok (va Ks) w:=fun w=>by kernel_rfl
theorem uE:∀ w,(sizeOf 36).run Tryz.prog w=.ok 5 w:=fun w=>by kernel_rfl
theorem FE:∀ w,(isAgg 36).run Tryz.prog w=.ok true w:=fun w=>by kernel_rfl
def TP (w:World) (lo:Nat) (v:Value) (x:(PEp)):Prop:=∃ (a:Option Addr) (b:Nat) (d:Option Addr) (e:Nat),v=.agg #[.int .i64 x.N,.slice a x.Key.length b,.int .i64 x.Seq,.int .i64 x.Win.Top,.slice d x.Win.Bits.length e]∧w.ownsRow lo 5 1 (.slice a x.Key.length b) x.Key.length (x.Key.map bV)∧x.Key.length≤1073741824∧w.ownsRow lo 3 1 (.slice d x.Win.Bits.length e) x.Win.Bits.length (x.Win.Bits.map iV)∧x.Win.Bits.length≤1073741824∧Aps [(a,b),(d,e)]
def FB (a:Int) (b:List UInt8):(PEp):=bif (i_within a 0 4294967295) then (bif (decide ((b.length:Int)=32)) then ({N:=a,Key:=(b),Seq:=0,Win:=(GS):PEp}) else ({N:=0,Key:=[],Seq:=0,Win:={Top:=0,Bits:=[]:PWin}:PEp})) else ({N:=0,Key:=[],Seq:=0,Win:={Top:=0,Bits:=[]:PWin}:PEp})
theorem Rc (g:World) (a:Int) (y:Value) (b:List UInt8) (J:HP g y b) :Fn Tryz.prog 46 #[(vi a),y] g (fun v A=>Keep g A∧TP A g.heap.size v (FB a b)):=by
 obtain ⟨h,i,rfl,B,K⟩:=J
 refine FI (n:=19) [(vi a),(vs h b.length i)] Tryz.func46 rfl rfl ?_
 refine sr<|al Ks wN Hy ?_
 intro L M C D q E
 have F:=(Ch.base g).extk q
 refine n4<|jT1 [(0,(vi a)),(1,(vs h b.length i)),(4,(vp L 0))] (FB a b={N:=0,Key:=[],Seq:=0,Win:={Top:=0,Bits:=[]:PWin}:PEp}) ?_ fun G=>?_
 ·intro O H I ad
  refine sr<|pu (va Ks) wN ?_
  have P:=(E.kp I)
  refine sv Ks wN uE P ?_
  intro r Q R ae
  have S:=(F.extk I).ext Q (fun k hk=>by subst hk;exact C)
  refine n1<|Jz (.inl rfl) (va Ks) rfl (HL Ks rfl R FE uE) ?_
  refine ⟨S.keep0,?_⟩
  rw [O]
  exact ⟨_,_,_,_,rfl,(by first|exact FL _ _ _ _|exact OLv.nil _ _ _ _),(by simp),(by first|exact FL _ _ _ _|exact OLv.nil _ _ _ _),(by simp),⟨⟨(Ap.nl _),trivial⟩,⟨trivial,trivial⟩⟩⟩
 refine mw (vi a) ?_
 refine cl wN (Hc M a 0 4294967295) ?_
 rintro _ H ⟨e,rfl⟩
 have s:=F.extk e
 refine pu (vb (!(i_within a 0 4294967295))) wN ?_
 refine mw (vb (!(i_within a 0 4294967295))) ?_
 rcases bf (i_within a 0 4294967295) with d|d
 ·have af:=Gh d
  iterate 3 refine sk (cA not d) ?_
  refine pk (vb true) wN (cA not d) ?_
  refine n2<|ct T1 ?_
  have T:FB a b={N:=0,Key:=[],Seq:=0,Win:={Top:=0,Bits:=[]:PWin}:PEp}:=by simp only [FB,d,cond_true,cond_false]
  exact wj (G T _ e)
 have ah:=FU d
 refine mv (vs h b.length i) (wS (cA not d)) ?_
 refine ln (wS (cA not d)) tD (B.from0 s) ?_
 refine pu (vb (!(decide ((b.length:Int)=32)))) (wS (cA not d)) ?_
 refine pf (vb (!(decide ((b.length:Int)=32)))) wN (cA not d) ?_
 refine n2 ?_
 rcases bf (decide ((b.length:Int)=32)) with f|f
 ·have ai:=dF f
  refine ct (cA not f) ?_
  have V:FB a b={N:=0,Key:=[],Seq:=0,Win:={Top:=0,Bits:=[]:PWin}:PEp}:=by simp only [FB,d,f,cond_true,cond_false]
  exact wj (G V _ e)
 have aj:=dT f
 refine cf (cA not f)<|y1<|mw (vi a) ?_
 refine mw (vs h b.length i) ?_
 refine cl wN (IR H _ b (FV (B.from0 s) K)) ?_
 rintro _ r ⟨j,⟨l,m,rfl,t,W,ak⟩⟩
 refine cl wN (Sm r ) ?_
 rintro _ am ⟨u,⟨o,p,rfl,w,X,an⟩⟩
 refine pu (va [(vi a),(vs l (b).length m),(vi 0),(vi ((GS).Top)),(vs o ((GS).Bits).length p)]) wN ?_
 have Y:=(((E.kp e).kp j).kp u)
 refine sv [(vi a),(vs l (b).length m),(vi 0),(vi ((GS).Top)),(vs o ((GS).Bits).length p)] wN uE Y ?_
 intro ao x Z ap
 have aa:=((s.extk j).extk u).ext x (fun k hk=>by subst hk;exact C)
 refine n3 ?_
 have ab:=(tC (gc t u) x (ne1 t (nL D e.size)))
 have ac:=(tC w x (ne1 w (nL D (z2 e j))))
 refine Jz (.inl rfl) (va [(vi a),(vs l (b).length m),(vi 0),(vi ((GS).Top)),(vs o ((GS).Bits).length p)]) rfl (HL [(vi a),(vs l (b).length m),(vi 0),(vi ((GS).Top)),(vs o ((GS).Bits).length p)] rfl Z FE uE) ?_
 refine ⟨aa.keep0,?_⟩
 simp only [FB,d,f,cond_true,cond_false]
 exact ⟨_,_,_,_,rfl,(tA ab (z2 q e)),W,(tA ac (z3 q e j)),X,⟨⟨(Ap.lt t w (Nat.le_refl r.heap.size)),trivial⟩,⟨trivial,trivial⟩⟩⟩

abbrev Mf:List Value:=[(vi 0),(vs none 0 0),(vi 0),(vs none 0 0),(vi 0),(vi 0),(vs none 0 0),(vi 0),(vs none 0 0),(vi 0),(vi 0),(vs none 0 0),(vb false),(vi 0),(vs none 0 0)]
theorem HR:∀ w,(zeroValue 38).run Tryz.prog w=.ok (va Mf) w:=fun w=>by kernel_rfl
theorem uC:∀ w,(sizeOf 38).run Tryz.prog w=.ok 15 w:=fun w=>by kernel_rfl
theorem wb:∀ w,(isAgg 38).run Tryz.prog w=.ok true w:=fun w=>by kernel_rfl
def Vk (w:World) (lo:Nat) (v:Value) (x:(PChan)):Prop:=∃ (a:Option Addr) (b:Nat) (d:Option Addr) (e:Nat) (f:Option Addr) (g:Nat) (h:Option Addr) (i:Nat) (j:Option Addr) (k:Nat) (l:Option Addr) (m:Nat),v=.agg #[.int .i64 x.Role,.slice a x.Sn.length b,.int .i64 x.Cur.N,.slice d x.Cur.Key.length e,.int .i64 x.Cur.Seq,.int .i64 x.Cur.Win.Top,.slice f x.Cur.Win.Bits.length g,.int .i64 x.Old.N,.slice h x.Old.Key.length i,.int .i64 x.Old.Seq,.int .i64 x.Old.Win.Top,.slice j x.Old.Win.Bits.length k,.bool x.HasOld,.int .i64 x.Until,.slice l x.Next.length m]∧w.ownsRow lo 5 1 (.slice a x.Sn.length b) x.Sn.length (x.Sn.map bV)∧x.Sn.length≤1073741824∧w.ownsRow lo 5 1 (.slice d x.Cur.Key.length e) x.Cur.Key.length (x.Cur.Key.map bV)∧x.Cur.Key.length≤1073741824∧w.ownsRow lo 3 1 (.slice f x.Cur.Win.Bits.length g) x.Cur.Win.Bits.length (x.Cur.Win.Bits.map iV)∧x.Cur.Win.Bits.length≤1073741824∧w.ownsRow lo 5 1 (.slice h x.Old.Key.length i) x.Old.Key.length (x.Old.Key.map bV)∧x.Old.Key.length≤1073741824∧w.ownsRow lo 3 1 (.slice j x.Old.Win.Bits.length k) x.Old.Win.Bits.length (x.Old.Win.Bits.map iV)∧x.Old.Win.Bits.length≤1073741824∧w.ownsRow lo 5 1 (.slice l x.Next.length m) x.Next.length (x.Next.map bV)∧x.Next.length≤1073741824∧Aps [(a,b),(d,e),(f,g),(h,i),(j,k),(l,m)]
def Gr (a:Int) (b:List UInt8) (d:List UInt8):(PChan):=bif (GC a) then (bif (FT b) then (bif (decide ((d.length:Int)=32)) then ({Role:=a,Sn:=(b),Cur:=(FB 0 d),Old:={N:=0,Key:=[],Seq:=0,Win:={Top:=0,Bits:=[]:PWin}:PEp},HasOld:=false,Until:=0,Next:=[]:PChan}) else ({Role:=0,Sn:=[],Cur:={N:=0,Key:=[],Seq:=0,Win:={Top:=0,Bits:=[]:PWin}:PEp},Old:={N:=0,Key:=[],Seq:=0,Win:={Top:=0,Bits:=[]:PWin}:PEp},HasOld:=false,Until:=0,Next:=[]:PChan})) else ({Role:=0,Sn:=[],Cur:={N:=0,Key:=[],Seq:=0,Win:={Top:=0,Bits:=[]:PWin}:PEp},Old:={N:=0,Key:=[],Seq:=0,Win:={Top:=0,Bits:=[]:PWin}:PEp},HasOld:=false,Until:=0,Next:=[]:PChan})) else ({Role:=0,Sn:=[],Cur:={N:=0,Key:=[],Seq:=0,Win:={Top:=0,Bits:=[]:PWin}:PEp},Old:={N:=0,Key:=[],Seq:=0,Win:={Top:=0,Bits:=[]:PWin}:PEp},HasOld:=false,Until:=0,Next:=[]:PChan})
theorem NR (j:World) (d:Int) (J:Value) (b:List UInt8) (Z:HP j J b) (K:Value) (a:List UInt8) (aa:HP j K a) :Fn Tryz.prog 53 #[(vi d),J,K] j (fun v L=>Keep j L∧Vk L j.heap.size v (Gr d b a)):=by
 obtain ⟨m,o,rfl,M,O⟩:=Z
 obtain ⟨p,q,rfl,P,ab⟩:=aa
 refine FI (n:=27) [(vi d),(vs m b.length o),(vs p a.length q)] Tryz.func53 rfl rfl ?_
 refine sr<|al Mf wN HR ?_
 intro ac ad Q C r R
 have S:=(Ch.base j).extk r
 refine n4<|jT1 [(0,(vi d)),(1,(vs m b.length o)),(2,(vs p a.length q)),(6,(vp ac 0))] (Gr d b a={Role:=0,Sn:=[],Cur:={N:=0,Key:=[],Seq:=0,Win:={Top:=0,Bits:=[]:PWin}:PEp},Old:={N:=0,Key:=[],Seq:=0,Win:={Top:=0,Bits:=[]:PWin}:PEp},HasOld:=false,Until:=0,Next:=[]:PChan}) ?_ fun D=>?_
 ·intro ae T V a2
  refine sr<|pu (va Mf) wN ?_
  have af:=(R.kp V)
  refine sv Mf wN uC af ?_
  intro W ah ai a3
  have aj:=(S.extk V).ext ah (fun k hk=>by subst hk;exact Q)
  refine n1<|Jz (.inl rfl) (va Mf) rfl (HL Mf rfl ai wb uC) ?_
  refine ⟨aj.keep0,?_⟩
  rw [ae]
  exact ⟨_,_,_,_,_,_,_,_,_,_,_,_,rfl,(by first|exact FL _ _ _ _|exact OLv.nil _ _ _ _),(by simp),(by first|exact FL _ _ _ _|exact OLv.nil _ _ _ _),(by simp),(by first|exact FL _ _ _ _|exact OLv.nil _ _ _ _),(by simp),(by first|exact FL _ _ _ _|exact OLv.nil _ _ _ _),(by simp),(by first|exact FL _ _ _ _|exact OLv.nil _ _ _ _),(by simp),(by first|exact FL _ _ _ _|exact OLv.nil _ _ _ _),(by simp),⟨⟨(Ap.nl _),⟨(Ap.nl _),⟨(Ap.nl _),⟨(Ap.nl _),⟨(Ap.nl _),trivial⟩⟩⟩⟩⟩,⟨⟨(Ap.nl _),⟨(Ap.nl _),⟨(Ap.nl _),⟨(Ap.nl _),trivial⟩⟩⟩⟩,⟨⟨(Ap.nl _),⟨(Ap.nl _),⟨(Ap.nl _),trivial⟩⟩⟩,⟨⟨(Ap.nl _),⟨(Ap.nl _),trivial⟩⟩,⟨⟨(Ap.nl _),trivial⟩,⟨trivial,trivial⟩⟩⟩⟩⟩⟩⟩
 refine mw (vi d) ?_
 refine cl wN (KN ad d) ?_
 rintro _ T ⟨g,rfl⟩
 have X:=S.extk g
 refine pu (vb (!(GC d))) wN ?_
 refine mw (vb (!(GC d))) ?_
 rcases bf (GC d) with e|e
 ·have a4:=KJ e
  iterate 3 refine sk (cA not e) ?_
  refine pk (vb true) wN (cA not e) ?_
  refine mw (vb true) ?_
  iterate 3 refine sk T1 ?_
  refine pk (vb true) wN T1 ?_
  refine n2<|ct T1 ?_
  have ak:Gr d b a={Role:=0,Sn:=[],Cur:={N:=0,Key:=[],Seq:=0,Win:={Top:=0,Bits:=[]:PWin}:PEp},Old:={N:=0,Key:=[],Seq:=0,Win:={Top:=0,Bits:=[]:PWin}:PEp},HasOld:=false,Until:=0,Next:=[]:PChan}:=by simp only [Gr,e,cond_true,cond_false]
  exact wj (D ak _ g)
 have a5:=Kf e
 refine mv (vs m b.length o) (wS (cA not e)) ?_
 refine cl (wS (cA not e)) (Iv T _ b (FV (M.from0 X) O)) ?_
 rintro _ W ⟨h,rfl⟩
 have E:=X.extk h
 refine pu (vb (!(FT b))) (wS (cA not e)) ?_
 refine pf (vb (!(FT b))) wN (cA not e) ?_
 refine mw (vb (!(FT b))) ?_
 rcases bf (FT b) with f|f
 ·have a6:=Is f
  iterate 3 refine sk (cA not f) ?_
  refine pk (vb true) wN (cA not f) ?_
  refine n2<|ct T1 ?_
  have am:Gr d b a={Role:=0,Sn:=[],Cur:={N:=0,Key:=[],Seq:=0,Win:={Top:=0,Bits:=[]:PWin}:PEp},Old:={N:=0,Key:=[],Seq:=0,Win:={Top:=0,Bits:=[]:PWin}:PEp},HasOld:=false,Until:=0,Next:=[]:PChan}:=by simp only [Gr,e,f,cond_true,cond_false]
  exact wj (D am _ (g.trans h))
 have a7:=Ir f
 refine mv (vs p a.length q) (wS (cA not f)) ?_
 refine ln (wS (cA not f)) tD (P.from0 E) ?_
 refine pu (vb (!(decide ((a.length:Int)=32)))) (wS (cA not f)) ?_
 refine pf (vb (!(decide ((a.length:Int)=32)))) wN (cA not f) ?_
 refine n2 ?_
 rcases bf (decide ((a.length:Int)=32)) with i|i
 ·have a8:=dF i
  refine ct (cA not i) ?_
  have an:Gr d b a={Role:=0,Sn:=[],Cur:={N:=0,Key:=[],Seq:=0,Win:={Top:=0,Bits:=[]:PWin}:PEp},Old:={N:=0,Key:=[],Seq:=0,Win:={Top:=0,Bits:=[]:PWin}:PEp},HasOld:=false,Until:=0,Next:=[]:PChan}:=by simp only [Gr,e,f,i,cond_true,cond_false]
  exact wj (D an _ (g.trans h))
 have a9:=dT i
 refine cf (cA not i)<|y1<|mw (vi d) ?_
 refine mw (vs m b.length o) ?_
 refine cl wN (IR W _ b (FV (M.from0 E) O)) ?_
 rintro _ F ⟨l,⟨s,t,rfl,u,ao,aA⟩⟩
 have Y:=E.extk l
 refine mw (vs p a.length q) ?_
 refine cl wN (Rc F 0 _ a (FV (P.from0 Y) ab)) ?_
 rintro _ aB ⟨G,⟨w,x,y,A,rfl,H,ap,I,aq,au⟩⟩
 refine pu (va [(vi d),(vs s (b).length t),(vi ((FB 0 a).N)),(vs w ((FB 0 a).Key).length x),(vi ((FB 0 a).Seq)),(vi (((FB 0 a).Win).Top)),(vs y (((FB 0 a).Win).Bits).length A),(vi 0),(vs none 0 0),(vi 0),(vi 0),(vs none 0 0),(vb false),(vi 0),(vs none 0 0)]) wN ?_
 have av:=((((R.kp g).kp h).kp l).kp G)
 refine sv [(vi d),(vs s (b).length t),(vi ((FB 0 a).N)),(vs w ((FB 0 a).Key).length x),(vi ((FB 0 a).Seq)),(vi (((FB 0 a).Win).Top)),(vs y (((FB 0 a).Win).Bits).length A),(vi 0),(vs none 0 0),(vi 0),(vi 0),(vs none 0 0),(vb false),(vi 0),(vs none 0 0)] wN uC av ?_
 intro aC B ax aD
 have ay:=(Y.extk G).ext B (fun k hk=>by subst hk;exact Q)
 refine n3 ?_
 have az:=(tC (gc u G) B (ne1 u (nL C (z2 g h))))
 have a0:=(tC H B (ne1 H (nL C (z3 g h l))))
 have a1:=(tC I B (ne1 I (nL C (z3 g h l))))
 refine Jz (.inl rfl) (va [(vi d),(vs s (b).length t),(vi ((FB 0 a).N)),(vs w ((FB 0 a).Key).length x),(vi ((FB 0 a).Seq)),(vi (((FB 0 a).Win).Top)),(vs y (((FB 0 a).Win).Bits).length A),(vi 0),(vs none 0 0),(vi 0),(vi 0),(vs none 0 0),(vb false),(vi 0),(vs none 0 0)]) rfl (HL [(vi d),(vs s (b).length t),(vi ((FB 0 a).N)),(vs w ((FB 0 a).Key).length x),(vi ((FB 0 a).Seq)),(vi (((FB 0 a).Win).Top)),(vs y (((FB 0 a).Win).Bits).length A),(vi 0),(vs none 0 0),(vi 0),(vi 0),(vs none 0 0),(vb false),(vi 0),(vs none 0 0)] rfl ax wb uC) ?_
 refine ⟨ay.keep0,?_⟩
 simp only [Gr,e,f,i,cond_true,cond_false]
 exact ⟨_,_,_,_,_,_,_,_,_,_,_,_,rfl,(tA az (z3 r g h)),ao,(tA a0 (z4 r g h l)),ap,(tA a1 (z4 r g h l)),aq,(by first|exact FL _ _ _ _|exact OLv.nil _ _ _ _),(by simp),(by first|exact FL _ _ _ _|exact OLv.nil _ _ _ _),(by simp),(by first|exact FL _ _ _ _|exact OLv.nil _ _ _ _),(by simp),⟨⟨(Ap.lt u H (Nat.le_refl F.heap.size)),⟨(Ap.lt u I (Nat.le_refl F.heap.size)),⟨(Ap.nr _),⟨(Ap.nr _),⟨(Ap.nr _),trivial⟩⟩⟩⟩⟩,⟨⟨(au.1.1),⟨(Ap.nr _),⟨(Ap.nr _),⟨(Ap.nr _),trivial⟩⟩⟩⟩,⟨⟨(Ap.nr _),⟨(Ap.nr _),⟨(Ap.nr _),trivial⟩⟩⟩,⟨⟨(Ap.nl _),⟨(Ap.nl _),trivial⟩⟩,⟨⟨(Ap.nl _),trivial⟩,⟨trivial,trivial⟩⟩⟩⟩⟩⟩⟩

def TO (w:World) (lo:Nat) (v:Value) (x:(PChan)×(PChan)):Prop:=∃ (a:Option Addr) (b:Nat) (d:Option Addr) (e:Nat) (f:Option Addr) (g:Nat) (h:Option Addr) (i:Nat) (j:Option Addr) (k:Nat) (l:Option Addr) (m:Nat) (o:Option Addr) (p:Nat) (q:Option Addr) (r:Nat) (s:Option Addr) (t:Nat) (u:Option Addr) (y:Nat) (A:Option Addr) (B:Nat) (C:Option Addr) (D:Nat),v=.tuple #[.agg #[.int .i64 x.1.Role,.slice a x.1.Sn.length b,.int .i64 x.1.Cur.N,.slice d x.1.Cur.Key.length e,.int .i64 x.1.Cur.Seq,.int .i64 x.1.Cur.Win.Top,.slice f x.1.Cur.Win.Bits.length g,.int .i64 x.1.Old.N,.slice h x.1.Old.Key.length i,.int .i64 x.1.Old.Seq,.int .i64 x.1.Old.Win.Top,.slice j x.1.Old.Win.Bits.length k,.bool x.1.HasOld,.int .i64 x.1.Until,.slice l x.1.Next.length m],.agg #[.int .i64 x.2.Role,.slice o x.2.Sn.length p,.int .i64 x.2.Cur.N,.slice q x.2.Cur.Key.length r,.int .i64 x.2.Cur.Seq,.int .i64 x.2.Cur.Win.Top,.slice s x.2.Cur.Win.Bits.length t,.int .i64 x.2.Old.N,.slice u x.2.Old.Key.length y,.int .i64 x.2.Old.Seq,.int .i64 x.2.Old.Win.Top,.slice A x.2.Old.Win.Bits.length B,.bool x.2.HasOld,.int .i64 x.2.Until,.slice C x.2.Next.length D]]∧w.ownsRow lo 5 1 (.slice a x.1.Sn.length b) x.1.Sn.length (x.1.Sn.map bV)∧x.1.Sn.length≤1073741824∧w.ownsRow lo 5 1 (.slice d x.1.Cur.Key.length e) x.1.Cur.Key.length (x.1.Cur.Key.map bV)∧x.1.Cur.Key.length≤1073741824∧w.ownsRow lo 3 1 (.slice f x.1.Cur.Win.Bits.length g) x.1.Cur.Win.Bits.length (x.1.Cur.Win.Bits.map iV)∧x.1.Cur.Win.Bits.length≤1073741824∧w.ownsRow lo 5 1 (.slice h x.1.Old.Key.length i) x.1.Old.Key.length (x.1.Old.Key.map bV)∧x.1.Old.Key.length≤1073741824∧w.ownsRow lo 3 1 (.slice j x.1.Old.Win.Bits.length k) x.1.Old.Win.Bits.length (x.1.Old.Win.Bits.map iV)∧x.1.Old.Win.Bits.length≤1073741824∧w.ownsRow lo 5 1 (.slice l x.1.Next.length m) x.1.Next.length (x.1.Next.map bV)∧x.1.Next.length≤1073741824∧w.ownsRow lo 5 1 (.slice o x.2.Sn.length p) x.2.Sn.length (x.2.Sn.map bV)∧x.2.Sn.length≤1073741824∧w.ownsRow lo 5 1 (.slice q x.2.Cur.Key.length r) x.2.Cur.Key.length (x.2.Cur.Key.map bV)∧x.2.Cur.Key.length≤1073741824∧w.ownsRow lo 3 1 (.slice s x.2.Cur.Win.Bits.length t) x.2.Cur.Win.Bits.length (x.2.Cur.Win.Bits.map iV)∧x.2.Cur.Win.Bits.length≤1073741824∧w.ownsRow lo 5 1 (.slice u x.2.Old.Key.length y) x.2.Old.Key.length (x.2.Old.Key.map bV)∧x.2.Old.Key.length≤1073741824∧w.ownsRow lo 3 1 (.slice A x.2.Old.Win.Bits.length B) x.2.Old.Win.Bits.length (x.2.Old.Win.Bits.map iV)∧x.2.Old.Win.Bits.length≤1073741824∧w.ownsRow lo 5 1 (.slice C x.2.Next.length D) x.2.Next.length (x.2.Next.map bV)∧x.2.Next.length≤1073741824∧Aps [(a,b),(d,e),(f,g),(h,i),(j,k),(l,m),(o,p),(q,r),(s,t),(u,y),(A,B),(C,D)]
def SB (code:List UInt8) (p:PChan×PChan):Prop:=∃ sn:List UInt8,sn.length=12∧p=(Gr 0 sn (sha code),Gr 1 sn (sha code))
theorem Uy (S:World) (aD:Value) (b:List UInt8) (aQ:HP S aD b) (bK:b.length≤1048576):Fn Tryz.prog 21 #[aD] S (fun v aE=>∃ x:(PChan)×(PChan),Keep S aE∧TO aE S.heap.size v x∧(SB b x)):=by
 obtain ⟨a6,a7,rfl,aF,aR⟩:=aQ
 refine FI (n:=23) [(vs a6 b.length a7)] Tryz.func21 rfl rfl ?_
 refine sr<|al Mf wN HR ?_
 intro bL bM aS K L aT
 refine al Mf wN HR ?_
 intro bN aU a8 a0 m aV
 refine nx<|ltB ([1]:List UInt8) wN tD ?_
 intro bO bP bQ g a1
 have aG:=(((Ch.base S).extk L).extk m).extk g
 refine mw (vs a6 b.length a7) ?_
 refine apB ([1]:List UInt8) b wN tD a1 (aF.from0 aG) g.size ?_
 intro bR bS aW i aX bT aY
 have aZ:=aG.ext i (fun k hk=>nT (z2 L m) (uI a1 k hk).1)
 refine cl wN (LU aW _ (([1]:List UInt8)++b) (FV (Rd.of_own aX) aY)) ?_
 rintro _ bU ⟨d,j,⟨aH,aI,rfl,ba,_⟩,bW⟩
 refine aw (vs aH (d).length aI) ?_
 refine nx<|Gc wN rfl rfl tD (fun w=>by kernel_rfl) ?_
 intro bX bY l bb
 have bc:=(aZ.extk j).extk l
 refine mw (vs aH (d).length aI) ?_
 have bd:=(gc ba l)
 refine ap0 (d) wN tD bb (Rd.of_own bd) l.size ?_
 intro bZ ca cb p a2 cc
 refine apZ (d) ([116,119,101,108,118,101,32,98,121,116,101,115]:List UInt8) wN tD Tryz.underlying9 a2 (z2 l p) ?_
 intro a9 M be r aJ bg
 have aK:=(bc.extk p).ext r (fun k hk=>nT (z5 L m g i j) (uI a2 k hk).1)
 refine slv (((d)++([116,119,101,108,118,101,32,98,121,116,101,115]:List UInt8)).take 12) 0 12 wN tD (Rd.of_own aJ) (by first|omega|(simp <;> omega)) (by first|omega|(simp <;> omega)) (by first|rfl|(simp;done)|(rw [List.take_of_length_le (by first|(simp;done)|(simp;omega))])) rfl rfl rfl rfl (.inl ⟨rfl,rfl⟩) (.inr ⟨_,_,_,rfl,rfl,by omega⟩) ?_
 have bh:=Tm (k:=12) aJ (by first|omega|(simp <;> omega))
 have aL:(((d)++([116,119,101,108,118,101,32,98,121,116,101,115]:List UInt8)).take 12).length≤1073741824:=nT (by simp only [List.length_take];omega) bg
 refine aw (vs (NW a9 M 0 1) (((d)++([116,119,101,108,118,101,32,98,121,116,101,115]:List UInt8)).take 12).length (M - 0)) ?_
 refine nx<|mw (vs a6 b.length a7) ?_
 refine cl wN (Ss be _ b (FV (aF.from0 aK) aR)) ?_
 rintro _ aA ⟨q,⟨aB,aC,rfl,aM,aN,cd⟩⟩
 have ce:=Kz b
 refine aw (vs aB (sha b).length aC) ?_
 refine nx<|mw (vs (NW a9 M 0 1) (((d)++([116,119,101,108,118,101,32,98,121,116,101,115]:List UInt8)).take 12).length (M - 0)) ?_
 refine mw (vs aB (sha b).length aC) ?_
 have aO:=(gc bh q)
 refine cl wN (NR aA 0 _ (((d)++([116,119,101,108,118,101,32,98,121,116,101,115]:List UInt8)).take 12) (FV (Rd.of_own aO) aL) _ (sha b) (FV (Rd.of_own aM) aN)) ?_
 rintro _ N ⟨s,⟨T,V,W,X,Y,Z,aa,ab,ac,ad,ae,af,rfl,t,bi,u,bj,y,bk,A,bl,B,bm,C,bn,e⟩⟩
 have bo:=(aK.extk q).extk s
 refine mw (vs (NW a9 M 0 1) (((d)++([116,119,101,108,118,101,32,98,121,116,101,115]:List UInt8)).take 12).length (M - 0)) ?_
 refine mw (vs aB (sha b).length aC) ?_
 have bp:=(gc aO s)
 have bq:=(gc aM s)
 refine cl wN (NR N 1 _ (((d)++([116,119,101,108,118,101,32,98,121,116,101,115]:List UInt8)).take 12) (FV (Rd.of_own bp) aL) _ (sha b) (FV (Rd.of_own bq) aN)) ?_
 rintro _ aP ⟨a3,⟨ah,ai,aj,ak,am,an,ao,ap,aq,au,av,ax,rfl,D,br,F,bu,G,bv,H,bw,I,bz,J,b0,f⟩⟩
 have b1:=((((((((((aT.kp m).kp g).ch i (fun h=>by have:=(uI a1 _ h).1;have:=nL K m.size;omega)).kp j).kp l).kp p).ch r (fun h=>by have:=(uI a2 _ h).1;have:=nL K (z4 m g i j);omega)).kp q).kp s).kp a3)
 refine st (va (GH (Gr 0 (((d)++([116,119,101,108,118,101,32,98,121,116,101,115]:List UInt8)).take 12) (sha b)) T V W X Y Z aa ab ac ad ae af)) (GH (Gr 0 (((d)++([116,119,101,108,118,101,32,98,121,116,101,115]:List UInt8)).take 12) (sha b)) T V W X Y Z aa ab ac ad ae af) (GH (Gr 0 (((d)++([116,119,101,108,118,101,32,98,121,116,101,115]:List UInt8)).take 12) (sha b)) T V W X Y Z aa ab ac ad ae af) wN uC b1 ?_
 intro cg a4 b2 ci
 have b3:=(bo.extk a3).ext a4 (fun k hk=>by subst hk;exact aS)
 have b4:=((((((((((aV.kp g).ch i (fun h=>by have:=(uI a1 _ h).1;have:=nL a0 (Nat.le_refl aU.heap.size);omega)).kp j).kp l).kp p).ch r (fun h=>by have:=(uI a2 _ h).1;have:=nL a0 (z3 g i j);omega)).kp q).kp s).kp a3).ch a4 (Ne.symm (nN (nL K (a8)))))
 refine st (va (GH (Gr 1 (((d)++([116,119,101,108,118,101,32,98,121,116,101,115]:List UInt8)).take 12) (sha b)) ah ai aj ak am an ao ap aq au av ax)) (GH (Gr 1 (((d)++([116,119,101,108,118,101,32,98,121,116,101,115]:List UInt8)).take 12) (sha b)) ah ai aj ak am an ao ap aq au av ax) (GH (Gr 1 (((d)++([116,119,101,108,118,101,32,98,121,116,101,115]:List UInt8)).take 12) (sha b)) ah ai aj ak am an ao ap aq au av ax) wN uC b4 ?_
 intro cj a5 b5 ck
 have b6:=b3.ext a5 (fun k hk=>by subst hk;exact nT L.size a8)
 refine n3 ?_
 have b7:=(b2.ch a5 (nN (nL K (a8))))
 have O:=fun (E sz n:Nat) (v:Value) (ay:List Value) (o:World.ownsRow N aA.heap.size E sz v n ay) (az:World.ownsRow N aA.heap.size E sz v n ay)=>(tC (tC (gc o a3) a4 (ne1 az (nL K (z8 m g i j l p r q)))) a5 (ne1 az (nL a0 (z7 g i j l p r q))))
 have b8:=(O _ _ _ _ _ t t)
 have b9:=(O _ _ _ _ _ u u)
 have bA:=(O _ _ _ _ _ y y)
 have bB:=(O _ _ _ _ _ A A)
 have bC:=(O _ _ _ _ _ B B)
 have bD:=(O _ _ _ _ _ C C)
 have P:=fun (E sz n:Nat) (v:Value) (ay:List Value) (o:World.ownsRow aP N.heap.size E sz v n ay) (az:World.ownsRow aP N.heap.size E sz v n ay)=>(tC (tC o a4 (ne1 az (nL K (z9 m g i j l p r q s)))) a5 (ne1 az (nL a0 (z8 g i j l p r q s))))
 have bE:=(P _ _ _ _ _ D D)
 have bF:=(P _ _ _ _ _ F F)
 have bG:=(P _ _ _ _ _ G G)
 have bH:=(P _ _ _ _ _ H H)
 have bI:=(P _ _ _ _ _ I I)
 have bJ:=(P _ _ _ _ _ J J)
 refine Jv (.inl rfl) (va (GH (Gr 0 (((d)++([116,119,101,108,118,101,32,98,121,116,101,115]:List UInt8)).take 12) (sha b)) T V W X Y Z aa ab ac ad ae af)) (va (GH (Gr 1 (((d)++([116,119,101,108,118,101,32,98,121,116,101,115]:List UInt8)).take 12) (sha b)) ah ai aj ak am an ao ap aq au av ax)) rfl (HL (GH (Gr 0 (((d)++([116,119,101,108,118,101,32,98,121,116,101,115]:List UInt8)).take 12) (sha b)) T V W X Y Z aa ab ac ad ae af) rfl b7 wb uC) (HL (GH (Gr 1 (((d)++([116,119,101,108,118,101,32,98,121,116,101,115]:List UInt8)).take 12) (sha b)) ah ai aj ak am an ao ap aq au av ax) rfl b5 wb uC) ?_
 have Q:=z10 L m g i j l p r q s
 have R:=z9 L m g i j l p r q
 have a:=Nat.le_refl N.heap.size
 exact ⟨((Gr 0 (((d)++([116,119,101,108,118,101,32,98,121,116,101,115]:List UInt8)).take 12) (sha b)),(Gr 1 (((d)++([116,119,101,108,118,101,32,98,121,116,101,115]:List UInt8)).take 12) (sha b))),b6.keep0,⟨_,_,_,_,_,_,_,_,_,_,_,_,_,_,_,_,_,_,_,_,_,_,_,_,rfl,(tA b8 R),bi,(tA b9 R),bj,(tA bA R),bk,(tA bB R),bl,(tA bC R),bm,(tA bD R),bn,(tA bE Q),br,(tA bF Q),bu,(tA bG Q),bv,(tA bH Q),bw,(tA bI Q),bz,(tA bJ Q),b0,⟨⟨(e.1.1),⟨(e.1.2.1),⟨(e.1.2.2.1),⟨(e.1.2.2.2.1),⟨(e.1.2.2.2.2.1),⟨(Ap.lt t D a),⟨(Ap.lt t F a),⟨(Ap.lt t G a),⟨(Ap.lt t H a),⟨(Ap.lt t I a),⟨(Ap.lt t J a),trivial⟩⟩⟩⟩⟩⟩⟩⟩⟩⟩⟩,⟨⟨(e.2.1.1),⟨(e.2.1.2.1),⟨(e.2.1.2.2.1),⟨(e.2.1.2.2.2.1),⟨(Ap.lt u D a),⟨(Ap.lt u F a),⟨(Ap.lt u G a),⟨(Ap.lt u H a),⟨(Ap.lt u I a),⟨(Ap.lt u J a),trivial⟩⟩⟩⟩⟩⟩⟩⟩⟩⟩,⟨⟨(e.2.2.1.1),⟨(e.2.2.1.2.1),⟨(e.2.2.1.2.2.1),⟨(Ap.lt y D a),⟨(Ap.lt y F a),⟨(Ap.lt y G a),⟨(Ap.lt y H a),⟨(Ap.lt y I a),⟨(Ap.lt y J a),trivial⟩⟩⟩⟩⟩⟩⟩⟩⟩,⟨⟨(e.2.2.2.1.1),⟨(e.2.2.2.1.2.1),⟨(Ap.lt A D a),⟨(Ap.lt A F a),⟨(Ap.lt A G a),⟨(Ap.lt A H a),⟨(Ap.lt A I a),⟨(Ap.lt A J a),trivial⟩⟩⟩⟩⟩⟩⟩⟩,⟨⟨(e.2.2.2.2.1.1),⟨(Ap.lt B D a),⟨(Ap.lt B F a),⟨(Ap.lt B G a),⟨(Ap.lt B H a),⟨(Ap.lt B I a),⟨(Ap.lt B J a),trivial⟩⟩⟩⟩⟩⟩⟩,⟨⟨(Ap.lt C D a),⟨(Ap.lt C F a),⟨(Ap.lt C G a),⟨(Ap.lt C H a),⟨(Ap.lt C I a),⟨(Ap.lt C J a),trivial⟩⟩⟩⟩⟩⟩,⟨⟨(f.1.1),⟨(f.1.2.1),⟨(f.1.2.2.1),⟨(f.1.2.2.2.1),⟨(f.1.2.2.2.2.1),trivial⟩⟩⟩⟩⟩,⟨⟨(f.2.1.1),⟨(f.2.1.2.1),⟨(f.2.1.2.2.1),⟨(f.2.1.2.2.2.1),trivial⟩⟩⟩⟩,⟨⟨(f.2.2.1.1),⟨(f.2.2.1.2.1),⟨(f.2.2.1.2.2.1),trivial⟩⟩⟩,⟨⟨(f.2.2.2.1.1),⟨(f.2.2.2.1.2.1),trivial⟩⟩,⟨⟨(f.2.2.2.2.1.1),trivial⟩,⟨trivial,trivial⟩⟩⟩⟩⟩⟩⟩⟩⟩⟩⟩⟩⟩,(by exact ⟨_,(by simp only [List.length_take,List.length_append,List.length_cons,List.length_nil];omega),rfl⟩)⟩

def Gt (a:List UInt8) (b:Int):(Int):=bif (decide (b < (a.length:Int))) then (((a.getD (b).toNat 0).toNat:Int)) else ((((b*31)+((a.length:Int)*7)) % 256))
theorem Vd (e:World) (i:Value) (b:List UInt8) (k:HP e i b) (a:Int) (l:0≤a∧a≤1000):Fn Tryz.prog 22 #[i,(vi a)] e (fun v j=>Keep e j∧O_3 j e.heap.size v (Gt b a)):=by
 obtain ⟨f,g,rfl,h,m⟩:=k
 refine FI (n:=21) [(vs f b.length g),(vi a)] Tryz.func22 rfl rfl ?_
 have o:(b.getD a.toNat 0).toNat < 256:=UInt8.toNat_lt _
 refine sr<|aw (vi 0) ?_
 refine n4<|mw (vi a) ?_
 refine mw (vs f b.length g) ?_
 refine ln wN tD h ?_
 refine pu (vb (decide (a < (b.length:Int)))) wN ?_
 refine n2 ?_
 rcases bt (decide (a < (b.length:Int))) with d|d
 ·have p:=dT d
  refine ct d<|sr<|mw (vs f b.length g) ?_
  refine mw (vi a) ?_
  refine ix wN a tD h ?_
  refine eb (x:=b) ((a).toNat) wN HI h ?_
  refine ar ((b.getD (a).toNat 0).toNat:Int) wN ?_
  refine aw (vi ((b.getD (a).toNat 0).toNat:Int)) ?_
  refine n1<|rt (vi ((b.getD (a).toNat 0).toNat:Int)) ?_
  refine ⟨Ch.refl _ _,?_⟩
  simp only [Gt,d,cond_true,cond_false]
  exact rfl
 have q:=dF d
 refine cf d<|y1<|mw (vi a) ?_
 refine ar (a*31) wN ?_
 refine mw (vs f b.length g) ?_
 refine ln wN tD h ?_
 refine ar ((b.length:Int)*7) wN ?_
 refine ar ((a*31)+((b.length:Int)*7)) wN ?_
 refine Ig ((a*31)+((b.length:Int)*7)) 256 wN rfl rfl (by kernel_rfl) (by first|omega|assumption) ?_
 refine aw (vi (((a*31)+((b.length:Int)*7)) % 256)) ?_
 refine n3<|rt (vi (((a*31)+((b.length:Int)*7)) % 256)) ?_
 refine ⟨Ch.refl _ _,?_⟩
 simp only [Gt,d,cond_true,cond_false]
 exact rfl
theorem PO (x:List UInt8) (i:Int):0≤Gt x i∧Gt x i≤255:=by
  have a:(x.getD i.toNat 0).toNat < 256:=UInt8.toNat_lt _
  simp only [Gt,cond_eq_ite]
  split <;> omega

def i_copyWin (a:PWin):(PWin):=a
theorem NP (f:World) (u:Value) (a:PWin) (G:PS f u a) :Fn Tryz.prog 115 #[u] f (fun v g=>Keep f g∧UO g f.heap.size v (a)):=by
 obtain ⟨b,i,rfl,H,I⟩:=G
 refine FI (n:=10) [(va (HQ a b i))] Tryz.func115 rfl rfl ?_
 refine sr<|bx (HQ a b i) wN ?_
 intro j x ah ai p y
 refine al [(vi 0),(vs none 0 0)] wN Jt ?_
 intro aj q J K l L
 have A:=((Ch.base f).extk p).extk l
 refine uD<|rg<|uK<|Ga ([(3,[],[],(fun _ v _=>v=(vp j 0))),(4,[],[0],(fun _ v _=>v=(vi a.Top))),(5,[],[],(fun _ v w=>∃ a0:Addr,v=.slice (some a0) 0 0∧w.ownsRow q.heap.size 3 1 (.slice (some a0) 0 0) 0 [])),(6,[],[],(fun _ v _=>v=(vp j 1))),(7,[],[3],(fun _ v _=>v=(vs b a.Bits.length i))),(8,[],[2,3,4],(fun _ v w=>∃ (b:Option Addr) (r:Nat),v=.slice b a.Bits.length r∧w.ownsRow q.heap.size 3 1 (.slice b a.Bits.length r) a.Bits.length (a.Bits.map iV)∧a.Bits.length≤1073741824∧Aps [(b,r)]))]:GV) (fun _ g=>Keep q g) [] GU rfl (by kernel_rfl) (by kernel_rfl) ?_ (fun _ _ h=>h) (fun _ _ _ _ h _ k=>h.trans k) trivial ?_ ?_ ?_
 ·exact ⟨hV,hE,⟨hV,hE,⟨(fun e v w x h hk=>by obtain ⟨s,he,t⟩:=h;exact ⟨s,he,gc t hk⟩),hE,⟨hV,hE,⟨hV,hE,⟨(fun e v w x h hk=>by obtain ⟨s,M,he,t,N,hap⟩:=h;exact ⟨s,M,he,gc t hk,N,hap⟩),hE,trivial⟩⟩⟩⟩⟩⟩
 ·exact trivial
 ·refine ⟨?_,⟨?_,⟨?_,⟨?_,⟨?_,⟨?_,trivial⟩⟩⟩⟩⟩⟩
  ·intro _ d ak _
   rintro _ _ _ _ _ _
   refine sw<|pu (vp j 0) wN ?_
   exact f1
  ·intro _ d O _
   rintro _ rfl _ _ _ _ _
   refine sw ?_
   have P:=((y.kp l).kp O)
   refine ld (vi a.Top) wN tE P ?_
   exact f1
  ·intro _ d Q _
   rintro _ _ _ _ _ _
   refine sw<|Gc wN rfl rfl uQ (fun w=>by kernel_rfl) ?_
   intro am B R S
   exact FY R ⟨_,rfl,tA S Q.size⟩
  ·intro _ d an _
   rintro _ _ _ _ _ _
   refine sw<|pu (vp j 1) wN ?_
   exact f1
  ·intro _ d T _
   rintro _ _ _ _ rfl _ _
   refine sw ?_
   have V:=((y.kp l).kp T)
   refine ld (vs b a.Bits.length i) wN GO V ?_
   exact f1
  ·intro _ d C _
   have W:=A.extk C
   rintro _ _ _ ⟨ao,rfl,X⟩ _ rfl _ rfl _
   refine sw<|TJ a.Bits wN uQ X (H.from0 W) C.size ?_
   intro ap aq B Y Z au
   exact FY Y ⟨_,_,rfl,Z,I,⟨trivial,trivial⟩⟩
 ·intro _ d D
  rintro _ rfl _ rfl _ ⟨av,rfl,ax⟩ _ rfl _ rfl _ ⟨m,o,rfl,E,aa,-⟩
  refine sw<|pu (va (HQ a m o)) wN ?_
  have ab:=(L.kp D)
  refine sv (HQ a m o) wN FH ab ?_
  intro B F ac ay
  have ad:=(A.extk D).ext F (fun k hk=>by subst hk;exact nT p.size J)
  refine n3 ?_
  have ae:=(tC E F (ne1 E (K)))
  refine Jz (.inl rfl) (va (HQ a m o)) rfl (HL (HQ a m o) rfl ac Gj FH) ?_
  refine ⟨ad.keep0,?_⟩
  have af:a=a:=by rfl
  rw [af]
  exact ⟨_,_,rfl,(tA ae (z2 p l)),aa,⟨trivial,trivial⟩⟩

theorem JD {w:World} {x:PWin} {a:Option Addr} {b:Nat} (d:Rd w 1 (.slice a x.Bits.length b) x.Bits.length (x.Bits.map iV)) (e:x.Bits.length≤1073741824):PS w (va (HQ x a b)) x:=⟨_,_,rfl,d,e⟩
def UK (w:World) (lo:Nat) (v:Value) (x:(PWin)) (k:Option Addr×Nat→Prop):Prop:=∃ (a:Option Addr) (b:Nat),v=.agg #[.int .i64 x.Top,.slice a x.Bits.length b]∧w.ownsRow lo 3 1 (.slice a x.Bits.length b) x.Bits.length (x.Bits.map iV)∧x.Bits.length≤1073741824∧Aps [(a,b)]∧k (a,b)
def i_copyEp (a:PEp):(PEp):=a
theorem LA (g:World) (F:Value) (a:PEp) (Q:Pn g F a) :Fn Tryz.prog 79 #[F] g (fun v i=>Keep g i∧TP i g.heap.size v (a)):=by
 obtain ⟨j,l,m,o,rfl,R,S,T,V⟩:=Q
 refine FI (n:=14) [(va (Gx a j l m o))] Tryz.func79 rfl rfl ?_
 refine sr<|bx (Gx a j l m o) wN ?_
 intro d G a7 a8 p q
 refine al Ks wN Hy ?_
 intro a9 x W H f X
 have y:=((Ch.base g).extk p).extk f
 refine uD<|rg<|uK<|Ga ([(3,[],[],(fun _ v _=>v=(vp d 0))),(4,[],[0],(fun _ v _=>v=(vi a.N))),(5,[],[],(fun _ v _=>v=(vp d 1))),(6,[],[2],(fun _ v _=>v=(vs j a.Key.length l))),(7,[],[2,3],(fun _ v w=>JF w x.heap.size v a.Key)),(8,[],[],(fun _ v _=>v=(vp d 2))),(9,[],[5],(fun _ v _=>v=(vi a.Seq))),(10,[],[],(fun _ v _=>v=(vp d 3))),(11,[],[7],(fun _ v _=>v=(va (HQ a.Win m o)))),(12,[7],[2,3,4,7,8],(fun e v w=>UK w x.heap.size v a.Win (fun Y=>Ap (sp (e 7)) Y)))]:GV) (fun _ i=>Keep x i) [] GU rfl (by kernel_rfl) (by kernel_rfl) ?_ (fun _ _ h=>h) (fun _ _ _ _ h _ k=>h.trans k) trivial ?_ ?_ ?_
 ·exact ⟨hV,hE,⟨hV,hE,⟨hV,hE,⟨hV,hE,⟨(fun e v w G h hk=>by obtain ⟨A,B,he,C,D,hap⟩:=h;exact ⟨A,B,he,gc C hk,D,hap⟩),hE,⟨hV,hE,⟨hV,hE,⟨hV,hE,⟨hV,hE,⟨(fun e v w G h hk=>by obtain ⟨A,B,he,C,D,hap,hx⟩:=h;exact ⟨A,B,he,gc C hk,D,hap,hx⟩),(fun aA aB v w hx h=>by have Z:=hx 7 (by simp);simp only [Z] at h;exact h),trivial⟩⟩⟩⟩⟩⟩⟩⟩⟩⟩
 ·exact trivial
 ·refine ⟨?_,⟨?_,⟨?_,⟨?_,⟨?_,⟨?_,⟨?_,⟨?_,⟨?_,⟨?_,trivial⟩⟩⟩⟩⟩⟩⟩⟩⟩⟩
  ·intro _ b aC _
   rintro _ _ _ _ _ _ _ _ _ _
   refine sw<|pu (vp d 0) wN ?_
   exact f1
  ·intro _ b aa _
   rintro _ rfl _ _ _ _ _ _ _ _ _
   refine sw ?_
   have ab:=((q.kp f).kp aa)
   refine ld (vi a.N) wN tE ab ?_
   exact f1
  ·intro _ b aD _
   rintro _ _ _ _ _ _ _ _ _ _
   refine sw<|pu (vp d 1) wN ?_
   exact f1
  ·intro _ b ac _
   rintro _ _ _ rfl _ _ _ _ _ _ _
   refine sw ?_
   have ad:=((q.kp f).kp ac)
   refine ld (vs j a.Key.length l) wN uH ad ?_
   exact f1
  ·intro _ b I _
   have ae:=y.extk I
   rintro _ _ _ rfl _ rfl _ _ _ _ _ _
   refine sw<|cl wN (IR b _ a.Key (FV (R.from0 ae) S)) ?_
   rintro _ J ⟨af,⟨aE,aF,rfl,ah,ai,aj⟩⟩
   exact FY af ⟨_,_,rfl,(tA ah I.size),ai,aj⟩
  ·intro _ b aG _
   rintro _ _ _ _ _ _ _ _ _ _
   refine sw<|pu (vp d 2) wN ?_
   exact f1
  ·intro _ b ak _
   rintro _ _ _ _ _ _ rfl _ _ _ _
   refine sw ?_
   have am:=((q.kp f).kp ak)
   refine ld (vi a.Seq) wN tE am ?_
   exact f1
  ·intro _ b aH _
   rintro _ _ _ _ _ _ _ _ _ _
   refine sw<|pu (vp d 3) wN ?_
   exact f1
  ·intro _ b an _
   rintro _ _ _ _ _ _ _ _ rfl _ _
   refine sw ?_
   have ao:=((q.kp f).kp an)
   refine lN (HQ a.Win m o) wN Gj FH ao ?_
   exact f1
  ·intro _ b K _
   have ap:=y.extk K
   rintro _ _ _ rfl _ rfl _ ⟨aI,aJ,rfl,aq,_⟩ _ _ _ rfl _ rfl _
   refine sw<|cl wN (NP b _ a.Win (JD (T.from0 ap) V)) ?_
   rintro _ J ⟨au,⟨aK,aL,rfl,L,av,ax⟩⟩
   exact FY au ⟨_,_,rfl,(tA L K.size),av,ax,(Ap.lt aq L (Nat.le_refl _))⟩
 ·intro _ b M
  rintro _ rfl _ rfl _ rfl _ rfl _ ⟨r,s,rfl,O,ay,aM⟩ _ rfl _ rfl _ rfl _ rfl _ ⟨t,u,rfl,P,az,aN,a0⟩
  refine sw<|pu (va (Gx a r s t u)) wN ?_
  have a1:=(X.kp M)
  refine sv (Gx a r s t u) wN uE a1 ?_
  intro J E a2 aO
  have a3:=(y.extk M).ext E (fun k hk=>by subst hk;exact nT p.size W)
  refine n3 ?_
  have a4:=(tC O E (ne1 O (H)))
  have a5:=(tC P E (ne1 P (H)))
  refine Jz (.inl rfl) (va (Gx a r s t u)) rfl (HL (Gx a r s t u) rfl a2 FE uE) ?_
  refine ⟨a3.keep0,?_⟩
  have a6:a=a:=by rfl
  rw [a6]
  exact ⟨_,_,_,_,rfl,(tA a4 (z2 p f)),ay,(tA a5 (z2 p f)),az,⟨⟨a0,trivial⟩,⟨trivial,trivial⟩⟩⟩

theorem GY:∀ w,(sizeOf 22).run Tryz.prog w=.ok 1 w:=fun w=>by kernel_rfl
theorem IP {w:World} {x:PEp} {a:Option Addr} {b:Nat} {d:Option Addr} {e:Nat} (f:Rd w 1 (.slice a x.Key.length b) x.Key.length (x.Key.map bV)) (g:x.Key.length≤1073741824) (h:Rd w 1 (.slice d x.Win.Bits.length e) x.Win.Bits.length (x.Win.Bits.map iV)) (i:x.Win.Bits.length≤1073741824):Pn w (va (Gx x a b d e)) x:=⟨_,_,_,_,rfl,f,g,h,i⟩
def TS (w:World) (lo:Nat) (v:Value) (x:(PEp)) (k:Option Addr×Nat→Option Addr×Nat→Prop):Prop:=∃ (a:Option Addr) (b:Nat) (d:Option Addr) (e:Nat),v=.agg #[.int .i64 x.N,.slice a x.Key.length b,.int .i64 x.Seq,.int .i64 x.Win.Top,.slice d x.Win.Bits.length e]∧w.ownsRow lo 5 1 (.slice a x.Key.length b) x.Key.length (x.Key.map bV)∧x.Key.length≤1073741824∧w.ownsRow lo 3 1 (.slice d x.Win.Bits.length e) x.Win.Bits.length (x.Win.Bits.map iV)∧x.Win.Bits.length≤1073741824∧Aps [(a,b),(d,e)]∧k (a,b) (d,e)
def i_copyChan (a:PChan):(PChan):=a
theorem ME (S:World) (aC:Value) (a:PChan) (aR:Ro S aC a) :Fn Tryz.prog 41 #[aC] S (fun v aD=>Keep S aD∧Vk aD S.heap.size v (a)):=by
 obtain ⟨ab,ac,O,P,Q,R,A,B,C,D,T,V,rfl,aS,aT,aU,aV,aW,aX,aY,aZ,ba,bb,bc,bd⟩:=aR
 refine FI (n:=20) [(va (GH a ab ac O P Q R A B C D T V))] Tryz.func41 rfl rfl ?_
 refine sr<|bx (GH a ab ac O P Q R A B C D T V) wN ?_
 intro f ad ae W X ay
 refine al Mf wN HR ?_
 intro ck aE aF az g be
 have a0:=((Ch.base S).extk X).extk g
 refine uD<|rg<|uK<|IM ([(3,[],[],(fun _ v _=>v=(vp f 1))),(4,[],[0],(fun _ v _=>v=(vs ab a.Sn.length ac))),(5,[],[0,1],(fun _ v w=>JF w aE.heap.size v a.Sn)),(6,[],[],(fun _ v _=>v=(vp f 14))),(7,[],[3],(fun _ v _=>v=(vs T a.Next.length V))),(8,[5],[0,1,2,3,4],(fun e v w=>Rt w aE.heap.size v a.Next (fun af=>Ap (sp (e 5)) af))),(9,[],[0,1,2,3,4],(fun _ v _=>v=(vp f 1)))]:GV) GU rfl (by kernel_rfl) (by kernel_rfl) ?_ ?_ ?_
 ·exact ⟨hV,hE,⟨hV,hE,⟨(fun e v w ad h hk=>by obtain ⟨F,G,he,H,I,hap⟩:=h;exact ⟨F,G,he,gc H hk,I,hap⟩),hE,⟨hV,hE,⟨hV,hE,⟨(fun e v w ad h hk=>by obtain ⟨F,G,he,H,I,hap,hx⟩:=h;exact ⟨F,G,he,gc H hk,I,hap,hx⟩),(fun bg bh v w hx h=>by have bi:=hx 5 (by simp);simp only [bi] at h;exact h),⟨hV,hE,trivial⟩⟩⟩⟩⟩⟩⟩
 ·refine ⟨?_,⟨?_,⟨?_,⟨?_,⟨?_,⟨?_,⟨?_,trivial⟩⟩⟩⟩⟩⟩⟩
  ·intro q cm
   rintro _ _ _ _ _ _ _
   refine sw<|pu (vp f 1) wN ?_
   exact f2
  ·intro q bj
   rintro _ rfl _ _ _ _ _ _
   refine sw ?_
   have bk:=((ay.kp g).kp bj)
   refine ld (vs ab a.Sn.length ac) wN uH bk ?_
   exact f2
  ·intro q aG
   have bl:=a0.extk aG
   rintro _ rfl _ rfl _ _ _ _ _
   refine sw<|cl wN (IR q _ a.Sn (FV (aS.from0 bl) aT)) ?_
   rintro _ aH ⟨bm,⟨cn,co,rfl,bn,bo,bp⟩⟩
   exact JO bm ⟨_,_,rfl,(tA bn aG.size),bo,bp⟩
  ·intro q cp
   rintro _ _ _ _ _ _ _
   refine sw<|pu (vp f 14) wN ?_
   exact f2
  ·intro q bq
   rintro _ _ _ _ rfl _ _ _
   refine sw ?_
   have br:=((ay.kp g).kp bq)
   refine ld (vs T a.Next.length V) wN uH br ?_
   exact f2
  ·intro q aI
   have bu:=a0.extk aI
   rintro _ rfl _ rfl _ ⟨cq,cr,rfl,bv,_⟩ _ rfl _ rfl _ _
   refine sw<|cl wN (IR q _ a.Next (FV (bc.from0 bu) bd)) ?_
   rintro _ aH ⟨bw,⟨cs,cu,rfl,aJ,bz,b0⟩⟩
   exact JO bw ⟨_,_,rfl,(tA aJ aI.size),bz,b0,(Ap.lt bv aJ (Nat.le_refl _))⟩
  ·intro q cv
   rintro _ rfl _ rfl _ ⟨cw,cx,rfl,_⟩ _ rfl _ rfl _ _
   refine sw<|pu (vp f 1) wN ?_
   exact f2
 ·intro q J
  rintro _ rfl _ rfl _ ⟨j,l,rfl,m,b1,cy⟩ _ rfl _ rfl _ ⟨r,s,rfl,p,b2,cz,b3⟩ _ rfl
  refine sw ?_
  have b4:=((ay.kp g).kp J)
  refine st (vs j (a.Sn).length l) [(vs j (a.Sn).length l)] (GH a j l O P Q R A B C D T V) wN GY b4 ?_
  intro aH b b5 c0
  have b6:=(a0.extk J).ext b (fun k hk=>by subst hk;exact ae)
  refine pu (vp f 14) wN ?_
  refine st (vs r (a.Next).length s) [(vs r (a.Next).length s)] (GH a j l O P Q R A B C D r s) wN GY b5 ?_
  intro ah d a1 c1
  have a2:=b6.ext d (fun k hk=>by subst hk;exact ae)
  refine uD<|rg<|uK<|IM ([(11,[],[],(fun _ v _=>v=(vp f 2))),(12,[],[0],(fun _ v _=>v=(va (Gx a.Cur O P Q R)))),(13,[],[0,1],(fun _ v w=>TP w ah.heap.size v a.Cur)),(14,[],[],(fun _ v _=>v=(vp f 7))),(15,[],[3],(fun _ v _=>v=(va (Gx a.Old A B C D)))),(16,[13],[0,1,2,3,4],(fun e v w=>TS w ah.heap.size v a.Old (fun af aK=>Ap (sp (FS (e 13) 1)) af∧Ap (sp (FS (e 13) 1)) aK∧Ap (sp (FS (e 13) 4)) af∧Ap (sp (FS (e 13) 4)) aK))),(17,[],[0,1,2,3,4],(fun _ v _=>v=(vp f 2)))]:GV) GU rfl (by kernel_rfl) (by kernel_rfl) ?_ ?_ ?_
  ·exact ⟨hV,hE,⟨hV,hE,⟨(fun e v w ad h hk=>by obtain ⟨F,G,a3,a4,he,H,I,a5,a6,hap⟩:=h;exact ⟨F,G,a3,a4,he,gc H hk,I,gc a5 hk,a6,hap⟩),hE,⟨hV,hE,⟨hV,hE,⟨(fun e v w ad h hk=>by obtain ⟨F,G,a3,a4,he,H,I,a5,a6,hap,hx⟩:=h;exact ⟨F,G,a3,a4,he,gc H hk,I,gc a5 hk,a6,hap,hx⟩),(fun bg bh v w hx h=>by have b7:=hx 13 (by simp);simp only [b7] at h;exact h),⟨hV,hE,trivial⟩⟩⟩⟩⟩⟩⟩
  ·refine ⟨?_,⟨?_,⟨?_,⟨?_,⟨?_,⟨?_,⟨?_,trivial⟩⟩⟩⟩⟩⟩⟩
   ·intro i c2
    rintro _ _ _ _ _ _ _
    refine sw<|pu (vp f 2) wN ?_
    exact f2
   ·intro i b8
    rintro _ rfl _ _ _ _ _ _
    refine sw ?_
    have b9:=(a1.kp b8)
    refine lN (Gx a.Cur O P Q R) wN FE uE b9 ?_
    exact f2
   ·intro i a7
    have aL:=a2.extk a7
    rintro _ rfl _ rfl _ _ _ _ _
    refine sw<|cl wN (LA i _ a.Cur (IP (aU.from0 aL) aV (aW.from0 aL) aX)) ?_
    rintro _ aM ⟨bA,⟨c3,c4,c5,c6,rfl,bB,bC,bD,bE,bF⟩⟩
    exact JO bA ⟨_,_,_,_,rfl,(tA bB a7.size),bC,(tA bD a7.size),bE,bF⟩
   ·intro i c7
    rintro _ _ _ _ _ _ _
    refine sw<|pu (vp f 7) wN ?_
    exact f2
   ·intro i bG
    rintro _ _ _ _ rfl _ _ _
    refine sw ?_
    have bH:=(a1.kp bG)
    refine lN (Gx a.Old A B C D) wN FE uE bH ?_
    exact f2
   ·intro i a8
    have aN:=a2.extk a8
    rintro _ rfl _ rfl _ ⟨c8,c9,cC,cD,rfl,aO,cE,aP,_⟩ _ rfl _ rfl _ _
    refine sw<|cl wN (LA i _ a.Old (IP (aY.from0 aN) aZ (ba.from0 aN) bb)) ?_
    rintro _ aM ⟨bI,⟨cF,cG,cH,cI,rfl,a9,bJ,aA,bK,bL⟩⟩
    exact JO bI ⟨_,_,_,_,rfl,(tA a9 a8.size),bJ,(tA aA a8.size),bK,bL,⟨(Ap.lt aO a9 (Nat.le_refl _)),(Ap.lt aO aA (Nat.le_refl _)),(Ap.lt aP a9 (Nat.le_refl _)),(Ap.lt aP aA (Nat.le_refl _))⟩⟩
   ·intro i cJ
    rintro _ rfl _ rfl _ ⟨cK,cL,cM,cN,rfl,_⟩ _ rfl _ rfl _ _
    refine sw<|pu (vp f 2) wN ?_
    exact f2
  ·intro i Y
   rintro _ rfl _ rfl _ ⟨t,u,x,y,rfl,ai,bM,aj,bN,bO⟩ _ rfl _ rfl _ ⟨K,L,M,N,rfl,ak,bP,am,bQ,bR,an⟩ _ rfl
   refine sw ?_
   have bS:=(a1.kp Y)
   refine st (va (Gx (a.Cur) t u x y)) (Gx (a.Cur) t u x y) (GH a j l t u x y A B C D r s) wN uE bS ?_
   intro aM Z bT cO
   have bU:=(a2.extk Y).ext Z (fun k hk=>by subst hk;exact ae)
   refine pu (vp f 7) wN ?_
   refine st (va (Gx (a.Old) K L M N)) (Gx (a.Old) K L M N) (GH a j l t u x y K L M N r s) wN uE bT ?_
   intro cP aa bW cQ
   have bX:=bU.ext aa (fun k hk=>by subst hk;exact ae)
   refine nx<|lN (GH a j l t u x y K L M N r s) wN wb uC bW ?_
   have ao:=nL W (aF)
   have bY:=((((((be.kp J).ch b (Ne.symm (nN ao))).ch d (Ne.symm (nN ao))).kp Y).ch Z (Ne.symm (nN ao))).ch aa (Ne.symm (nN ao)))
   refine sv (GH a j l t u x y K L M N r s) wN uC bY ?_
   intro cR ap bZ cS
   have ca:=bX.ext ap (fun k hk=>by subst hk;exact nT X.size aF)
   refine n3 ?_
   have aq:=nL W g.size
   have cb:=(tC (tC (tC (gc (tC (tC m b (ne1 m aq)) d (ne1 m aq)) Y) Z (ne1 m aq)) aa (ne1 m aq)) ap (ne1 m (az)))
   have au:=fun (E sz n:Nat) (v:Value) (aQ:List Value) (o:World.ownsRow i ah.heap.size E sz v n aQ) (aB:World.ownsRow i ah.heap.size E sz v n aQ)=>(tC (tC (tC o Z (ne1 aB (nL W (z4 g J b d)))) aa (ne1 aB (nL W (z4 g J b d)))) ap (ne1 aB (nL az (z3 J b d))))
   have cc:=(au _ _ _ _ _ ai ai)
   have cd:=(au _ _ _ _ _ aj aj)
   have ce:=(au _ _ _ _ _ ak ak)
   have cg:=(au _ _ _ _ _ am am)
   have av:=nL W g.size
   have ci:=(tC (tC (tC (gc (tC (tC p b (ne1 p av)) d (ne1 p av)) Y) Z (ne1 p av)) aa (ne1 p av)) ap (ne1 p (az)))
   refine Jz (.inl rfl) (va (GH a j l t u x y K L M N r s)) rfl (HL (GH a j l t u x y K L M N r s) rfl bZ wb uC) ?_
   refine ⟨ca.keep0,?_⟩
   have cj:a=a:=by rfl
   rw [cj]
   have ax:=z5 X g J b d
   exact ⟨_,_,_,_,_,_,_,_,_,_,_,_,rfl,(tA cb (z2 X g)),b1,(tA cc ax),bM,(tA cd ax),bN,(tA ce ax),bP,(tA cg ax),bQ,(tA ci (z2 X g)),b2,⟨⟨(Ap.lt m ai (z2 b d)),⟨(Ap.lt m aj (z2 b d)),⟨(Ap.lt m ak (z2 b d)),⟨(Ap.lt m am (z2 b d)),⟨b3,trivial⟩⟩⟩⟩⟩,⟨⟨(bO.1.1),⟨(an.1),⟨(an.2.1),⟨(Ap.lt p ai (z2 b d)).symm,trivial⟩⟩⟩⟩,⟨⟨(an.2.2.1),⟨(an.2.2.2),⟨(Ap.lt p aj (z2 b d)).symm,trivial⟩⟩⟩,⟨⟨(bR.1.1),⟨(Ap.lt p ak (z2 b d)).symm,trivial⟩⟩,⟨⟨(Ap.lt p am (z2 b d)).symm,trivial⟩,⟨trivial,trivial⟩⟩⟩⟩⟩⟩⟩

def Gm (b:PWin) (a:Int):(Bool):=decide ((((b.Bits.getD (((a % 1024) / 32)).toNat 0) / (2:Int) ^ ((a % 32)).toNat) % 2)=1)
theorem Nd (d:World) (h:Value) (b:PWin) (k:PS d h b) (a:Int) (q:b.Bits.length=32) (r:0≤a):Fn Tryz.prog 132 #[h,(vi a)] d (fun v i=>Keep d i∧O_4 i d.heap.size v (Gm b a)):=by
 obtain ⟨e,f,rfl,j,s⟩:=k
 refine FI (n:=17) [(va (HQ b e f)),(vi a)] Tryz.func132 rfl rfl ?_
 refine sr<|bx (HQ b e f) wN ?_
 intro l t u w m o
 have g:=(Ch.base d).extk m
 refine aw (vb false) ?_
 refine nx<|pu (vp l 1) wN ?_
 refine ld (vs e b.Bits.length f) wN GO o ?_
 refine mw (vi a) ?_
 refine Ig a 1024 wN rfl rfl (by kernel_rfl) (by first|omega|assumption) ?_
 refine Kh (a % 1024) 32 wN rfl rfl (by kernel_rfl) (by omega) (by omega) (by omega) ?_
 refine ix wN ((a % 1024) / 32) uQ (j.from0 g) ?_
 refine ei (x:=b.Bits) ((((a % 1024) / 32)).toNat) wN tE (j.from0 g) ?_
 refine mw (vi a) ?_
 refine Ig a 32 wN rfl rfl (by kernel_rfl) (by first|omega|assumption) ?_
 refine Mp (b.Bits.getD (((a % 1024) / 32)).toNat 0) (a % 32) wN rfl rfl rfl rfl rfl (by omega) (by omega) ?_
 refine Im ((b.Bits.getD (((a % 1024) / 32)).toNat 0) / (2:Int) ^ ((a % 32)).toNat) 1 2 1 wN rfl rfl (by decide) (by decide) (by decide) (by kernel_rfl) ?_
 refine pu (vb (decide ((((b.Bits.getD (((a % 1024) / 32)).toNat 0) / (2:Int) ^ ((a % 32)).toNat) % 2)=1))) wN ?_
 refine aw (vb (decide ((((b.Bits.getD (((a % 1024) / 32)).toNat 0) / (2:Int) ^ ((a % 32)).toNat) % 2)=1))) ?_
 refine n3<|rt (vb (decide ((((b.Bits.getD (((a % 1024) / 32)).toNat 0) / (2:Int) ^ ((a % 32)).toNat) % 2)=1))) ?_
 refine ⟨g.keep0,?_⟩
 have p:Gm b a=decide ((((b.Bits.getD (((a % 1024) / 32)).toNat 0) / (2:Int) ^ ((a % 32)).toNat) % 2)=1):=by rfl
 rw [p]
 exact rfl

def IQ (w:PWin):Bool:=bif i_within w.Top (-1) 281474976710655 then (bif Js w.Bits 32 then (bif KF (Gm w) (w.Top+1) 1024 then (decide (w.Top = -1) || Gm w w.Top) else false) else false) else false
theorem QX (l:World) (G:Value) (d:PWin) (R:PS l G d) :Fn Tryz.prog 94 #[G] l (fun v s=>Keep l s∧O_4 s l.heap.size v (IQ d)):=by
 obtain ⟨t,w,rfl,A,B⟩:=R
 refine FI (n:=33) [(va (HQ d t w))] Tryz.func94 rfl rfl ?_
 refine sr<|bx (HQ d t w) wN ?_
 intro j S am H T I
 have J:=(Ch.base l).extk T
 refine aw (vb false) ?_
 refine n4<|jT1 [(1,(vp j 0)),(2,(vb false))] (IQ d=false) ?_ fun K=>?_
 ·intro V L W an
  have X:=J.extk W
  refine sr<|aw (vb false) ?_
  refine n1<|rt (vb false) ?_
  refine ⟨X.keep0,?_⟩
  rw [V]
  exact rfl
 refine pu (vp j 0) wN ?_
 refine ld (vi d.Top) wN tE I ?_
 refine cl wN (Hc S d.Top (-1) 281474976710655) ?_
 rintro _ L ⟨o,rfl⟩
 have M:=J.extk o
 refine pu (vb (!(i_within d.Top (-1) 281474976710655))) wN ?_
 refine mw (vb (!(i_within d.Top (-1) 281474976710655))) ?_
 rcases bf (i_within d.Top (-1) 281474976710655) with e|e
 ·have ao:=Gh e
  iterate 4 refine sk (cA not e) ?_
  refine pk (vb true) wN (cA not e) ?_
  refine n2<|ct T1 ?_
  have Y:IQ d=false:=by first|(simp [IQ,e];done)|(have hz:=HV (f:=Gm d) (a:=d.Top+1) (b:=1024) (q:=q) (by assumption) (by omega) (by omega);simp [IQ,e,hz];done)|(have hz:=HU (f:=Gm d) (a:=d.Top+1) (b:=1024) (q:=q) (by assumption) (by omega);simp [IQ,e,hz];done)
  exact wj (K Y _ o)
 have ap:=FU e
 refine pu (vp j 1) (wS (cA not e)) ?_
 have N:=(I.kp o)
 refine ld (vs t d.Bits.length w) (wS (cA not e)) GO N ?_
 refine cl (wS (cA not e)) (Lh L _ d.Bits (Lq (A.from0 M) B) 32) ?_
 rintro _ p ⟨x,rfl⟩
 have Z:=M.extk x
 refine pu (vb (!(Js d.Bits 32))) (wS (cA not e)) ?_
 refine pf (vb (!(Js d.Bits 32))) wN (cA not e) ?_
 refine n2 ?_
 rcases bf (Js d.Bits 32) with g|g
 ·refine ct (cA not g) ?_
  have aa:IQ d=false:=by first|(simp [IQ,e,g];done)|(have hz:=HV (f:=Gm d) (a:=d.Top+1) (b:=1024) (q:=q) (by assumption) (by omega) (by omega);simp [IQ,e,g,hz];done)|(have hz:=HU (f:=Gm d) (a:=d.Top+1) (b:=1024) (q:=q) (by assumption) (by omega);simp [IQ,e,g,hz];done)
  exact wj (K aa _ (o.trans x))
 have aq:=IT g
 refine cf (cA not g)<|y2<|pu (vp j 0) wN ?_
 have C:=(N.kp x)
 refine ld (vi d.Top) wN tE C ?_
 refine ar (d.Top+1) wN ?_
 refine aw (vi (d.Top+1)) ?_
 refine uD<|rg<|uJ<|Ge [(1,(vp j 0)),(3,(vi (d.Top+1)))] ⟨rfl,rfl,trivial⟩ (fun e' s=>∃ (q:Int) (O:Env),e'=pt O [(1,(vp j 0)),(3,(vi q))]∧Ch (fun k=>l.heap.size≤k) l s∧Ch (fun k=>p.heap.size≤k) p s∧d.Top+1≤q∧q≤281474976710656∧(∀ m:Int,d.Top+1≤m→m < q→Gm d m=false)) (fun e' _=>(1024 - (intOf (e' 3))).toNat) ?_ ?_
 ·exact fun u=>⟨(d.Top+1),u,rfl,Z,(Ch.refl (fun k=>p.heap.size≤k) p),(by omega),(by omega),(by first|(intro m ab ac;omega)|exact JA (by assumption) (by assumption))⟩
 ·rintro _ D ⟨q,O,rfl,y,E,au,av,ax⟩
  refine uK<|sr<|mw (vi q) ?_
  refine pu (vb (decide (q < 1024))) wN ?_
  refine n2 ?_
  rcases bt (decide (q < 1024)) with i|i
  ·have ay:=dT i
   refine ct i<|FR<|rg<|uK<|uJ<|sr ?_
   have ad:=(C.ch E (Nat.not_le.2 (nL H (z2 o x))))
   refine lN (HQ d t w) wN Gj FH ad ?_
   refine mw (vi q) ?_
   refine cl wN (Nd D _ d (JD (A.from0 y) B) q (by first|assumption|omega) (by first|assumption|omega)) ?_
   rintro _ ae ⟨P,rfl⟩
   have Q:=y.extk P
   refine n2 ?_
   rcases bf (Gm d q) with r|r
   ·refine cf r<|FR<|uB<|rg<|uG ?_
    refine mw (vi q) ?_
    refine ar (q+1) wN ?_
    refine aw (vi (q+1)) ?_
    refine uD<|FX (w0:=D) [(1,(vp j 0)),(3,(vi (q+1)))] ?_ ?_ ?_
    · exact ⟨rfl,rfl,trivial⟩
    · exact fun u=>⟨(q+1),u,rfl,Q,(((Ch.refl (fun k=>p.heap.size≤k) p).ext E (fun k hk=>hk)).extk P),(by omega),(by omega),(by first|(intro m ab ac;omega)|exact JA (by assumption) (by assumption))⟩
    · show (1024 - (q+1)).toNat < (1024 - q).toNat;omega
   refine ct r<|sr<|aw (vb false) ?_
   refine uD<|rg<|Hn<|Gd<|uP<|uP<|Gd<|uP<|rt (vb false) ?_
   refine ⟨Q.keep0,?_⟩
   have af:IQ d=false:=by first|(simp [IQ,e,g,i,r];done)|(have hz:=HV (f:=Gm d) (a:=d.Top+1) (b:=1024) (q:=q) (by assumption) (by omega) (by omega);simp [IQ,e,g,i,r,hz];done)|(have hz:=HU (f:=Gm d) (a:=d.Top+1) (b:=1024) (q:=q) (by assumption) (by omega);simp [IQ,e,g,i,r,hz];done)
   rw [af]
   exact rfl
  have az:=dF i
  refine cf i<|Gn<|uA<|uA<|wr<|rg<|sr<|pu (vp j 0) wN ?_
  have F:=(C.ch E (Nat.not_le.2 (nL H (z2 o x))))
  refine ld (vi d.Top) wN tE F ?_
  refine pu (vb (decide (d.Top=(-1)))) wN ?_
  refine mw (vb (decide (d.Top=(-1)))) ?_
  rcases bt (decide (d.Top=(-1))) with h|h
  ·have a0:=dT h
   iterate 4 refine sk h ?_
   refine pk (vb true) wN h ?_
   refine aw (vb true) ?_
   refine n3<|rt (vb true) ?_
   refine ⟨y.keep0,?_⟩
   have ah:IQ d=true:=by first|(simp [IQ,e,g,i,h];done)|(have hz:=HV (f:=Gm d) (a:=d.Top+1) (b:=1024) (q:=q) (by assumption) (by omega) (by omega);simp [IQ,e,g,i,h,hz];done)|(have hz:=HU (f:=Gm d) (a:=d.Top+1) (b:=1024) (q:=q) (by assumption) (by omega);simp [IQ,e,g,i,h,hz];done)
   rw [ah]
   exact rfl
  have a1:=dF h
  refine lN (HQ d t w) (wS h) Gj FH F ?_
  refine pu (vp j 0) (wS h) ?_
  refine ld (vi d.Top) (wS h) tE F ?_
  refine cl (wS h) (Nd D _ d (JD (A.from0 y) B) d.Top (by first|assumption|omega) (by first|assumption|omega)) ?_
  rintro _ ae ⟨ai,rfl⟩
  have aj:=y.extk ai
  refine pf (vb (Gm d d.Top)) wN h ?_
  refine aw (vb (Gm d d.Top)) ?_
  refine n3<|rt (vb (Gm d d.Top)) ?_
  refine ⟨aj.keep0,?_⟩
  have ak:IQ d=(Gm d d.Top):=by first|(simp [IQ,e,g,i,h];done)|(have hz:=HV (f:=Gm d) (a:=d.Top+1) (b:=1024) (q:=q) (by assumption) (by omega) (by omega);simp [IQ,e,g,i,h,hz];done)|(have hz:=HU (f:=Gm d) (a:=d.Top+1) (b:=1024) (q:=q) (by assumption) (by omega);simp [IQ,e,g,i,h,hz];done)
  rw [ak]
  exact rfl
theorem QA {w:PWin} (h:IQ w=true):Iw w.Bits=true∧w.Bits.length=32 ∧ -1≤w.Top∧w.Top≤281474976710655:=by
  unfold IQ at h
  cases h1:i_within w.Top (-1) 281474976710655 with
  | false=>simp only [h1,cond_false] at h;cases h
  | true =>
    cases h2:Js w.Bits 32 with
    | false=>simp only [h1,h2,cond_true,cond_false] at h;cases h
    | true =>
      have b:=IT h2
      have a:=FU h1
      exact ⟨b.1,by omega,a.1,a.2⟩

def Hm (a:PEp):(Bool):=bif (i_within a.N 0 4294967295) then (bif (decide ((a.Key.length:Int)=32)) then (bif (i_within a.Seq 0 281474976710656) then ((IQ a.Win)) else (false)) else (false)) else (false)
theorem Pc (f:World) (p:Value) (a:PEp) (u:Pn f p a) :Fn Tryz.prog 57 #[p] f (fun v q=>Keep f q∧O_4 q f.heap.size v (Hm a)):=by
 obtain ⟨i,j,k,l,rfl,w,H,x,y⟩:=u
 refine FI (n:=22) [(va (Gx a i j k l))] Tryz.func57 rfl rfl ?_
 refine sr<|bx (Gx a i j k l) wN ?_
 intro g A I J B r
 refine aw (vb false) ?_
 refine nx<|pu (vp g 0) wN ?_
 refine ld (vi a.N) wN tE r ?_
 refine cl wN (Hc A a.N 0 4294967295) ?_
 rintro _ C ⟨s,rfl⟩
 have h:=((Ch.base f).extk B).extk s
 refine mw (vb (i_within a.N 0 4294967295)) ?_
 rcases bf (i_within a.N 0 4294967295) with b|b
 ·have K:=Gh b
  iterate 4 refine sk b ?_
  refine pf (vb false) wN b ?_
  refine mw (vb false) ?_
  iterate 3 refine sk F1 ?_
  refine pf (vb false) wN F1 ?_
  refine mw (vb false) ?_
  iterate 3 refine sk F1 ?_
  refine pf (vb false) wN F1 ?_
  refine aw (vb false) ?_
  refine n3<|rt (vb false) ?_
  refine ⟨h.keep0,?_⟩
  simp only [Hm,b,cond_true,cond_false]
  exact rfl
 have L:=FU b
 refine pu (vp g 1) (wS b) ?_
 have m:=(r.kp s)
 refine ld (vs i a.Key.length j) (wS b) uH m ?_
 refine ln (wS b) tD (w.from0 h) ?_
 refine pu (vb (decide ((a.Key.length:Int)=32))) (wS b) ?_
 refine pk (vb (decide ((a.Key.length:Int)=32))) wN b ?_
 refine mw (vb (decide ((a.Key.length:Int)=32))) ?_
 rcases bf (decide ((a.Key.length:Int)=32)) with d|d
 ·have M:=dF d
  iterate 3 refine sk d ?_
  refine pf (vb false) wN d ?_
  refine mw (vb false) ?_
  iterate 3 refine sk F1 ?_
  refine pf (vb false) wN F1 ?_
  refine aw (vb false) ?_
  refine n3<|rt (vb false) ?_
  refine ⟨h.keep0,?_⟩
  simp only [Hm,b,d,cond_true,cond_false]
  exact rfl
 have O:=dT d
 refine pu (vp g 2) (wS d) ?_
 refine ld (vi a.Seq) (wS d) tE m ?_
 refine cl (wS d) (Hc C a.Seq 0 281474976710656) ?_
 rintro _ D ⟨t,rfl⟩
 have o:=h.extk t
 refine pk (vb (i_within a.Seq 0 281474976710656)) wN d ?_
 refine mw (vb (i_within a.Seq 0 281474976710656)) ?_
 rcases bf (i_within a.Seq 0 281474976710656) with e|e
 ·have P:=Gh e
  iterate 3 refine sk e ?_
  refine pf (vb false) wN e ?_
  refine aw (vb false) ?_
  refine n3<|rt (vb false) ?_
  refine ⟨o.keep0,?_⟩
  simp only [Hm,b,d,e,cond_true,cond_false]
  exact rfl
 have Q:=FU e
 refine pu (vp g 3) (wS e) ?_
 have E:=(m.kp t)
 refine lN (HQ a.Win k l) (wS e) Gj FH E ?_
 refine cl (wS e) (QX D _ a.Win (JD (x.from0 o) y)) ?_
 rintro _ R ⟨F,rfl⟩
 have G:=o.extk F
 refine pk (vb (IQ a.Win)) wN e ?_
 refine aw (vb (IQ a.Win)) ?_
 refine n3<|rt (vb (IQ a.Win)) ?_
 refine ⟨G.keep0,?_⟩
 simp only [Hm,b,d,e,cond_true,cond_false]
 exact rfl
theorem Jk {e:PEp} (h:Hm e=true):0≤e.N∧e.N≤4294967295∧(e.Key.length:Int)=32∧0≤e.Seq∧e.Seq≤281474976710656∧IQ e.Win=true:=by
  simp only [Hm,Bool.cond_false_right,Bool.and_eq_true,decide_eq_true_eq] at h
  have a:=FU h.1
  have b:=FU h.2.2.1
  exact ⟨a.1,a.2,h.2.1,b.1,b.2,h.2.2.2⟩

def GK (a:List UInt8) (b:List UInt8):(Bool):=(eqS (ByteArray.mk a.toArray) (ByteArray.mk b.toArray))
theorem Kn (d:World) (e:Value) (a:List UInt8) (l:HP d e a) (f:Value) (b:List UInt8) (m:HP d f b) :Fn Tryz.prog 116 #[e,f] d (fun v g=>Keep d g∧O_4 g d.heap.size v (GK a b)):=by
 obtain ⟨h,i,rfl,o,r⟩:=l
 obtain ⟨j,k,rfl,p,s⟩:=m
 refine FI (n:=10) [(vs h a.length i),(vs j b.length k)] Tryz.func116 rfl rfl ?_
 refine sr<|aw (vb false) ?_
 refine nx<|mw (vs h a.length i) ?_
 refine OH a wN rfl rfl rfl rfl Tryz.underlying22 Tryz.underlying5 Tryz.underlying9 o ?_
 refine mw (vs j b.length k) ?_
 refine OH b wN rfl rfl rfl rfl Tryz.underlying22 Tryz.underlying5 Tryz.underlying9 p ?_
 refine pu (vb (eqS (ByteArray.mk a.toArray) (ByteArray.mk b.toArray))) wN ?_
 refine aw (vb (eqS (ByteArray.mk a.toArray) (ByteArray.mk b.toArray))) ?_
 refine n3<|rt (vb (eqS (ByteArray.mk a.toArray) (ByteArray.mk b.toArray))) ?_
 refine ⟨Ch.refl _ _,?_⟩
 have q:GK a b=(eqS (ByteArray.mk a.toArray) (ByteArray.mk b.toArray)):=by rfl
 rw [q]
 exact rfl

theorem PI (d:World) (r:Value) (a:List Int) (w:RC d r a) (s:Value) (b:List Int) (y:RC d s b) :Fn Tryz.prog 133 #[r,s] d (fun v j=>Keep d j∧O_4 j d.heap.size v (eqI a b)):=by
 obtain ⟨f,g,rfl,p,F⟩:=w
 obtain ⟨h,i,rfl,q,G⟩:=y
 refine FI (n:=26) [(vs f a.length g),(vs h b.length i)] Tryz.func133 rfl rfl ?_
 refine sr<|aw (vb false) ?_
 refine n4<|mw (vs f a.length g) ?_
 refine ln wN uQ p ?_
 refine mw (vs h b.length i) ?_
 refine ln wN uQ q ?_
 refine pu (vb (!(decide ((a.length:Int)=(b.length:Int))))) wN ?_
 refine n2 ?_
 rcases bf (decide ((a.length:Int)=(b.length:Int))) with l|l
 ·have H:=dF l
  refine ct (cA not l)<|sr<|aw (vb false) ?_
  refine n1<|rt (vb false) ?_
  refine ⟨Ch.refl _ _,?_⟩
  have A:eqI a b=false:=by first|exact Ot (by assumption)|exact QI (by assumption)|exact Ou (by assumption) (by omega) (by omega)
  rw [A]
  exact rfl
 have I:=dT l
 refine cf (cA not l)<|y2<|mw (vs f a.length g) ?_
 refine ln wN uQ p ?_
 refine mw (vi 0) ?_
 refine uD<|rg<|uJ<|Ge [(1,(vs h b.length i)),(12,(vs f a.length g)),(13,(vi (a.length:Int))),(14,(vi ((0:Nat):Int)))] ⟨rfl,rfl,rfl,(cA (Value.int .i64) (show (0:Int)=((0:Nat):Int) by omega)),trivial⟩ (fun e' j=>∃ (k:Nat) (t:Env),e'=pt t [(1,(vs h b.length i)),(12,(vs f a.length g)),(13,(vi (a.length:Int))),(14,(vi ((k:Nat):Int)))]∧Ch (fun k=>d.heap.size≤k) d j∧Ch (fun k=>d.heap.size≤k) d j∧k≤a.length∧a.take k=b.take k) (fun e' _=>a.length - ((intOf (e' 14))).toNat) ?_ ?_
 ·exact fun u=>⟨0,u,rfl,(Ch.base d),(Ch.refl (fun k=>d.heap.size≤k) d),(by omega),(by first|rfl|exact OV (by assumption) (by omega) (by omega) (by assumption))⟩
 ·rintro _ B ⟨k,t,rfl,e,C,J,K⟩
  refine sr<|pu (vb (decide (((k:Nat):Int) < (a.length:Int)))) wN ?_
  refine uD<|rg<|uK ?_
  rcases bf (decide (((k:Nat):Int) < (a.length:Int))) with m|m
  ·have L:=dF m
   refine cf m<|Gn<|uA<|uA<|wr<|rg<|sr<|aw (vb true) ?_
   refine n3<|rt (vb true) ?_
   refine ⟨e.keep0,?_⟩
   have D:eqI a b=true:=by first|exact Ot (by assumption)|exact QI (by assumption)|exact Ou (by assumption) (by omega) (by omega)
   rw [D]
   exact rfl
  have M:=dT m
  refine ct m<|FR<|rg<|uK<|uJ<|sr<|mw (vi ((k:Nat):Int)) ?_
  refine ix wN ((k:Nat):Int) uQ (p.from0 e) ?_
  refine ei (x:=a) k wN tE (p.from0 e) ?_
  refine aw (vi ((k:Nat):Int)) ?_
  refine aw (vi (a.getD k 0)) ?_
  refine nx<|mw (vi (a.getD k 0)) ?_
  refine mw (vs h b.length i) ?_
  refine mw (vi ((k:Nat):Int)) ?_
  refine ix wN ((k:Nat):Int) uQ (q.from0 e) ?_
  refine ei (x:=b) k wN tE (q.from0 e) ?_
  refine pu (vb (!(decide ((a.getD k 0)=(b.getD k 0))))) wN ?_
  refine n2 ?_
  rcases bf (decide ((a.getD k 0)=(b.getD k 0))) with o|o
  ·have N:=dF o
   refine ct (cA not o)<|sr<|aw (vb false) ?_
   refine uD<|rg<|Hn<|Gd<|uP<|uP<|Gd<|uP<|rt (vb false) ?_
   refine ⟨e.keep0,?_⟩
   have E:eqI a b=false:=by first|exact Ot (by assumption)|exact QI (by assumption)|exact Ou (by assumption) (by omega) (by omega)
   rw [E]
   exact rfl
  have O:=dT o
  refine cf (cA not o)<|FR<|uB<|rg<|uG ?_
  refine ar (((k:Nat):Int)+1) wN ?_
  refine mw (vi (((k:Nat):Int)+1)) ?_
  refine uD<|FX (w0:=B) [(1,(vs h b.length i)),(12,(vs f a.length g)),(13,(vi (a.length:Int))),(14,(vi (((k+1):Nat):Int)))] ?_ ?_ ?_
  · exact ⟨rfl,rfl,rfl,(cA (Value.int .i64) (show ((((k:Nat):Int)+1):Int)=(((k+1):Nat):Int) by omega)),trivial⟩
  · exact fun u=>⟨(k+1),u,rfl,e,((Ch.refl (fun k=>d.heap.size≤k) d).ext C (fun k hk=>hk)),(by omega),(by first|rfl|exact OV (by assumption) (by omega) (by omega) (by assumption))⟩
  · show a.length - ((((k+1):Nat):Int)).toNat < a.length - (((k:Nat):Int)).toNat;omega

def i_sameEp (a:PEp) (b:PEp):(Bool):=bif (decide (a.N=b.N)) then (bif (GK a.Key b.Key) then (bif (decide (a.Seq=b.Seq)) then (bif (decide (a.Win.Top=b.Win.Top)) then ((eqI a.Win.Bits b.Win.Bits)) else (false)) else (false)) else (false)) else (false)
theorem Sk (j:World) (C:Value) (a:PEp) (G:Pn j C a) (D:Value) (b:PEp) (H:Pn j D b) :Fn Tryz.prog 95 #[C,D] j (fun v E=>Keep j E∧O_4 E j.heap.size v (i_sameEp a b)):=by
 obtain ⟨m,o,p,q,rfl,I,J,K,L⟩:=G
 obtain ⟨r,s,t,u,rfl,M,O,P,Q⟩:=H
 refine FI (n:=42) [(va (Gx a m o p q)),(va (Gx b r s t u))] Tryz.func95 rfl rfl ?_
 refine sr<|bx (Gx a m o p q) wN ?_
 intro h Y Z aa R S
 refine bx (Gx b r s t u) wN ?_
 intro i T ab ac F w
 have l:=((Ch.base j).extk R).extk F
 refine aw (vb false) ?_
 refine nx<|pu (vp h 0) wN ?_
 have x:=(S.kp F)
 refine ld (vi a.N) wN tE x ?_
 refine pu (vp i 0) wN ?_
 refine ld (vi b.N) wN tE w ?_
 refine pu (vb (decide (a.N=b.N))) wN ?_
 refine mw (vb (decide (a.N=b.N))) ?_
 rcases bf (decide (a.N=b.N)) with d|d
 ·have ad:=dF d
  iterate 5 refine sk d ?_
  refine pf (vb false) wN d ?_
  refine mw (vb false) ?_
  iterate 5 refine sk F1 ?_
  refine pf (vb false) wN F1 ?_
  refine mw (vb false) ?_
  iterate 7 refine sk F1 ?_
  refine pf (vb false) wN F1 ?_
  refine mw (vb false) ?_
  iterate 7 refine sk F1 ?_
  refine pf (vb false) wN F1 ?_
  refine aw (vb false) ?_
  refine n3<|rt (vb false) ?_
  refine ⟨l.keep0,?_⟩
  simp only [i_sameEp,d,cond_true,cond_false]
  exact rfl
 have ae:=dT d
 refine pu (vp h 1) (wS d) ?_
 refine ld (vs m a.Key.length o) (wS d) uH x ?_
 refine pu (vp i 1) (wS d) ?_
 refine ld (vs r b.Key.length s) (wS d) uH w ?_
 refine cl (wS d) (Kn T _ a.Key (FV (I.from0 l) J) _ b.Key (FV (M.from0 l) O)) ?_
 rintro _ V ⟨y,rfl⟩
 have k:=l.extk y
 refine pk (vb (GK a.Key b.Key)) wN d ?_
 refine mw (vb (GK a.Key b.Key)) ?_
 rcases bf (GK a.Key b.Key) with g|g
 ·iterate 5 refine sk g ?_
  refine pf (vb false) wN g ?_
  refine mw (vb false) ?_
  iterate 7 refine sk F1 ?_
  refine pf (vb false) wN F1 ?_
  refine mw (vb false) ?_
  iterate 7 refine sk F1 ?_
  refine pf (vb false) wN F1 ?_
  refine aw (vb false) ?_
  refine n3<|rt (vb false) ?_
  refine ⟨k.keep0,?_⟩
  simp only [i_sameEp,d,g,cond_true,cond_false]
  exact rfl
 refine pu (vp h 2) (wS g) ?_
 have A:=(x.kp y)
 refine ld (vi a.Seq) (wS g) tE A ?_
 refine pu (vp i 2) (wS g) ?_
 have B:=(w.kp y)
 refine ld (vi b.Seq) (wS g) tE B ?_
 refine pu (vb (decide (a.Seq=b.Seq))) (wS g) ?_
 refine pk (vb (decide (a.Seq=b.Seq))) wN g ?_
 refine mw (vb (decide (a.Seq=b.Seq))) ?_
 rcases bf (decide (a.Seq=b.Seq)) with e|e
 ·have af:=dF e
  iterate 7 refine sk e ?_
  refine pf (vb false) wN e ?_
  refine mw (vb false) ?_
  iterate 7 refine sk F1 ?_
  refine pf (vb false) wN F1 ?_
  refine aw (vb false) ?_
  refine n3<|rt (vb false) ?_
  refine ⟨k.keep0,?_⟩
  simp only [i_sameEp,d,g,e,cond_true,cond_false]
  exact rfl
 have ah:=dT e
 refine pu (vp h 3) (wS e) ?_
 refine pu (vp h 3) (wS e) ?_
 refine ld (vi a.Win.Top) (wS e) tE A ?_
 refine pu (vp i 3) (wS e) ?_
 refine pu (vp i 3) (wS e) ?_
 refine ld (vi b.Win.Top) (wS e) tE B ?_
 refine pu (vb (decide (a.Win.Top=b.Win.Top))) (wS e) ?_
 refine pk (vb (decide (a.Win.Top=b.Win.Top))) wN e ?_
 refine mw (vb (decide (a.Win.Top=b.Win.Top))) ?_
 rcases bf (decide (a.Win.Top=b.Win.Top)) with f|f
 ·have ai:=dF f
  iterate 7 refine sk f ?_
  refine pf (vb false) wN f ?_
  refine aw (vb false) ?_
  refine n3<|rt (vb false) ?_
  refine ⟨k.keep0,?_⟩
  simp only [i_sameEp,d,g,e,f,cond_true,cond_false]
  exact rfl
 have aj:=dT f
 refine pu (vp h 3) (wS f) ?_
 refine pu (vp h 4) (wS f) ?_
 refine ld (vs p a.Win.Bits.length q) (wS f) GO A ?_
 refine pu (vp i 3) (wS f) ?_
 refine pu (vp i 4) (wS f) ?_
 refine ld (vs t b.Win.Bits.length u) (wS f) GO B ?_
 refine cl (wS f) (PI V _ a.Win.Bits (Lq (K.from0 k) L) _ b.Win.Bits (Lq (P.from0 k) Q)) ?_
 rintro _ ak ⟨W,rfl⟩
 have X:=k.extk W
 refine pk (vb (eqI a.Win.Bits b.Win.Bits)) wN f ?_
 refine aw (vb (eqI a.Win.Bits b.Win.Bits)) ?_
 refine n3<|rt (vb (eqI a.Win.Bits b.Win.Bits)) ?_
 refine ⟨X.keep0,?_⟩
 simp only [i_sameEp,d,g,e,f,cond_true,cond_false]
 exact rfl

theorem HX:∀ w,(isAgg 4).run Tryz.prog w=.ok false w:=fun w=>by kernel_rfl
def Hv (a:PChan):(Bool):=bif a.HasOld then (bif (Hm a.Old) then (bif (decide (a.Old.N=(a.Cur.N - 1))) then (bif (i_within a.Until 0 1000005) then (true) else (bif (decide (a.Until=(-1))) then (decide (a.Role=1)) else (false))) else (false)) else (false)) else (bif (i_sameEp a.Old {N:=0,Key:=[],Seq:=0,Win:={Top:=0,Bits:=[]:PWin}:PEp}) then (decide (a.Until=0)) else (false))
theorem TF (k:World) (x:Value) (a:PChan) (S:Ro k x a) (ab:0≤a.Cur.N) (ac:a.Cur.N≤4294967295):Fn Tryz.prog 58 #[x] k (fun v y=>Keep k y∧O_4 y k.heap.size v (Hv a)):=by
 obtain ⟨A,B,C,D,E,F,m,o,p,q,G,H,rfl,ad,ae,af,ah,ai,aj,I,J,K,L,ak,am⟩:=S
 refine FI (n:=42) [(va (GH a A B C D E F m o p q G H))] Tryz.func58 rfl rfl ?_
 refine sr<|bx (GH a A B C D E F m o p q G H) wN ?_
 intro e t an ao T l
 have j:=(Ch.base k).extk T
 refine aw (vb false) ?_
 refine n4<|pu (vp e 12) wN ?_
 refine ld (vb a.HasOld) wN HX l ?_
 refine pu (vb (!a.HasOld)) wN ?_
 refine n2 ?_
 rcases bf a.HasOld with g|g
 ·refine ct (cA not g)<|sr<|pu (vp e 7) wN ?_
  refine lN (Gx a.Old m o p q) wN FE uE l ?_
  refine pu (va Ks) wN ?_
  refine cl wN (Sk t _ a.Old (IP (I.from0 j) J (K.from0 j) L) _ _ (show Pn t (va Ks) {N:=0,Key:=[],Seq:=0,Win:={Top:=0,Bits:=[]:PWin}:PEp} from ⟨_,_,_,_,rfl,(Rd.nil _ _),(by simp),(Rd.nil _ _),(by simp)⟩)) ?_
  rintro _ u ⟨M,rfl⟩
  have O:=j.extk M
  refine mw (vb (i_sameEp a.Old {N:=0,Key:=[],Seq:=0,Win:={Top:=0,Bits:=[]:PWin}:PEp})) ?_
  rcases bf (i_sameEp a.Old {N:=0,Key:=[],Seq:=0,Win:={Top:=0,Bits:=[]:PWin}:PEp}) with h|h
  ·iterate 3 refine sk h ?_
   refine pf (vb false) wN h ?_
   refine aw (vb false) ?_
   refine n1<|rt (vb false) ?_
   refine ⟨O.keep0,?_⟩
   simp only [Hv,g,h,cond_true,cond_false]
   exact rfl
  refine pu (vp e 13) (wS h) ?_
  have V:=(l.kp M)
  refine ld (vi a.Until) (wS h) tE V ?_
  refine pu (vb (decide (a.Until=0))) (wS h) ?_
  refine pk (vb (decide (a.Until=0))) wN h ?_
  refine aw (vb (decide (a.Until=0))) ?_
  refine n1<|rt (vb (decide (a.Until=0))) ?_
  refine ⟨O.keep0,?_⟩
  simp only [Hv,g,h,cond_true,cond_false]
  exact rfl
 refine cf (cA not g)<|y2<|jT1 [(1,(vp e 0)),(2,(vb false))] (Hv a=false) ?_ fun P=>?_
 ·intro W u X ap
  have Y:=j.extk X
  refine sr<|aw (vb false) ?_
  refine n1<|rt (vb false) ?_
  refine ⟨Y.keep0,?_⟩
  rw [W]
  exact rfl
 refine pu (vp e 7) wN ?_
 refine lN (Gx a.Old m o p q) wN FE uE l ?_
 refine cl wN (Pc t _ a.Old (IP (I.from0 j) J (K.from0 j) L)) ?_
 rintro _ u ⟨r,rfl⟩
 refine pu (vb (!(Hm a.Old))) wN ?_
 refine mw (vb (!(Hm a.Old))) ?_
 rcases bf (Hm a.Old) with b|b
 ·iterate 8 refine sk (cA not b) ?_
  refine pk (vb true) wN (cA not b) ?_
  refine n2<|ct T1 ?_
  have Z:Hv a=false:=by simp only [Hv,g,b,cond_true,cond_false]
  exact wj (P Z _ r)
 have aq:=Jk b
 refine pu (vp e 7) (wS (cA not b)) ?_
 refine pu (vp e 7) (wS (cA not b)) ?_
 have s:=(l.kp r)
 refine ld (vi a.Old.N) (wS (cA not b)) tE s ?_
 refine pu (vp e 2) (wS (cA not b)) ?_
 refine pu (vp e 2) (wS (cA not b)) ?_
 refine ld (vi a.Cur.N) (wS (cA not b)) tE s ?_
 refine ar (a.Cur.N - 1) (wS (cA not b)) ?_
 refine pu (vb (!(decide (a.Old.N=(a.Cur.N - 1))))) (wS (cA not b)) ?_
 refine pf (vb (!(decide (a.Old.N=(a.Cur.N - 1))))) wN (cA not b) ?_
 refine n2 ?_
 rcases bf (decide (a.Old.N=(a.Cur.N - 1))) with i|i
 ·have au:=dF i
  refine ct (cA not i) ?_
  have aa:Hv a=false:=by simp only [Hv,g,b,i,cond_true,cond_false]
  exact wj (P aa _ r)
 have av:=dT i
 refine cf (cA not i)<|y1<|pu (vp e 13) wN ?_
 refine ld (vi a.Until) wN tE s ?_
 refine cl wN (Hc u a.Until 0 1000005) ?_
 rintro _ ax ⟨Q,rfl⟩
 have w:=(j.extk r).extk Q
 refine mw (vb (i_within a.Until 0 1000005)) ?_
 rcases bt (i_within a.Until 0 1000005) with d|d
 ·have ay:=FU d
  iterate 4 refine sk d ?_
  refine su ?_
  refine su ?_
  refine su ?_
  refine sk d ?_
  refine pk (vb true) wN d ?_
  refine aw (vb true) ?_
  refine n3<|rt (vb true) ?_
  refine ⟨w.keep0,?_⟩
  simp only [Hv,g,b,i,d,cond_true,cond_false]
  exact rfl
 have az:=Gh d
 refine pu (vp e 13) (wS d) ?_
 have R:=(s.kp Q)
 refine ld (vi a.Until) (wS d) tE R ?_
 refine pu (vb (decide (a.Until=(-1)))) (wS d) ?_
 refine mv (vb (decide (a.Until=(-1)))) (wS d) ?_
 rcases bf (decide (a.Until=(-1))) with f|f
 ·have a0:=dF f
  iterate 3 refine sk f ?_
  refine pf (vb false) (wS d) f ?_
  refine pf (vb false) wN d ?_
  refine aw (vb false) ?_
  refine n3<|rt (vb false) ?_
  refine ⟨w.keep0,?_⟩
  simp only [Hv,g,b,i,d,f,cond_true,cond_false]
  exact rfl
 have a1:=dT f
 refine pu (vp e 0) (wS f) ?_
 refine ld (vi a.Role) (wS f) tE R ?_
 refine pu (vb (decide (a.Role=1))) (wS f) ?_
 refine pk (vb (decide (a.Role=1))) (wS d) f ?_
 refine pf (vb (decide (a.Role=1))) wN d ?_
 refine aw (vb (decide (a.Role=1))) ?_
 refine n3<|rt (vb (decide (a.Role=1))) ?_
 refine ⟨w.keep0,?_⟩
 simp only [Hv,g,b,i,d,f,cond_true,cond_false]
 exact rfl

theorem KI {w:World} {x:PChan} {a:Option Addr} {b:Nat} {d:Option Addr} {e:Nat} {f:Option Addr} {g:Nat} {h:Option Addr} {i:Nat} {j:Option Addr} {k:Nat} {l:Option Addr} {m:Nat} (o:Rd w 1 (.slice a x.Sn.length b) x.Sn.length (x.Sn.map bV)) (p:x.Sn.length≤1073741824) (q:Rd w 1 (.slice d x.Cur.Key.length e) x.Cur.Key.length (x.Cur.Key.map bV)) (r:x.Cur.Key.length≤1073741824) (s:Rd w 1 (.slice f x.Cur.Win.Bits.length g) x.Cur.Win.Bits.length (x.Cur.Win.Bits.map iV)) (t:x.Cur.Win.Bits.length≤1073741824) (u:Rd w 1 (.slice h x.Old.Key.length i) x.Old.Key.length (x.Old.Key.map bV)) (v:x.Old.Key.length≤1073741824) (y:Rd w 1 (.slice j x.Old.Win.Bits.length k) x.Old.Win.Bits.length (x.Old.Win.Bits.map iV)) (A:x.Old.Win.Bits.length≤1073741824) (B:Rd w 1 (.slice l x.Next.length m) x.Next.length (x.Next.map bV)) (C:x.Next.length≤1073741824):Ro w (va (GH x a b d e f g h i j k l m)) x:=⟨_,_,_,_,_,_,_,_,_,_,_,_,rfl,o,p,q,r,s,t,u,v,y,A,B,C⟩
def Gb (a:PChan):(Bool):=bif (GC a.Role) then (bif (FT a.Sn) then (bif (Hm a.Cur) then (bif (Hv a) then (bif (decide ((a.Next.length:Int)=0)) then (true) else (bif (decide (a.Role=0)) then (bif (decide ((a.Next.length:Int)=32)) then (decide (a.Cur.N < 4294967295)) else (false)) else (false))) else (false)) else (false)) else (false)) else (false)
theorem Nh (o:World) (K:Value) (a:PChan) (ab:Ro o K a) :Fn Tryz.prog 24 #[K] o (fun v L=>Keep o L∧O_4 L o.heap.size v (Gb a)):=by
 obtain ⟨s,t,u,w,x,y,D,E,F,G,p,q,rfl,M,O,P,Q,R,S,ac,ad,ae,af,H,ah⟩:=ab
 refine FI (n:=45) [(va (GH a s t u w x y D E F G p q))] Tryz.func24 rfl rfl ?_
 refine sr<|bx (GH a s t u w x y D E F G p q) wN ?_
 intro i ai ay az aj T
 have V:=(Ch.base o).extk aj
 refine aw (vb false) ?_
 refine n4<|jT1 [(1,(vp i 0)),(2,(vb false))] (Gb a=false) ?_ fun A=>?_
 ·intro ak W am a0
  have an:=V.extk am
  refine sr<|aw (vb false) ?_
  refine n1<|rt (vb false) ?_
  refine ⟨an.keep0,?_⟩
  rw [ak]
  exact rfl
 refine pu (vp i 0) wN ?_
 refine ld (vi a.Role) wN tE T ?_
 refine cl wN (KN ai a.Role) ?_
 rintro _ W ⟨l,rfl⟩
 have X:=V.extk l
 refine pu (vb (!(GC a.Role))) wN ?_
 refine mw (vb (!(GC a.Role))) ?_
 rcases bf (GC a.Role) with d|d
 ·have a1:=KJ d
  iterate 4 refine sk (cA not d) ?_
  refine pk (vb true) wN (cA not d) ?_
  refine mw (vb true) ?_
  iterate 4 refine sk T1 ?_
  refine pk (vb true) wN T1 ?_
  refine mw (vb true) ?_
  iterate 3 refine sk T1 ?_
  refine pk (vb true) wN T1 ?_
  refine n2<|ct T1 ?_
  have ao:Gb a=false:=by simp only [Gb,d,cond_true,cond_false]
  exact wj (A ao _ l)
 have a2:=Kf d
 refine pu (vp i 1) (wS (cA not d)) ?_
 have Y:=(T.kp l)
 refine ld (vs s a.Sn.length t) (wS (cA not d)) uH Y ?_
 refine cl (wS (cA not d)) (Iv W _ a.Sn (FV (M.from0 X) O)) ?_
 rintro _ ap ⟨r,rfl⟩
 have I:=X.extk r
 refine pu (vb (!(FT a.Sn))) (wS (cA not d)) ?_
 refine pf (vb (!(FT a.Sn))) wN (cA not d) ?_
 refine mw (vb (!(FT a.Sn))) ?_
 rcases bf (FT a.Sn) with e|e
 ·have a3:=Is e
  iterate 4 refine sk (cA not e) ?_
  refine pk (vb true) wN (cA not e) ?_
  refine mw (vb true) ?_
  iterate 3 refine sk T1 ?_
  refine pk (vb true) wN T1 ?_
  refine n2<|ct T1 ?_
  have aq:Gb a=false:=by simp only [Gb,d,e,cond_true,cond_false]
  exact wj (A aq _ (l.trans r))
 have a4:=Ir e
 refine pu (vp i 2) (wS (cA not e)) ?_
 have Z:=(Y.kp r)
 refine lN (Gx a.Cur u w x y) (wS (cA not e)) FE uE Z ?_
 refine cl (wS (cA not e)) (Pc ap _ a.Cur (IP (P.from0 I) Q (R.from0 I) S)) ?_
 rintro _ au ⟨B,rfl⟩
 have k:=I.extk B
 refine pu (vb (!(Hm a.Cur))) (wS (cA not e)) ?_
 refine pf (vb (!(Hm a.Cur))) wN (cA not e) ?_
 refine mw (vb (!(Hm a.Cur))) ?_
 rcases bf (Hm a.Cur) with f|f
 ·iterate 3 refine sk (cA not f) ?_
  refine pk (vb true) wN (cA not f) ?_
  refine n2<|ct T1 ?_
  have av:Gb a=false:=by simp only [Gb,d,e,f,cond_true,cond_false]
  exact wj (A av _ ((l.trans r).trans B))
 have a5:=Jk f
 have aa:=(Z.kp B)
 refine lN (GH a s t u w x y D E F G p q) (wS (cA not f)) wb uC aa ?_
 refine cl (wS (cA not f)) (TF au _ a (KI (M.from0 k) O (P.from0 k) Q (R.from0 k) S (ac.from0 k) ad (ae.from0 k) af (H.from0 k) ah) (by omega) (by omega)) ?_
 rintro _ a6 ⟨J,rfl⟩
 have m:=k.extk J
 refine pu (vb (!(Hv a))) (wS (cA not f)) ?_
 refine pf (vb (!(Hv a))) wN (cA not f) ?_
 refine n2 ?_
 rcases bf (Hv a) with j|j
 ·refine ct (cA not j) ?_
  have ax:Gb a=false:=by simp only [Gb,d,e,f,j,cond_true,cond_false]
  exact wj (A ax _ (((l.trans r).trans B).trans J))
 refine cf (cA not j)<|y1<|pu (vp i 14) wN ?_
 have C:=(aa.kp J)
 refine ld (vs p a.Next.length q) wN uH C ?_
 refine ln wN tD (H.from0 m) ?_
 refine pu (vb (decide ((a.Next.length:Int)=0))) wN ?_
 refine mw (vb (decide ((a.Next.length:Int)=0))) ?_
 rcases bt (decide ((a.Next.length:Int)=0)) with b|b
 ·have a7:=dT b
  iterate 4 refine sk b ?_
  refine su ?_
  refine su ?_
  refine su ?_
  refine su ?_
  iterate 2 refine sk b ?_
  refine su ?_
  refine su ?_
  refine su ?_
  refine su ?_
  refine sk b ?_
  refine pk (vb true) wN b ?_
  refine aw (vb true) ?_
  refine n3<|rt (vb true) ?_
  refine ⟨m.keep0,?_⟩
  simp only [Gb,d,e,f,j,b,cond_true,cond_false]
  exact rfl
 have a8:=dF b
 refine pu (vp i 0) (wS b) ?_
 refine ld (vi a.Role) (wS b) tE C ?_
 refine pu (vb (decide (a.Role=0))) (wS b) ?_
 refine mv (vb (decide (a.Role=0))) (wS b) ?_
 rcases bf (decide (a.Role=0)) with g|g
 ·have a9:=dF g
  iterate 4 refine sk g ?_
  refine pf (vb false) (wS b) g ?_
  refine mv (vb false) (wS b) ?_
  iterate 4 refine sk F1 ?_
  refine pf (vb false) (wS b) F1 ?_
  refine pf (vb false) wN b ?_
  refine aw (vb false) ?_
  refine n3<|rt (vb false) ?_
  refine ⟨m.keep0,?_⟩
  simp only [Gb,d,e,f,j,b,g,cond_true,cond_false]
  exact rfl
 have aA:=dT g
 refine pu (vp i 14) (wS g) ?_
 refine ld (vs p a.Next.length q) (wS g) uH C ?_
 refine ln (wS g) tD (H.from0 m) ?_
 refine pu (vb (decide ((a.Next.length:Int)=32))) (wS g) ?_
 refine pk (vb (decide ((a.Next.length:Int)=32))) (wS b) g ?_
 refine mv (vb (decide ((a.Next.length:Int)=32))) (wS b) ?_
 rcases bf (decide ((a.Next.length:Int)=32)) with h|h
 ·have aB:=dF h
  iterate 4 refine sk h ?_
  refine pf (vb false) (wS b) h ?_
  refine pf (vb false) wN b ?_
  refine aw (vb false) ?_
  refine n3<|rt (vb false) ?_
  refine ⟨m.keep0,?_⟩
  simp only [Gb,d,e,f,j,b,g,h,cond_true,cond_false]
  exact rfl
 have aC:=dT h
 refine pu (vp i 2) (wS h) ?_
 refine pu (vp i 2) (wS h) ?_
 refine ld (vi a.Cur.N) (wS h) tE C ?_
 refine pu (vb (decide (a.Cur.N < 4294967295))) (wS h) ?_
 refine pk (vb (decide (a.Cur.N < 4294967295))) (wS b) h ?_
 refine pf (vb (decide (a.Cur.N < 4294967295))) wN b ?_
 refine aw (vb (decide (a.Cur.N < 4294967295))) ?_
 refine n3<|rt (vb (decide (a.Cur.N < 4294967295))) ?_
 refine ⟨m.keep0,?_⟩
 simp only [Gb,d,e,f,j,b,g,h,cond_true,cond_false]
 exact rfl
theorem JL {c:PChan} (h:Gb c=true):0≤c.Cur.N∧c.Cur.N≤4294967295∧0≤c.Role∧c.Role≤1:=by
  simp only [Gb,Bool.cond_false_right,Bool.and_eq_true] at h
  have b:=Kf h.1
  have a:=Jk h.2.2.1
  exact ⟨a.1,a.2.1,by omega,by omega⟩

def GF (a:Int):(Bool):=(i_within a 4 8)
theorem LB (b:World) (a:Int) :Fn Tryz.prog 43 #[(vi a)] b (fun v d=>Keep b d∧O_4 d b.heap.size v (GF a)):=by
 refine FI (n:=5) [(vi a)] Tryz.func43 rfl rfl ?_
 refine sr<|aw (vb false) ?_
 refine nx<|mw (vi a) ?_
 refine cl wN (Hc b a 4 8) ?_
 rintro _ h ⟨e,rfl⟩
 have f:=(Ch.base b).extk e
 refine aw (vb (i_within a 4 8)) ?_
 refine n3<|rt (vb (i_within a 4 8)) ?_
 refine ⟨f.keep0,?_⟩
 have g:GF a=(i_within a 4 8):=by rfl
 rw [g]
 exact rfl

def GJ (b:Int) (a:Int):(Bool):=bif (decide (b=4)) then (decide (a≤40)) else (bif (decide (b=5)) then (decide (a=12)) else (bif (decide (b=6)) then (decide (a=12)) else (decide (a=4))))
theorem Sl (g:World) (b:Int) (a:Int) :Fn Tryz.prog 80 #[(vi b),(vi a)] g (fun v h=>Keep g h∧O_4 h g.heap.size v (GJ b a)):=by
 refine FI (n:=17) [(vi b),(vi a)] Tryz.func80 rfl rfl ?_
 refine sr<|aw (vb false) ?_
 refine n4<|mw (vi b) ?_
 refine uD<|rg<|uJ<|sr<|pu (vb (decide (b=4))) wN ?_
 refine aw (vb (decide (b=4))) ?_
 refine n2 ?_
 rcases bt (decide (b=4)) with d|d
 ·have i:=dT d
  refine ct d<|sr<|mw (vi a) ?_
  refine pu (vb (decide (a≤40))) wN ?_
  refine aw (vb (decide (a≤40))) ?_
  refine uD<|rg<|Hn<|Gd<|uP<|rt (vb (decide (a≤40))) ?_
  refine ⟨Ch.refl _ _,?_⟩
  simp only [GJ,d,cond_true,cond_false]
  exact rfl
 have j:=dF d
 refine cf d<|uK<|sr<|pu (vb (decide (b=5))) wN ?_
 refine aw (vb (decide (b=5))) ?_
 refine n2 ?_
 rcases bt (decide (b=5)) with e|e
 ·have k:=dT e
  refine ct e<|FR<|rg<|ct e<|sr<|mw (vi a) ?_
  refine pu (vb (decide (a=12))) wN ?_
  refine aw (vb (decide (a=12))) ?_
  refine uD<|rg<|Hn<|Gd<|uP<|rt (vb (decide (a=12))) ?_
  refine ⟨Ch.refl _ _,?_⟩
  simp only [GJ,d,e,cond_true,cond_false]
  exact rfl
 have l:=dF e
 refine cf e<|uG ?_
 refine pu (vb (decide (b=6))) wN ?_
 refine aw (vb (decide (b=6))) ?_
 refine n2 ?_
 rcases bt (decide (b=6)) with f|f
 ·have m:=dT f
  refine ct f<|sr<|mw (vi a) ?_
  refine pu (vb (decide (a=12))) wN ?_
  refine aw (vb (decide (a=12))) ?_
  refine uD<|rg<|Hn<|Gd<|uP<|rt (vb (decide (a=12))) ?_
  refine ⟨Ch.refl _ _,?_⟩
  simp only [GJ,d,e,f,cond_true,cond_false]
  exact rfl
 have o:=dF f
 refine cf f<|FR<|uB<|rg<|sr ?_
 refine mw (vi a) ?_
 refine pu (vb (decide (a=4))) wN ?_
 refine aw (vb (decide (a=4))) ?_
 refine n3<|rt (vb (decide (a=4))) ?_
 refine ⟨Ch.refl _ _,?_⟩
 simp only [GJ,d,e,f,cond_true,cond_false]
 exact rfl

abbrev HH (x:PFrame) (a:Option Addr) (b:Nat) (d:Option Addr) (e:Nat) (f:Option Addr) (g:Nat) (h:Option Addr) (i:Nat) (j:Option Addr) (k:Nat) (l:Option Addr) (m:Nat):List Value:=[vi x.Kind,vi x.Id,vs a x.Cn.length b,vs d x.Sn.length e,vi x.Tick,vs f x.Cookie.length g,vs h x.Proof.length i,vi x.Epoch,vi x.Seq,vs j x.Body.length k,vs l x.Tag.length m]
def MH (w:World) (v:Value) (x:(PFrame)):Prop:=∃ (a:Option Addr) (b:Nat) (d:Option Addr) (e:Nat) (f:Option Addr) (g:Nat) (h:Option Addr) (i:Nat) (j:Option Addr) (k:Nat) (l:Option Addr) (m:Nat),v=.agg #[.int .i64 x.Kind,.int .i64 x.Id,.slice a x.Cn.length b,.slice d x.Sn.length e,.int .i64 x.Tick,.slice f x.Cookie.length g,.slice h x.Proof.length i,.int .i64 x.Epoch,.int .i64 x.Seq,.slice j x.Body.length k,.slice l x.Tag.length m]∧Rd w 1 (.slice a x.Cn.length b) x.Cn.length (x.Cn.map bV)∧x.Cn.length≤1073741824∧Rd w 1 (.slice d x.Sn.length e) x.Sn.length (x.Sn.map bV)∧x.Sn.length≤1073741824∧Rd w 1 (.slice f x.Cookie.length g) x.Cookie.length (x.Cookie.map bV)∧x.Cookie.length≤1073741824∧Rd w 1 (.slice h x.Proof.length i) x.Proof.length (x.Proof.map bV)∧x.Proof.length≤1073741824∧Rd w 1 (.slice j x.Body.length k) x.Body.length (x.Body.map bV)∧x.Body.length≤1073741824∧Rd w 1 (.slice l x.Tag.length m) x.Tag.length (x.Tag.map bV)∧x.Tag.length≤1073741824
def FW (a:PFrame) (b:PFrame):(Bool):=bif (decide (a.Kind=b.Kind)) then (bif (decide (a.Id=b.Id)) then (bif (decide (a.Tick=b.Tick)) then (bif (decide (a.Epoch=b.Epoch)) then (bif (decide (a.Seq=b.Seq)) then (bif (GK a.Cn b.Cn) then (bif (GK a.Sn b.Sn) then (bif (GK a.Cookie b.Cookie) then (bif (GK a.Proof b.Proof) then (bif (GK a.Body b.Body) then ((GK a.Tag b.Tag)) else (false)) else (false)) else (false)) else (false)) else (false)) else (false)) else (false)) else (false)) else (false)) else (false)
theorem JM (t:World) (af:Value) (a:PFrame) (ax:MH t af a) (ah:Value) (b:PFrame) (ay:MH t ah b) :Fn Tryz.prog 81 #[af,ah] t (fun v ai=>Keep t ai∧O_4 ai t.heap.size v (FW a b)):=by
 obtain ⟨B,C,D,E,F,G,H,I,J,K,L,M,rfl,az,a0,a1,a2,a3,a4,a5,a6,a7,a8,a9,aA⟩:=ax
 obtain ⟨N,O,P,Q,R,S,T,V,W,X,Y,Z,rfl,aB,aC,aD,aE,aF,aG,aH,aI,aJ,aK,aL,aM⟩:=ay
 refine FI (n:=80) [(va (HH a B C D E F G H I J K L M)),(va (HH b N O P Q R S T V W X Y Z))] Tryz.func81 rfl rfl ?_
 refine sr<|bx (HH a B C D E F G H I J K L M) wN ?_
 intro m aZ ba bb aN aO
 refine bx (HH b N O P Q R S T V W X Y Z) wN ?_
 intro o aP bc bd aj r
 have q:=((Ch.base t).extk aN).extk aj
 refine aw (vb false) ?_
 refine nx<|pu (vp m 0) wN ?_
 have s:=(aO.kp aj)
 refine ld (vi a.Kind) wN tE s ?_
 refine pu (vp o 0) wN ?_
 refine ld (vi b.Kind) wN tE r ?_
 refine pu (vb (decide (a.Kind=b.Kind))) wN ?_
 refine mw (vb (decide (a.Kind=b.Kind))) ?_
 rcases bf (decide (a.Kind=b.Kind)) with d|d
 ·have be:=dF d
  iterate 5 refine sk d ?_
  refine pf (vb false) wN d ?_
  refine mw (vb false) ?_
  iterate 5 refine sk F1 ?_
  refine pf (vb false) wN F1 ?_
  refine mw (vb false) ?_
  iterate 5 refine sk F1 ?_
  refine pf (vb false) wN F1 ?_
  refine mw (vb false) ?_
  iterate 5 refine sk F1 ?_
  refine pf (vb false) wN F1 ?_
  refine mw (vb false) ?_
  iterate 5 refine sk F1 ?_
  refine pf (vb false) wN F1 ?_
  refine mw (vb false) ?_
  iterate 5 refine sk F1 ?_
  refine pf (vb false) wN F1 ?_
  refine mw (vb false) ?_
  iterate 5 refine sk F1 ?_
  refine pf (vb false) wN F1 ?_
  refine mw (vb false) ?_
  iterate 5 refine sk F1 ?_
  refine pf (vb false) wN F1 ?_
  refine mw (vb false) ?_
  iterate 5 refine sk F1 ?_
  refine pf (vb false) wN F1 ?_
  refine mw (vb false) ?_
  iterate 5 refine sk F1 ?_
  refine pf (vb false) wN F1 ?_
  refine aw (vb false) ?_
  refine n3<|rt (vb false) ?_
  refine ⟨q.keep0,?_⟩
  simp only [FW,d,cond_true,cond_false]
  exact rfl
 have bg:=dT d
 refine pu (vp m 1) (wS d) ?_
 refine ld (vi a.Id) (wS d) tE s ?_
 refine pu (vp o 1) (wS d) ?_
 refine ld (vi b.Id) (wS d) tE r ?_
 refine pu (vb (decide (a.Id=b.Id))) (wS d) ?_
 refine pk (vb (decide (a.Id=b.Id))) wN d ?_
 refine mw (vb (decide (a.Id=b.Id))) ?_
 rcases bf (decide (a.Id=b.Id)) with e|e
 ·have bh:=dF e
  iterate 5 refine sk e ?_
  refine pf (vb false) wN e ?_
  refine mw (vb false) ?_
  iterate 5 refine sk F1 ?_
  refine pf (vb false) wN F1 ?_
  refine mw (vb false) ?_
  iterate 5 refine sk F1 ?_
  refine pf (vb false) wN F1 ?_
  refine mw (vb false) ?_
  iterate 5 refine sk F1 ?_
  refine pf (vb false) wN F1 ?_
  refine mw (vb false) ?_
  iterate 5 refine sk F1 ?_
  refine pf (vb false) wN F1 ?_
  refine mw (vb false) ?_
  iterate 5 refine sk F1 ?_
  refine pf (vb false) wN F1 ?_
  refine mw (vb false) ?_
  iterate 5 refine sk F1 ?_
  refine pf (vb false) wN F1 ?_
  refine mw (vb false) ?_
  iterate 5 refine sk F1 ?_
  refine pf (vb false) wN F1 ?_
  refine mw (vb false) ?_
  iterate 5 refine sk F1 ?_
  refine pf (vb false) wN F1 ?_
  refine aw (vb false) ?_
  refine n3<|rt (vb false) ?_
  refine ⟨q.keep0,?_⟩
  simp only [FW,d,e,cond_true,cond_false]
  exact rfl
 have bi:=dT e
 refine pu (vp m 4) (wS e) ?_
 refine ld (vi a.Tick) (wS e) tE s ?_
 refine pu (vp o 4) (wS e) ?_
 refine ld (vi b.Tick) (wS e) tE r ?_
 refine pu (vb (decide (a.Tick=b.Tick))) (wS e) ?_
 refine pk (vb (decide (a.Tick=b.Tick))) wN e ?_
 refine mw (vb (decide (a.Tick=b.Tick))) ?_
 rcases bf (decide (a.Tick=b.Tick)) with f|f
 ·have bj:=dF f
  iterate 5 refine sk f ?_
  refine pf (vb false) wN f ?_
  refine mw (vb false) ?_
  iterate 5 refine sk F1 ?_
  refine pf (vb false) wN F1 ?_
  refine mw (vb false) ?_
  iterate 5 refine sk F1 ?_
  refine pf (vb false) wN F1 ?_
  refine mw (vb false) ?_
  iterate 5 refine sk F1 ?_
  refine pf (vb false) wN F1 ?_
  refine mw (vb false) ?_
  iterate 5 refine sk F1 ?_
  refine pf (vb false) wN F1 ?_
  refine mw (vb false) ?_
  iterate 5 refine sk F1 ?_
  refine pf (vb false) wN F1 ?_
  refine mw (vb false) ?_
  iterate 5 refine sk F1 ?_
  refine pf (vb false) wN F1 ?_
  refine mw (vb false) ?_
  iterate 5 refine sk F1 ?_
  refine pf (vb false) wN F1 ?_
  refine aw (vb false) ?_
  refine n3<|rt (vb false) ?_
  refine ⟨q.keep0,?_⟩
  simp only [FW,d,e,f,cond_true,cond_false]
  exact rfl
 have bk:=dT f
 refine pu (vp m 7) (wS f) ?_
 refine ld (vi a.Epoch) (wS f) tE s ?_
 refine pu (vp o 7) (wS f) ?_
 refine ld (vi b.Epoch) (wS f) tE r ?_
 refine pu (vb (decide (a.Epoch=b.Epoch))) (wS f) ?_
 refine pk (vb (decide (a.Epoch=b.Epoch))) wN f ?_
 refine mw (vb (decide (a.Epoch=b.Epoch))) ?_
 rcases bf (decide (a.Epoch=b.Epoch)) with g|g
 ·have bl:=dF g
  iterate 5 refine sk g ?_
  refine pf (vb false) wN g ?_
  refine mw (vb false) ?_
  iterate 5 refine sk F1 ?_
  refine pf (vb false) wN F1 ?_
  refine mw (vb false) ?_
  iterate 5 refine sk F1 ?_
  refine pf (vb false) wN F1 ?_
  refine mw (vb false) ?_
  iterate 5 refine sk F1 ?_
  refine pf (vb false) wN F1 ?_
  refine mw (vb false) ?_
  iterate 5 refine sk F1 ?_
  refine pf (vb false) wN F1 ?_
  refine mw (vb false) ?_
  iterate 5 refine sk F1 ?_
  refine pf (vb false) wN F1 ?_
  refine mw (vb false) ?_
  iterate 5 refine sk F1 ?_
  refine pf (vb false) wN F1 ?_
  refine aw (vb false) ?_
  refine n3<|rt (vb false) ?_
  refine ⟨q.keep0,?_⟩
  simp only [FW,d,e,f,g,cond_true,cond_false]
  exact rfl
 have bm:=dT g
 refine pu (vp m 8) (wS g) ?_
 refine ld (vi a.Seq) (wS g) tE s ?_
 refine pu (vp o 8) (wS g) ?_
 refine ld (vi b.Seq) (wS g) tE r ?_
 refine pu (vb (decide (a.Seq=b.Seq))) (wS g) ?_
 refine pk (vb (decide (a.Seq=b.Seq))) wN g ?_
 refine mw (vb (decide (a.Seq=b.Seq))) ?_
 rcases bf (decide (a.Seq=b.Seq)) with h|h
 ·have bn:=dF h
  iterate 5 refine sk h ?_
  refine pf (vb false) wN h ?_
  refine mw (vb false) ?_
  iterate 5 refine sk F1 ?_
  refine pf (vb false) wN F1 ?_
  refine mw (vb false) ?_
  iterate 5 refine sk F1 ?_
  refine pf (vb false) wN F1 ?_
  refine mw (vb false) ?_
  iterate 5 refine sk F1 ?_
  refine pf (vb false) wN F1 ?_
  refine mw (vb false) ?_
  iterate 5 refine sk F1 ?_
  refine pf (vb false) wN F1 ?_
  refine mw (vb false) ?_
  iterate 5 refine sk F1 ?_
  refine pf (vb false) wN F1 ?_
  refine aw (vb false) ?_
  refine n3<|rt (vb false) ?_
  refine ⟨q.keep0,?_⟩
  simp only [FW,d,e,f,g,h,cond_true,cond_false]
  exact rfl
 have bo:=dT h
 refine pu (vp m 2) (wS h) ?_
 refine ld (vs B a.Cn.length C) (wS h) uH s ?_
 refine pu (vp o 2) (wS h) ?_
 refine ld (vs N b.Cn.length O) (wS h) uH r ?_
 refine cl (wS h) (Kn aP _ a.Cn (FV (az.from0 q) a0) _ b.Cn (FV (aB.from0 q) aC)) ?_
 rintro _ aQ ⟨aa,rfl⟩
 have u:=q.extk aa
 refine pk (vb (GK a.Cn b.Cn)) wN h ?_
 refine mw (vb (GK a.Cn b.Cn)) ?_
 rcases bf (GK a.Cn b.Cn) with i|i
 ·iterate 5 refine sk i ?_
  refine pf (vb false) wN i ?_
  refine mw (vb false) ?_
  iterate 5 refine sk F1 ?_
  refine pf (vb false) wN F1 ?_
  refine mw (vb false) ?_
  iterate 5 refine sk F1 ?_
  refine pf (vb false) wN F1 ?_
  refine mw (vb false) ?_
  iterate 5 refine sk F1 ?_
  refine pf (vb false) wN F1 ?_
  refine mw (vb false) ?_
  iterate 5 refine sk F1 ?_
  refine pf (vb false) wN F1 ?_
  refine aw (vb false) ?_
  refine n3<|rt (vb false) ?_
  refine ⟨u.keep0,?_⟩
  simp only [FW,d,e,f,g,h,i,cond_true,cond_false]
  exact rfl
 refine pu (vp m 3) (wS i) ?_
 have ak:=(s.kp aa)
 refine ld (vs D a.Sn.length E) (wS i) uH ak ?_
 refine pu (vp o 3) (wS i) ?_
 have am:=(r.kp aa)
 refine ld (vs P b.Sn.length Q) (wS i) uH am ?_
 refine cl (wS i) (Kn aQ _ a.Sn (FV (a1.from0 u) a2) _ b.Sn (FV (aD.from0 u) aE)) ?_
 rintro _ aR ⟨ab,rfl⟩
 have w:=u.extk ab
 refine pk (vb (GK a.Sn b.Sn)) wN i ?_
 refine mw (vb (GK a.Sn b.Sn)) ?_
 rcases bf (GK a.Sn b.Sn) with j|j
 ·iterate 5 refine sk j ?_
  refine pf (vb false) wN j ?_
  refine mw (vb false) ?_
  iterate 5 refine sk F1 ?_
  refine pf (vb false) wN F1 ?_
  refine mw (vb false) ?_
  iterate 5 refine sk F1 ?_
  refine pf (vb false) wN F1 ?_
  refine mw (vb false) ?_
  iterate 5 refine sk F1 ?_
  refine pf (vb false) wN F1 ?_
  refine aw (vb false) ?_
  refine n3<|rt (vb false) ?_
  refine ⟨w.keep0,?_⟩
  simp only [FW,d,e,f,g,h,i,j,cond_true,cond_false]
  exact rfl
 refine pu (vp m 5) (wS j) ?_
 have an:=(ak.kp ab)
 refine ld (vs F a.Cookie.length G) (wS j) uH an ?_
 refine pu (vp o 5) (wS j) ?_
 have ao:=(am.kp ab)
 refine ld (vs R b.Cookie.length S) (wS j) uH ao ?_
 refine cl (wS j) (Kn aR _ a.Cookie (FV (a3.from0 w) a4) _ b.Cookie (FV (aF.from0 w) aG)) ?_
 rintro _ aS ⟨ac,rfl⟩
 have x:=w.extk ac
 refine pk (vb (GK a.Cookie b.Cookie)) wN j ?_
 refine mw (vb (GK a.Cookie b.Cookie)) ?_
 rcases bf (GK a.Cookie b.Cookie) with k|k
 ·iterate 5 refine sk k ?_
  refine pf (vb false) wN k ?_
  refine mw (vb false) ?_
  iterate 5 refine sk F1 ?_
  refine pf (vb false) wN F1 ?_
  refine mw (vb false) ?_
  iterate 5 refine sk F1 ?_
  refine pf (vb false) wN F1 ?_
  refine aw (vb false) ?_
  refine n3<|rt (vb false) ?_
  refine ⟨x.keep0,?_⟩
  simp only [FW,d,e,f,g,h,i,j,k,cond_true,cond_false]
  exact rfl
 refine pu (vp m 6) (wS k) ?_
 have ap:=(an.kp ac)
 refine ld (vs H a.Proof.length I) (wS k) uH ap ?_
 refine pu (vp o 6) (wS k) ?_
 have aq:=(ao.kp ac)
 refine ld (vs T b.Proof.length V) (wS k) uH aq ?_
 refine cl (wS k) (Kn aS _ a.Proof (FV (a5.from0 x) a6) _ b.Proof (FV (aH.from0 x) aI)) ?_
 rintro _ aT ⟨ad,rfl⟩
 have y:=x.extk ad
 refine pk (vb (GK a.Proof b.Proof)) wN k ?_
 refine mw (vb (GK a.Proof b.Proof)) ?_
 rcases bf (GK a.Proof b.Proof) with l|l
 ·iterate 5 refine sk l ?_
  refine pf (vb false) wN l ?_
  refine mw (vb false) ?_
  iterate 5 refine sk F1 ?_
  refine pf (vb false) wN F1 ?_
  refine aw (vb false) ?_
  refine n3<|rt (vb false) ?_
  refine ⟨y.keep0,?_⟩
  simp only [FW,d,e,f,g,h,i,j,k,l,cond_true,cond_false]
  exact rfl
 refine pu (vp m 9) (wS l) ?_
 have au:=(ap.kp ad)
 refine ld (vs J a.Body.length K) (wS l) uH au ?_
 refine pu (vp o 9) (wS l) ?_
 have av:=(aq.kp ad)
 refine ld (vs W b.Body.length X) (wS l) uH av ?_
 refine cl (wS l) (Kn aT _ a.Body (FV (a7.from0 y) a8) _ b.Body (FV (aJ.from0 y) aK)) ?_
 rintro _ aU ⟨ae,rfl⟩
 have A:=y.extk ae
 refine pk (vb (GK a.Body b.Body)) wN l ?_
 refine mw (vb (GK a.Body b.Body)) ?_
 rcases bf (GK a.Body b.Body) with p|p
 ·iterate 5 refine sk p ?_
  refine pf (vb false) wN p ?_
  refine aw (vb false) ?_
  refine n3<|rt (vb false) ?_
  refine ⟨A.keep0,?_⟩
  simp only [FW,d,e,f,g,h,i,j,k,l,p,cond_true,cond_false]
  exact rfl
 refine pu (vp m 10) (wS p) ?_
 have aV:=(au.kp ae)
 refine ld (vs L a.Tag.length M) (wS p) uH aV ?_
 refine pu (vp o 10) (wS p) ?_
 have aW:=(av.kp ae)
 refine ld (vs Y b.Tag.length Z) (wS p) uH aW ?_
 refine cl (wS p) (Kn aU _ a.Tag (FV (a9.from0 A) aA) _ b.Tag (FV (aL.from0 A) aM)) ?_
 rintro _ bp ⟨aX,rfl⟩
 have aY:=A.extk aX
 refine pk (vb (GK a.Tag b.Tag)) wN p ?_
 refine aw (vb (GK a.Tag b.Tag)) ?_
 refine n3<|rt (vb (GK a.Tag b.Tag)) ?_
 refine ⟨aY.keep0,?_⟩
 simp only [FW,d,e,f,g,h,i,j,k,l,p,cond_true,cond_false]
 exact rfl

abbrev JR:List Value:=[(vi 0),(vi 0),(vs none 0 0),(vs none 0 0),(vi 0),(vs none 0 0),(vs none 0 0),(vi 0),(vi 0),(vs none 0 0),(vs none 0 0)]
theorem JG:∀ w,(zeroValue 42).run Tryz.prog w=.ok (va JR) w:=fun w=>by kernel_rfl
theorem FD:∀ w,(sizeOf 42).run Tryz.prog w=.ok 11 w:=fun w=>by kernel_rfl
theorem Gg:∀ w,(isAgg 42).run Tryz.prog w=.ok true w:=fun w=>by kernel_rfl
theorem IN {w:World} {x:PFrame} {a:Option Addr} {b:Nat} {d:Option Addr} {e:Nat} {f:Option Addr} {g:Nat} {h:Option Addr} {i:Nat} {j:Option Addr} {k:Nat} {l:Option Addr} {m:Nat} (o:Rd w 1 (.slice a x.Cn.length b) x.Cn.length (x.Cn.map bV)) (p:x.Cn.length≤1073741824) (q:Rd w 1 (.slice d x.Sn.length e) x.Sn.length (x.Sn.map bV)) (r:x.Sn.length≤1073741824) (s:Rd w 1 (.slice f x.Cookie.length g) x.Cookie.length (x.Cookie.map bV)) (t:x.Cookie.length≤1073741824) (u:Rd w 1 (.slice h x.Proof.length i) x.Proof.length (x.Proof.map bV)) (v:x.Proof.length≤1073741824) (y:Rd w 1 (.slice j x.Body.length k) x.Body.length (x.Body.map bV)) (A:x.Body.length≤1073741824) (B:Rd w 1 (.slice l x.Tag.length m) x.Tag.length (x.Tag.map bV)) (C:x.Tag.length≤1073741824):MH w (va (HH x a b d e f g h i j k l m)) x:=⟨_,_,_,_,_,_,_,_,_,_,_,_,rfl,o,p,q,r,s,t,u,v,y,A,B,C⟩
def i_FrameOk (a:PFrame):(Bool):=bif (decide (a.Kind=1)) then (bif (i_within a.Id 1 9) then (bif (FT a.Cn) then ((FW a {Kind:=a.Kind,Id:=a.Id,Cn:=a.Cn,Sn:=[],Tick:=0,Cookie:=[],Proof:=[],Epoch:=0,Seq:=0,Body:=[],Tag:=[]:PFrame})) else (false)) else (false)) else (bif (decide (a.Kind=2)) then (bif (FT a.Cn) then (bif (FT a.Sn) then (bif (i_within a.Tick 0 1000000) then (bif (decide ((a.Cookie.length:Int)=16)) then ((FW a {Kind:=a.Kind,Id:=0,Cn:=a.Cn,Sn:=a.Sn,Tick:=a.Tick,Cookie:=a.Cookie,Proof:=[],Epoch:=0,Seq:=0,Body:=[],Tag:=[]:PFrame})) else (false)) else (false)) else (false)) else (false)) else (bif (decide (a.Kind=3)) then (bif (i_within a.Id 1 9) then (bif (FT a.Cn) then (bif (FT a.Sn) then (bif (i_within a.Tick 0 1000000) then (bif (decide ((a.Cookie.length:Int)=16)) then (bif (decide ((a.Proof.length:Int)=16)) then ((FW a {Kind:=a.Kind,Id:=a.Id,Cn:=a.Cn,Sn:=a.Sn,Tick:=a.Tick,Cookie:=a.Cookie,Proof:=a.Proof,Epoch:=0,Seq:=0,Body:=[],Tag:=[]:PFrame})) else (false)) else (false)) else (false)) else (false)) else (false)) else (false)) else (bif (GF a.Kind) then (bif (FT a.Sn) then (bif (i_within a.Epoch 0 4294967295) then (bif (i_within a.Seq 0 281474976710655) then (bif (decide ((a.Tag.length:Int)=16)) then (bif (GJ a.Kind (a.Body.length:Int)) then ((FW a {Kind:=a.Kind,Id:=0,Cn:=[],Sn:=a.Sn,Tick:=0,Cookie:=[],Proof:=[],Epoch:=a.Epoch,Seq:=a.Seq,Body:=a.Body,Tag:=a.Tag:PFrame})) else (false)) else (false)) else (false)) else (false)) else (false)) else (false))))
theorem LX (az:World) (aS:Value) (a:PFrame) (b3:MH az aS a) :Fn Tryz.prog 44 #[aS] az (fun v o=>Keep az o∧O_4 o az.heap.size v (i_FrameOk a)):=by
 obtain ⟨i,j,f,g,s,u,J,K,C,D,L,M,rfl,ac,ad,ae,af,am,au,av,a0,ax,a1,ay,a2⟩:=b3
 refine FI (n:=165) [(va (HH a i j f g s u J K C D L M))] Tryz.func44 rfl rfl ?_
 refine sr<|bx (HH a i j f g s u J K C D L M) wN ?_
 intro d dh di r ah aT
 refine aw (vb false) ?_
 refine nx<|pu (vp d 0) wN ?_
 refine ld (vi a.Kind) wN tE aT ?_
 refine pu (va [(vi a.Kind),(vi 0),(vs none 0 0),(vs none 0 0),(vi 0),(vs none 0 0),(vs none 0 0),(vi 0),(vi 0),(vs none 0 0),(vs none 0 0)]) wN ?_
 refine al JR wN JG ?_
 intro b dj l dk aU b4
 refine sv [(vi a.Kind),(vi 0),(vs none 0 0),(vs none 0 0),(vi 0),(vs none 0 0),(vs none 0 0),(vi 0),(vi 0),(vs none 0 0),(vs none 0 0)] wN FD b4 ?_
 intro a5 aV a6 dl
 have a7:=(((Ch.base az).extk ah).extk aU).ext aV (fun k hk=>by subst hk;exact nT ah.size l)
 refine nx<|aw (vb false) ?_
 refine uD<|rg<|uK<|uJ<|sr<|pu (vp d 0) wN ?_
 have x:=((aT.kp aU).ch aV (nN (nL r (l))))
 refine ld (vi a.Kind) wN tE x ?_
 refine pu (vb (decide (a.Kind=1))) wN ?_
 refine aw (vb (decide (a.Kind=1))) ?_
 refine n2 ?_
 rcases bt (decide (a.Kind=1)) with p|p
 ·have dm:=dT p
  refine ct p<|uK<|Ga ([(12,[],[],(fun _ v _=>v=(vp d 1))),(13,[],[0],(fun _ v _=>v=(vi a.Id))),(14,[],[],(fun _ v _=>v=(vp d 2))),(15,[],[2],(fun _ v _=>v=(vs i a.Cn.length j))),(16,[],[0,1],(fun _ v _=>v=(vp b 1))),(170,[],[0,1,4],(fun _ _ w=>BK w b 42 1 ([(vi a.Id)])))]:GV) (fun lf o=>Ch (fun k=>k=b) a5 o∧RK lf o b 42 [(vi a.Kind),(vi 0),(vs none 0 0),(vs none 0 0),(vi 0),(vs none 0 0),(vs none 0 0),(vi 0),(vi 0),(vs none 0 0),(vs none 0 0)] [(5,1,1)]) [(5,TK b 42 1 1)] GU rfl (by kernel_rfl) (by kernel_rfl) ?_ (fun _ _ h=>⟨h.to _,RK.z a6 h⟩) (fun _ _ _ _ h mo k=>by obtain ⟨hc,m⟩:=h;exact ⟨hc.comp k (fun _ _ q=>q.elim),m.kp mo k⟩) ⟨(fun _ _ w o h mo hj t=>by obtain ⟨hc,m⟩:=h;exact ⟨hc.comp t.1 (fun _ _ q=>q),m.st mo hj (.head _) t⟩),trivial⟩ ?_ ?_ ?_
  ·exact ⟨hV,hE,⟨hV,hE,⟨hV,hE,⟨hV,hE,⟨hV,hE,⟨sK,hE,trivial⟩⟩⟩⟩⟩⟩
  ·exact ⟨⟨.inr hV,⟨.inr hV,⟨.inr hV,⟨.inr hV,⟨.inr hV,⟨.inl rfl,trivial⟩⟩⟩⟩⟩⟩,trivial⟩
  ·refine ⟨?_,⟨?_,⟨?_,⟨?_,⟨?_,⟨?_,trivial⟩⟩⟩⟩⟩⟩
   ·rintro lf e ⟨dn,dp⟩ ⟨dq,-⟩
    rintro _ _ _ _ _ _
    refine sw<|pu (vp d 1) wN ?_
    exact f1
   ·rintro lf e ⟨b5,dr⟩ ⟨ds,-⟩
    rintro _ rfl _ _ _ _ _
    refine sw ?_
    have b6:=(x.ch b5 (nN (nL r (l))))
    refine ld (vi a.Id) wN tE b6 ?_
    exact f1
   ·rintro lf e ⟨dt,du⟩ ⟨dv,-⟩
    rintro _ _ _ _ _ _
    refine sw<|pu (vp d 2) wN ?_
    exact f1
   ·rintro lf e ⟨b7,dw⟩ ⟨dx,-⟩
    rintro _ _ _ rfl _ _ _
    refine sw ?_
    have b8:=(x.ch b7 (nN (nL r (l))))
    refine ld (vs i a.Cn.length j) wN uH b8 ?_
    exact f1
   ·rintro lf e ⟨dy,dz⟩ ⟨d0,-⟩
    rintro _ rfl _ rfl _ _ _ _
    refine sw<|pu (vp b 1) wN ?_
    exact f1
   ·rintro lf e ⟨d1,b9⟩ ⟨d2,-⟩
    rintro _ rfl _ rfl _ _ _ rfl _
    exact sw<|stK (vi a.Id) [(vi a.Id)] wN GI b9 (fun _ h=>h) (fun _ t=>t)
  ·rintro lf e ⟨aW,bA⟩
   have bB:=a7.ext aW (fun k hk=>by subst hk;exact nT ah.size l)
   rintro _ rfl _ rfl _ rfl _ rfl _ rfl _ bC
   have bD:Blk e b 42 [(vi a.Kind),(vi a.Id),(vs none 0 0),(vs none 0 0),(vi 0),(vs none 0 0),(vs none 0 0),(vi 0),(vi 0),(vs none 0 0),(vs none 0 0)]:=RK.fin bA [(1,[(vi a.Id)])] ⟨bC,trivial⟩
   refine sw<|pu (vp b 2) wN ?_
   refine st (vs i a.Cn.length j) [(vs i a.Cn.length j)] [(vi a.Kind),(vi a.Id),(vs i a.Cn.length j),(vs none 0 0),(vi 0),(vs none 0 0),(vs none 0 0),(vi 0),(vi 0),(vs none 0 0),(vs none 0 0)] wN GY bD ?_
   intro y aX bE d3
   have bF:=bB.ext aX (fun k hk=>by subst hk;exact nT ah.size l)
   refine uD<|rg<|uG ?_
   refine pu (vp d 1) wN ?_
   have aY:=((x.ch aW (nN (nL r (l)))).ch aX (nN (nL r (l))))
   refine ld (vi a.Id) wN tE aY ?_
   refine cl wN (Hc y a.Id 1 9) ?_
   rintro _ ap ⟨a9,rfl⟩
   have aA:=bF.extk a9
   refine mw (vb (i_within a.Id 1 9)) ?_
   rcases bf (i_within a.Id 1 9) with X|X
   ·have d4:=Gh X
    iterate 3 refine sk X ?_
    refine pf (vb false) wN X ?_
    refine aw (vb false) ?_
    refine uD<|uB<|rg<|sr ?_
    refine mw (vb false) ?_
    refine mw (vb false) ?_
    iterate 3 refine sk F1 ?_
    refine pf (vb false) wN F1 ?_
    refine aw (vb false) ?_
    refine n3<|rt (vb false) ?_
    refine ⟨aA.keep0,?_⟩
    simp only [i_FrameOk,p,X,cond_true,cond_false]
    exact rfl
   have d5:=FU X
   refine pu (vp d 2) (wS X) ?_
   have aZ:=(aY.kp a9)
   refine ld (vs i a.Cn.length j) (wS X) uH aZ ?_
   refine cl (wS X) (Iv ap _ a.Cn (FV (ac.from0 aA) ad)) ?_
   rintro _ an ⟨aB,rfl⟩
   have aj:=aA.extk aB
   refine pk (vb (FT a.Cn)) wN X ?_
   refine aw (vb (FT a.Cn)) ?_
   refine uD<|uB<|rg<|sr ?_
   refine mw (vb (FT a.Cn)) ?_
   refine mw (vb (FT a.Cn)) ?_
   rcases bf (FT a.Cn) with Y|Y
   ·have d6:=Is Y
    iterate 3 refine sk Y ?_
    refine pf (vb false) wN Y ?_
    refine aw (vb false) ?_
    refine n3<|rt (vb false) ?_
    refine ⟨aj.keep0,?_⟩
    simp only [i_FrameOk,p,X,Y,cond_true,cond_false]
    exact rfl
   have d7:=Ir Y
   have bG:=(aZ.kp aB)
   refine lN (HH a i j f g s u J K C D L M) (wS Y) Gg FD bG ?_
   have bH:=((bE.kp a9).kp aB)
   refine lN [(vi a.Kind),(vi a.Id),(vs i a.Cn.length j),(vs none 0 0),(vi 0),(vs none 0 0),(vs none 0 0),(vi 0),(vi 0),(vs none 0 0),(vs none 0 0)] (wS Y) Gg FD bH ?_
   refine cl (wS Y) (JM an _ a (IN (ac.from0 aj) ad (ae.from0 aj) af (am.from0 aj) au (av.from0 aj) a0 (ax.from0 aj) a1 (ay.from0 aj) a2) _ _ (show MH an (va [(vi a.Kind),(vi a.Id),(vs i a.Cn.length j),(vs none 0 0),(vi 0),(vs none 0 0),(vs none 0 0),(vi 0),(vi 0),(vs none 0 0),(vs none 0 0)]) {Kind:=a.Kind,Id:=a.Id,Cn:=a.Cn,Sn:=[],Tick:=0,Cookie:=[],Proof:=[],Epoch:=0,Seq:=0,Body:=[],Tag:=[]:PFrame} from ⟨_,_,_,_,_,_,_,_,_,_,_,_,rfl,(ac.from0 aj),ad,(Rd.nil _ _),(by simp),(Rd.nil _ _),(by simp),(Rd.nil _ _),(by simp),(Rd.nil _ _),(by simp),(Rd.nil _ _),(by simp)⟩)) ?_
   rintro _ aq ⟨bI,rfl⟩
   have bJ:=aj.extk bI
   refine pk (vb (FW a {Kind:=a.Kind,Id:=a.Id,Cn:=a.Cn,Sn:=[],Tick:=0,Cookie:=[],Proof:=[],Epoch:=0,Seq:=0,Body:=[],Tag:=[]:PFrame})) wN Y ?_
   refine aw (vb (FW a {Kind:=a.Kind,Id:=a.Id,Cn:=a.Cn,Sn:=[],Tick:=0,Cookie:=[],Proof:=[],Epoch:=0,Seq:=0,Body:=[],Tag:=[]:PFrame})) ?_
   refine n3<|rt (vb (FW a {Kind:=a.Kind,Id:=a.Id,Cn:=a.Cn,Sn:=[],Tick:=0,Cookie:=[],Proof:=[],Epoch:=0,Seq:=0,Body:=[],Tag:=[]:PFrame})) ?_
   refine ⟨bJ.keep0,?_⟩
   simp only [i_FrameOk,p,X,Y,cond_true,cond_false]
   exact rfl
 have d8:=dF p
 refine cf p<|sr<|pu (vp d 0) wN ?_
 refine ld (vi a.Kind) wN tE x ?_
 refine pu (vb (decide (a.Kind=2))) wN ?_
 refine aw (vb (decide (a.Kind=2))) ?_
 refine n2 ?_
 rcases bt (decide (a.Kind=2)) with A|A
 ·have d9:=dT A
  refine ct A<|uK<|Ga ([(30,[],[],(fun _ v _=>v=(vp d 2))),(31,[],[0],(fun _ v _=>v=(vs i a.Cn.length j))),(32,[],[],(fun _ v _=>v=(vp d 3))),(33,[],[2],(fun _ v _=>v=(vs f a.Sn.length g))),(34,[],[],(fun _ v _=>v=(vp d 4))),(35,[],[4],(fun _ v _=>v=(vi a.Tick))),(36,[],[],(fun _ v _=>v=(vp d 5))),(37,[],[6],(fun _ v _=>v=(vs s a.Cookie.length u))),(38,[],[0,1],(fun _ v _=>v=(vp b 2))),(174,[],[0,1,8],(fun _ _ w=>BK w b 42 2 ([(vs i a.Cn.length j)]))),(39,[],[0,1,2,3,8,9],(fun _ v _=>v=(vp b 3))),(176,[],[0,1,2,3,8,9,10],(fun _ _ w=>BK w b 42 3 ([(vs f a.Sn.length g)]))),(40,[],[0,1,2,3,4,5,8,9,10,11],(fun _ v _=>v=(vp b 4))),(178,[],[0,1,2,3,4,5,8,9,10,11,12],(fun _ _ w=>BK w b 42 4 ([(vi a.Tick)])))]:GV) (fun lf o=>Ch (fun k=>k=b) a5 o∧RK lf o b 42 [(vi a.Kind),(vi 0),(vs none 0 0),(vs none 0 0),(vi 0),(vs none 0 0),(vs none 0 0),(vi 0),(vi 0),(vs none 0 0),(vs none 0 0)] [(9,2,1),(11,3,1),(13,4,1)]) [(9,TK b 42 2 1),(11,TK b 42 3 1),(13,TK b 42 4 1)] GU rfl (by kernel_rfl) (by kernel_rfl) ?_ (fun _ _ h=>⟨h.to _,RK.z a6 h⟩) (fun _ _ _ _ h mo k=>by obtain ⟨hc,m⟩:=h;exact ⟨hc.comp k (fun _ _ q=>q.elim),m.kp mo k⟩) ⟨(fun _ _ w o h mo hj t=>by obtain ⟨hc,m⟩:=h;exact ⟨hc.comp t.1 (fun _ _ q=>q),m.st mo hj (.head _) t⟩),⟨(fun _ _ w o h mo hj t=>by obtain ⟨hc,m⟩:=h;exact ⟨hc.comp t.1 (fun _ _ q=>q),m.st mo hj (.tail _ (.head _)) t⟩),⟨(fun _ _ w o h mo hj t=>by obtain ⟨hc,m⟩:=h;exact ⟨hc.comp t.1 (fun _ _ q=>q),m.st mo hj (.tail _ (.tail _ (.head _))) t⟩),trivial⟩⟩⟩ ?_ ?_ ?_
  ·exact ⟨hV,hE,⟨hV,hE,⟨hV,hE,⟨hV,hE,⟨hV,hE,⟨hV,hE,⟨hV,hE,⟨hV,hE,⟨hV,hE,⟨sK,hE,⟨hV,hE,⟨sK,hE,⟨hV,hE,⟨sK,hE,trivial⟩⟩⟩⟩⟩⟩⟩⟩⟩⟩⟩⟩⟩⟩
  ·exact ⟨⟨.inr hV,⟨.inr hV,⟨.inr hV,⟨.inr hV,⟨.inr hV,⟨.inr hV,⟨.inr hV,⟨.inr hV,⟨.inr hV,⟨.inl rfl,⟨.inr hV,⟨.inr (sKs 1 (.inl rfl)),⟨.inr hV,⟨.inr (sKs 1 (.inl rfl)),trivial⟩⟩⟩⟩⟩⟩⟩⟩⟩⟩⟩⟩⟩⟩,⟨⟨.inr hV,⟨.inr hV,⟨.inr hV,⟨.inr hV,⟨.inr hV,⟨.inr hV,⟨.inr hV,⟨.inr hV,⟨.inr hV,⟨.inr (sKs 1 (.inr rfl)),⟨.inr hV,⟨.inl rfl,⟨.inr hV,⟨.inr (sKs 1 (.inl rfl)),trivial⟩⟩⟩⟩⟩⟩⟩⟩⟩⟩⟩⟩⟩⟩,⟨⟨.inr hV,⟨.inr hV,⟨.inr hV,⟨.inr hV,⟨.inr hV,⟨.inr hV,⟨.inr hV,⟨.inr hV,⟨.inr hV,⟨.inr (sKs 1 (.inr rfl)),⟨.inr hV,⟨.inr (sKs 1 (.inr rfl)),⟨.inr hV,⟨.inl rfl,trivial⟩⟩⟩⟩⟩⟩⟩⟩⟩⟩⟩⟩⟩⟩,trivial⟩⟩⟩
  ·refine ⟨?_,⟨?_,⟨?_,⟨?_,⟨?_,⟨?_,⟨?_,⟨?_,⟨?_,⟨?_,⟨?_,⟨?_,⟨?_,⟨?_,trivial⟩⟩⟩⟩⟩⟩⟩⟩⟩⟩⟩⟩⟩⟩
   ·rintro lf e ⟨dA,dB⟩ ⟨dC,dD,dE,-⟩
    iterate 14 intro _
    refine sw<|pu (vp d 2) wN ?_
    exact f1
   ·rintro lf e ⟨bK,dG⟩ ⟨dH,dI,dJ,-⟩
    rintro _ rfl;iterate 13 intro _
    refine sw ?_
    have bL:=(x.ch bK (nN (nL r (l))))
    refine ld (vs i a.Cn.length j) wN uH bL ?_
    exact f1
   ·rintro lf e ⟨dK,dL⟩ ⟨dM,dN,dO,-⟩
    iterate 14 intro _
    refine sw<|pu (vp d 3) wN ?_
    exact f1
   ·rintro lf e ⟨bM,dP⟩ ⟨dQ,dR,dS,-⟩
    rintro _ _ _ rfl _ _ _ _ _ _ _ _ _ _ _
    refine sw ?_
    have bN:=(x.ch bM (nN (nL r (l))))
    refine ld (vs f a.Sn.length g) wN uH bN ?_
    exact f1
   ·rintro lf e ⟨dU,dV⟩ ⟨dW,dX,dY,-⟩
    iterate 14 intro _
    refine sw<|pu (vp d 4) wN ?_
    exact f1
   ·rintro lf e ⟨bO,dZ⟩ ⟨ea,ec,ed,-⟩
    rintro _ _ _ _ _ rfl _ _ _ _ _ _ _ _ _
    refine sw ?_
    have bP:=(x.ch bO (nN (nL r (l))))
    refine ld (vi a.Tick) wN tE bP ?_
    exact f1
   ·rintro lf e ⟨ee,ef⟩ ⟨eg,eh,ej,-⟩
    iterate 14 intro _
    refine sw<|pu (vp d 5) wN ?_
    exact f1
   ·rintro lf e ⟨bQ,ek⟩ ⟨em,en,eo,-⟩
    rintro _ _ _ _ _ _ _ rfl _ _ _ _ _ _ _
    refine sw ?_
    have bR:=(x.ch bQ (nN (nL r (l))))
    refine ld (vs s a.Cookie.length u) wN uH bR ?_
    exact f1
   ·rintro lf e ⟨ep,er⟩ ⟨es,et,eu,-⟩
    rintro _ rfl _ rfl _ _ _ _ _ _ _ _ _ _ _ _
    refine sw<|pu (vp b 2) wN ?_
    exact f1
   ·rintro lf e ⟨ew,bS⟩ ⟨ex,ey,ez,-⟩
    rintro _ rfl _ rfl _ _ _ _ _ _ _ rfl _ _ _ _ _
    exact sw<|stK (vs i a.Cn.length j) [(vs i a.Cn.length j)] wN GY bS (fun _ h=>h) (fun _ t=>t)
   ·rintro lf e ⟨e0,e1⟩ ⟨e2,e3,e4,-⟩
    rintro _ rfl _ rfl _ rfl _ rfl _ _ _ _ _ rfl _ _ _ _ _ _
    refine sw<|pu (vp b 3) wN ?_
    exact f1
   ·rintro lf e ⟨e5,bT⟩ ⟨e6,e7,e8,-⟩
    rintro _ rfl _ rfl _ rfl _ rfl _ _ _ _ _ rfl _ _ _ rfl _ _ _
    exact sw<|stK (vs f a.Sn.length g) [(vs f a.Sn.length g)] wN GY bT (fun _ h=>h) (fun _ t=>t)
   ·rintro lf e ⟨e9,eA⟩ ⟨eB,eC,eD,-⟩
    rintro _ rfl _ rfl _ rfl _ rfl _ rfl _ rfl _ _ _ rfl _ _ _ rfl _ _ _ _
    refine sw<|pu (vp b 4) wN ?_
    exact f1
   ·rintro lf e ⟨eE,bU⟩ ⟨eF,eG,eH,-⟩
    rintro _ rfl _ rfl _ rfl _ rfl _ rfl _ rfl _ _ _ rfl _ _ _ rfl _ _ _ rfl _
    exact sw<|stK (vi a.Tick) [(vi a.Tick)] wN GI bU (fun _ h=>h) (fun _ t=>t)
  ·rintro lf e ⟨ba,bW⟩
   have bX:=a7.ext ba (fun k hk=>by subst hk;exact nT ah.size l)
   iterate 9 rintro _ rfl
   rintro _ bY _ rfl _ bZ _ rfl _ ca
   have cb:Blk e b 42 [(vi a.Kind),(vi 0),(vs i a.Cn.length j),(vs f a.Sn.length g),(vi a.Tick),(vs none 0 0),(vs none 0 0),(vi 0),(vi 0),(vs none 0 0),(vs none 0 0)]:=RK.fin bW [(2,[(vs i a.Cn.length j)]),(3,[(vs f a.Sn.length g)]),(4,[(vi a.Tick)])] ⟨bY,bZ,ca,trivial⟩
   refine sw<|pu (vp b 5) wN ?_
   refine st (vs s a.Cookie.length u) [(vs s a.Cookie.length u)] [(vi a.Kind),(vi 0),(vs i a.Cn.length j),(vs f a.Sn.length g),(vi a.Tick),(vs s a.Cookie.length u),(vs none 0 0),(vi 0),(vi 0),(vs none 0 0),(vs none 0 0)] wN GY cb ?_
   intro y bb cc eI
   have bc:=bX.ext bb (fun k hk=>by subst hk;exact nT ah.size l)
   refine uD<|rg<|uG ?_
   refine pu (vp d 2) wN ?_
   have bd:=((x.ch ba (nN (nL r (l)))).ch bb (nN (nL r (l))))
   refine ld (vs i a.Cn.length j) wN uH bd ?_
   refine cl wN (Iv y _ a.Cn (FV (ac.from0 bc) ad)) ?_
   rintro _ ap ⟨aC,rfl⟩
   have aD:=bc.extk aC
   refine mw (vb (FT a.Cn)) ?_
   rcases bf (FT a.Cn) with N|N
   ·have eJ:=Is N
    iterate 3 refine sk N ?_
    refine pf (vb false) wN N ?_
    refine mw (vb false) ?_
    iterate 3 refine sk F1 ?_
    refine pf (vb false) wN F1 ?_
    refine mw (vb false) ?_
    iterate 4 refine sk F1 ?_
    refine pf (vb false) wN F1 ?_
    refine aw (vb false) ?_
    refine uD<|uB<|rg<|sr ?_
    refine mw (vb false) ?_
    refine mw (vb false) ?_
    iterate 3 refine sk F1 ?_
    refine pf (vb false) wN F1 ?_
    refine aw (vb false) ?_
    refine n3<|rt (vb false) ?_
    refine ⟨aD.keep0,?_⟩
    simp only [i_FrameOk,p,A,N,cond_true,cond_false]
    exact rfl
   have eK:=Ir N
   refine pu (vp d 3) (wS N) ?_
   have be:=(bd.kp aC)
   refine ld (vs f a.Sn.length g) (wS N) uH be ?_
   refine cl (wS N) (Iv ap _ a.Sn (FV (ae.from0 aD) af)) ?_
   rintro _ an ⟨aE,rfl⟩
   have bg:=aD.extk aE
   refine pk (vb (FT a.Sn)) wN N ?_
   refine mw (vb (FT a.Sn)) ?_
   rcases bf (FT a.Sn) with S|S
   ·have eL:=Is S
    iterate 3 refine sk S ?_
    refine pf (vb false) wN S ?_
    refine mw (vb false) ?_
    iterate 4 refine sk F1 ?_
    refine pf (vb false) wN F1 ?_
    refine aw (vb false) ?_
    refine uD<|uB<|rg<|sr ?_
    refine mw (vb false) ?_
    refine mw (vb false) ?_
    iterate 3 refine sk F1 ?_
    refine pf (vb false) wN F1 ?_
    refine aw (vb false) ?_
    refine n3<|rt (vb false) ?_
    refine ⟨bg.keep0,?_⟩
    simp only [i_FrameOk,p,A,N,S,cond_true,cond_false]
    exact rfl
   have eM:=Ir S
   refine pu (vp d 4) (wS S) ?_
   have bh:=(be.kp aE)
   refine ld (vi a.Tick) (wS S) tE bh ?_
   refine cl (wS S) (Hc an a.Tick 0 1000000) ?_
   rintro _ aq ⟨aF,rfl⟩
   have T:=bg.extk aF
   refine pk (vb (i_within a.Tick 0 1000000)) wN S ?_
   refine mw (vb (i_within a.Tick 0 1000000)) ?_
   rcases bf (i_within a.Tick 0 1000000) with V|V
   ·have eN:=Gh V
    iterate 4 refine sk V ?_
    refine pf (vb false) wN V ?_
    refine aw (vb false) ?_
    refine uD<|uB<|rg<|sr ?_
    refine mw (vb false) ?_
    refine mw (vb false) ?_
    iterate 3 refine sk F1 ?_
    refine pf (vb false) wN F1 ?_
    refine aw (vb false) ?_
    refine n3<|rt (vb false) ?_
    refine ⟨T.keep0,?_⟩
    simp only [i_FrameOk,p,A,N,S,V,cond_true,cond_false]
    exact rfl
   have eO:=FU V
   refine pu (vp d 5) (wS V) ?_
   have bi:=(bh.kp aF)
   refine ld (vs s a.Cookie.length u) (wS V) uH bi ?_
   refine ln (wS V) tD (am.from0 T) ?_
   refine pu (vb (decide ((a.Cookie.length:Int)=16))) (wS V) ?_
   refine pk (vb (decide ((a.Cookie.length:Int)=16))) wN V ?_
   refine aw (vb (decide ((a.Cookie.length:Int)=16))) ?_
   refine uD<|uB<|rg<|sr ?_
   refine mw (vb (decide ((a.Cookie.length:Int)=16))) ?_
   refine mw (vb (decide ((a.Cookie.length:Int)=16))) ?_
   rcases bf (decide ((a.Cookie.length:Int)=16)) with Z|Z
   ·have eP:=dF Z
    iterate 3 refine sk Z ?_
    refine pf (vb false) wN Z ?_
    refine aw (vb false) ?_
    refine n3<|rt (vb false) ?_
    refine ⟨T.keep0,?_⟩
    simp only [i_FrameOk,p,A,N,S,V,Z,cond_true,cond_false]
    exact rfl
   have eQ:=dT Z
   refine lN (HH a i j f g s u J K C D L M) (wS Z) Gg FD bi ?_
   have cd:=(((cc.kp aC).kp aE).kp aF)
   refine lN [(vi a.Kind),(vi 0),(vs i a.Cn.length j),(vs f a.Sn.length g),(vi a.Tick),(vs s a.Cookie.length u),(vs none 0 0),(vi 0),(vi 0),(vs none 0 0),(vs none 0 0)] (wS Z) Gg FD cd ?_
   refine cl (wS Z) (JM aq _ a (IN (ac.from0 T) ad (ae.from0 T) af (am.from0 T) au (av.from0 T) a0 (ax.from0 T) a1 (ay.from0 T) a2) _ _ (show MH aq (va [(vi a.Kind),(vi 0),(vs i a.Cn.length j),(vs f a.Sn.length g),(vi a.Tick),(vs s a.Cookie.length u),(vs none 0 0),(vi 0),(vi 0),(vs none 0 0),(vs none 0 0)]) {Kind:=a.Kind,Id:=0,Cn:=a.Cn,Sn:=a.Sn,Tick:=a.Tick,Cookie:=a.Cookie,Proof:=[],Epoch:=0,Seq:=0,Body:=[],Tag:=[]:PFrame} from ⟨_,_,_,_,_,_,_,_,_,_,_,_,rfl,(ac.from0 T),ad,(ae.from0 T),af,(am.from0 T),au,(Rd.nil _ _),(by simp),(Rd.nil _ _),(by simp),(Rd.nil _ _),(by simp)⟩)) ?_
   rintro _ a3 ⟨ce,rfl⟩
   have cg:=T.extk ce
   refine pk (vb (FW a {Kind:=a.Kind,Id:=0,Cn:=a.Cn,Sn:=a.Sn,Tick:=a.Tick,Cookie:=a.Cookie,Proof:=[],Epoch:=0,Seq:=0,Body:=[],Tag:=[]:PFrame})) wN Z ?_
   refine aw (vb (FW a {Kind:=a.Kind,Id:=0,Cn:=a.Cn,Sn:=a.Sn,Tick:=a.Tick,Cookie:=a.Cookie,Proof:=[],Epoch:=0,Seq:=0,Body:=[],Tag:=[]:PFrame})) ?_
   refine n3<|rt (vb (FW a {Kind:=a.Kind,Id:=0,Cn:=a.Cn,Sn:=a.Sn,Tick:=a.Tick,Cookie:=a.Cookie,Proof:=[],Epoch:=0,Seq:=0,Body:=[],Tag:=[]:PFrame})) ?_
   refine ⟨cg.keep0,?_⟩
   simp only [i_FrameOk,p,A,N,S,V,Z,cond_true,cond_false]
   exact rfl
 have eR:=dF A
 refine cf A<|sr<|pu (vp d 0) wN ?_
 refine ld (vi a.Kind) wN tE x ?_
 refine pu (vb (decide (a.Kind=3))) wN ?_
 refine aw (vb (decide (a.Kind=3))) ?_
 refine n2 ?_
 rcases bf (decide (a.Kind=3)) with B|B
 ·have eS:=dF B
  refine cf B<|sr<|pu (vp d 0) wN ?_
  refine ld (vi a.Kind) wN tE x ?_
  refine cl wN (LB a5 a.Kind) ?_
  rintro _ e ⟨ao,rfl⟩
  have bj:=a7.extk ao
  refine aw (vb (GF a.Kind)) ?_
  refine n2 ?_
  rcases bf (GF a.Kind) with ai|ai
  ·refine cf ai<|FR<|uB<|rg<|sr ?_
   refine mw (vb false) ?_
   refine mw (vb false) ?_
   iterate 3 refine sk F1 ?_
   refine pf (vb false) wN F1 ?_
   refine aw (vb false) ?_
   refine n3<|rt (vb false) ?_
   refine ⟨bj.keep0,?_⟩
   simp only [i_FrameOk,p,A,B,ai,cond_true,cond_false]
   exact rfl
  refine ct ai<|uK ?_
  have ci:=(a6.kp ao)
  refine Ga ([(117,[],[],(fun _ v _=>v=(vp d 3))),(118,[],[0],(fun _ v _=>v=(vs f a.Sn.length g))),(119,[],[],(fun _ v _=>v=(vp d 7))),(120,[],[2],(fun _ v _=>v=(vi a.Epoch))),(121,[],[],(fun _ v _=>v=(vp d 8))),(122,[],[4],(fun _ v _=>v=(vi a.Seq))),(123,[],[],(fun _ v _=>v=(vp d 9))),(124,[],[6],(fun _ v _=>v=(vs C a.Body.length D))),(125,[],[],(fun _ v _=>v=(vp d 10))),(126,[],[8],(fun _ v _=>v=(vs L a.Tag.length M))),(127,[],[0,1],(fun _ v _=>v=(vp b 3))),(176,[],[0,1,10],(fun _ _ w=>BK w b 42 3 ([(vs f a.Sn.length g)]))),(128,[],[0,1,2,3,10,11],(fun _ v _=>v=(vp b 7))),(178,[],[0,1,2,3,10,11,12],(fun _ _ w=>BK w b 42 7 ([(vi a.Epoch)]))),(129,[],[0,1,2,3,4,5,10,11,12,13],(fun _ v _=>v=(vp b 8))),(180,[],[0,1,2,3,4,5,10,11,12,13,14],(fun _ _ w=>BK w b 42 8 ([(vi a.Seq)]))),(130,[],[0,1,2,3,4,5,6,7,10,11,12,13,14,15],(fun _ v _=>v=(vp b 9))),(182,[],[0,1,2,3,4,5,6,7,10,11,12,13,14,15,16],(fun _ _ w=>BK w b 42 9 ([(vs C a.Body.length D)])))]:GV) (fun lf o=>Ch (fun k=>k=b) e o∧RK lf o b 42 [(vi a.Kind),(vi 0),(vs none 0 0),(vs none 0 0),(vi 0),(vs none 0 0),(vs none 0 0),(vi 0),(vi 0),(vs none 0 0),(vs none 0 0)] [(11,3,1),(13,7,1),(15,8,1),(17,9,1)]) [(11,TK b 42 3 1),(13,TK b 42 7 1),(15,TK b 42 8 1),(17,TK b 42 9 1)] GU rfl (by kernel_rfl) (by kernel_rfl) ?_ (fun _ _ h=>⟨h.to _,RK.z ci h⟩) (fun _ _ _ _ h mo k=>by obtain ⟨hc,m⟩:=h;exact ⟨hc.comp k (fun _ _ q=>q.elim),m.kp mo k⟩) ⟨(fun _ _ w o h mo hj t=>by obtain ⟨hc,m⟩:=h;exact ⟨hc.comp t.1 (fun _ _ q=>q),m.st mo hj (.head _) t⟩),⟨(fun _ _ w o h mo hj t=>by obtain ⟨hc,m⟩:=h;exact ⟨hc.comp t.1 (fun _ _ q=>q),m.st mo hj (.tail _ (.head _)) t⟩),⟨(fun _ _ w o h mo hj t=>by obtain ⟨hc,m⟩:=h;exact ⟨hc.comp t.1 (fun _ _ q=>q),m.st mo hj (.tail _ (.tail _ (.head _))) t⟩),⟨(fun _ _ w o h mo hj t=>by obtain ⟨hc,m⟩:=h;exact ⟨hc.comp t.1 (fun _ _ q=>q),m.st mo hj (.tail _ (.tail _ (.tail _ (.head _)))) t⟩),trivial⟩⟩⟩⟩ ?_ ?_ ?_
  ·exact ⟨hV,hE,⟨hV,hE,⟨hV,hE,⟨hV,hE,⟨hV,hE,⟨hV,hE,⟨hV,hE,⟨hV,hE,⟨hV,hE,⟨hV,hE,⟨hV,hE,⟨sK,hE,⟨hV,hE,⟨sK,hE,⟨hV,hE,⟨sK,hE,⟨hV,hE,⟨sK,hE,trivial⟩⟩⟩⟩⟩⟩⟩⟩⟩⟩⟩⟩⟩⟩⟩⟩⟩⟩
  ·exact ⟨⟨.inr hV,⟨.inr hV,⟨.inr hV,⟨.inr hV,⟨.inr hV,⟨.inr hV,⟨.inr hV,⟨.inr hV,⟨.inr hV,⟨.inr hV,⟨.inr hV,⟨.inl rfl,⟨.inr hV,⟨.inr (sKs 1 (.inl rfl)),⟨.inr hV,⟨.inr (sKs 1 (.inl rfl)),⟨.inr hV,⟨.inr (sKs 1 (.inl rfl)),trivial⟩⟩⟩⟩⟩⟩⟩⟩⟩⟩⟩⟩⟩⟩⟩⟩⟩⟩,⟨⟨.inr hV,⟨.inr hV,⟨.inr hV,⟨.inr hV,⟨.inr hV,⟨.inr hV,⟨.inr hV,⟨.inr hV,⟨.inr hV,⟨.inr hV,⟨.inr hV,⟨.inr (sKs 1 (.inr rfl)),⟨.inr hV,⟨.inl rfl,⟨.inr hV,⟨.inr (sKs 1 (.inl rfl)),⟨.inr hV,⟨.inr (sKs 1 (.inl rfl)),trivial⟩⟩⟩⟩⟩⟩⟩⟩⟩⟩⟩⟩⟩⟩⟩⟩⟩⟩,⟨⟨.inr hV,⟨.inr hV,⟨.inr hV,⟨.inr hV,⟨.inr hV,⟨.inr hV,⟨.inr hV,⟨.inr hV,⟨.inr hV,⟨.inr hV,⟨.inr hV,⟨.inr (sKs 1 (.inr rfl)),⟨.inr hV,⟨.inr (sKs 1 (.inr rfl)),⟨.inr hV,⟨.inl rfl,⟨.inr hV,⟨.inr (sKs 1 (.inl rfl)),trivial⟩⟩⟩⟩⟩⟩⟩⟩⟩⟩⟩⟩⟩⟩⟩⟩⟩⟩,⟨⟨.inr hV,⟨.inr hV,⟨.inr hV,⟨.inr hV,⟨.inr hV,⟨.inr hV,⟨.inr hV,⟨.inr hV,⟨.inr hV,⟨.inr hV,⟨.inr hV,⟨.inr (sKs 1 (.inr rfl)),⟨.inr hV,⟨.inr (sKs 1 (.inr rfl)),⟨.inr hV,⟨.inr (sKs 1 (.inr rfl)),⟨.inr hV,⟨.inl rfl,trivial⟩⟩⟩⟩⟩⟩⟩⟩⟩⟩⟩⟩⟩⟩⟩⟩⟩⟩,trivial⟩⟩⟩⟩
  ·refine ⟨?_,⟨?_,⟨?_,⟨?_,⟨?_,⟨?_,⟨?_,⟨?_,⟨?_,⟨?_,⟨?_,⟨?_,⟨?_,⟨?_,⟨?_,⟨?_,⟨?_,⟨?_,trivial⟩⟩⟩⟩⟩⟩⟩⟩⟩⟩⟩⟩⟩⟩⟩⟩⟩⟩
   ·rintro lf y ⟨eT,eU⟩ ⟨eV,eW,eX,eY,-⟩
    iterate 18 intro _
    refine sw<|pu (vp d 3) wN ?_
    exact f1
   ·rintro lf y ⟨cj,eZ⟩ ⟨fa,fb,fc,fd,-⟩
    rintro _ rfl;iterate 17 intro _
    refine sw ?_
    have ck:=((x.kp ao).ch cj (nN (nL r (l))))
    refine ld (vs f a.Sn.length g) wN uH ck ?_
    exact f1
   ·rintro lf y ⟨fe,ff⟩ ⟨fg,fh,fi,fj,-⟩
    iterate 18 intro _
    refine sw<|pu (vp d 7) wN ?_
    exact f1
   ·rintro lf y ⟨cm,fk⟩ ⟨fl,fm,fo,fp,-⟩
    rintro _ _ _ rfl;iterate 15 intro _
    refine sw ?_
    have cn:=((x.kp ao).ch cm (nN (nL r (l))))
    refine ld (vi a.Epoch) wN tE cn ?_
    exact f1
   ·rintro lf y ⟨fq,fr⟩ ⟨fs,ft,fu,fv,-⟩
    iterate 18 intro _
    refine sw<|pu (vp d 8) wN ?_
    exact f1
   ·rintro lf y ⟨co,fw⟩ ⟨fx,fy,fz,f0,-⟩
    rintro _ _ _ _ _ rfl;iterate 13 intro _
    refine sw ?_
    have cp:=((x.kp ao).ch co (nN (nL r (l))))
    refine ld (vi a.Seq) wN tE cp ?_
    exact f1
   ·rintro lf y ⟨f3,f4⟩ ⟨f5,f6,f7,f8,-⟩
    iterate 18 intro _
    refine sw<|pu (vp d 9) wN ?_
    exact f1
   ·rintro lf y ⟨cq,f9⟩ ⟨fA,fB,fC,fD,-⟩
    rintro _ _ _ _ _ _ _ rfl _ _ _ _ _ _ _ _ _ _ _
    refine sw ?_
    have cr:=((x.kp ao).ch cq (nN (nL r (l))))
    refine ld (vs C a.Body.length D) wN uH cr ?_
    exact f1
   ·rintro lf y ⟨fE,fF⟩ ⟨fG,fH,fI,fJ,-⟩
    iterate 18 intro _
    refine sw<|pu (vp d 10) wN ?_
    exact f1
   ·rintro lf y ⟨cs,fK⟩ ⟨fL,fM,fN,fO,-⟩
    rintro _ _ _ _ _ _ _ _ _ rfl _ _ _ _ _ _ _ _ _
    refine sw ?_
    have cu:=((x.kp ao).ch cs (nN (nL r (l))))
    refine ld (vs L a.Tag.length M) wN uH cu ?_
    exact f1
   ·rintro lf y ⟨fP,fQ⟩ ⟨fR,fS,fT,fU,-⟩
    rintro _ rfl _ rfl;iterate 16 intro _
    refine sw<|pu (vp b 3) wN ?_
    exact f1
   ·rintro lf y ⟨fV,cv⟩ ⟨fW,fX,fY,fZ,-⟩
    rintro _ rfl _ rfl _ _ _ _ _ _ _ _ _ rfl _ _ _ _ _ _ _
    exact sw<|stK (vs f a.Sn.length g) [(vs f a.Sn.length g)] wN GY cv (fun _ h=>h) (fun _ t=>t)
   ·rintro lf y ⟨ga,gb⟩ ⟨gd,ge,gf,gg,-⟩
    rintro _ rfl _ rfl _ rfl _ rfl _ _ _ _ _ _ _ rfl _ _ _ _ _ _ _ _
    refine sw<|pu (vp b 7) wN ?_
    exact f1
   ·rintro lf y ⟨gh,cw⟩ ⟨gi,gj,gk,gl,-⟩
    rintro _ rfl _ rfl _ rfl _ rfl _ _ _ _ _ _ _ rfl _ _ _ rfl _ _ _ _ _
    exact sw<|stK (vi a.Epoch) [(vi a.Epoch)] wN GI cw (fun _ h=>h) (fun _ t=>t)
   ·rintro lf y ⟨gm,gn⟩ ⟨gp,gq,gr,gs,-⟩
    rintro _ rfl _ rfl _ rfl _ rfl _ rfl _ rfl _ _ _ _ _ rfl _ _ _ rfl _ _ _ _ _ _
    refine sw<|pu (vp b 8) wN ?_
    exact f1
   ·rintro lf y ⟨gt,cx⟩ ⟨gu,gv,gw,gx,-⟩
    rintro _ rfl _ rfl _ rfl _ rfl _ rfl _ rfl _ _ _ _ _ rfl _ _ _ rfl _ _ _ rfl _ _ _
    exact sw<|stK (vi a.Seq) [(vi a.Seq)] wN GI cx (fun _ h=>h) (fun _ t=>t)
   ·rintro lf y ⟨gy,gz⟩ ⟨g0,g1,g2,g3,-⟩
    iterate 8 rintro _ rfl
    rintro _ _ _ rfl _ _ _ rfl _ _ _ rfl _ _ _ _
    refine sw<|pu (vp b 9) wN ?_
    exact f1
   ·rintro lf y ⟨g4,cy⟩ ⟨g5,g6,g7,g8,-⟩
    iterate 8 rintro _ rfl
    rintro _ _ _ rfl _ _ _ rfl _ _ _ rfl _ _ _ rfl _
    exact sw<|stK (vs C a.Body.length D) [(vs C a.Body.length D)] wN GY cy (fun _ h=>h) (fun _ t=>t)
  ·rintro lf y ⟨bk,cz⟩
   have c0:=bj.ext bk (fun k hk=>by subst hk;exact nT ah.size l)
   iterate 11 rintro _ rfl
   rintro _ c1 _ rfl _ c2 _ rfl _ c3 _ rfl _ c4
   have c5:Blk y b 42 [(vi a.Kind),(vi 0),(vs none 0 0),(vs f a.Sn.length g),(vi 0),(vs none 0 0),(vs none 0 0),(vi a.Epoch),(vi a.Seq),(vs C a.Body.length D),(vs none 0 0)]:=RK.fin cz [(3,[(vs f a.Sn.length g)]),(7,[(vi a.Epoch)]),(8,[(vi a.Seq)]),(9,[(vs C a.Body.length D)])] ⟨c1,c2,c3,c4,trivial⟩
   refine sw<|pu (vp b 10) wN ?_
   refine st (vs L a.Tag.length M) [(vs L a.Tag.length M)] [(vi a.Kind),(vi 0),(vs none 0 0),(vs f a.Sn.length g),(vi 0),(vs none 0 0),(vs none 0 0),(vi a.Epoch),(vi a.Seq),(vs C a.Body.length D),(vs L a.Tag.length M)] wN GY c5 ?_
   intro ap bl c6 g9
   have bm:=c0.ext bl (fun k hk=>by subst hk;exact nT ah.size l)
   refine uD<|rg<|uG ?_
   refine pu (vp d 3) wN ?_
   have bn:=(((x.kp ao).ch bk (nN (nL r (l)))).ch bl (nN (nL r (l))))
   refine ld (vs f a.Sn.length g) wN uH bn ?_
   refine cl wN (Iv ap _ a.Sn (FV (ae.from0 bm) af)) ?_
   rintro _ an ⟨aG,rfl⟩
   have bo:=bm.extk aG
   refine mw (vb (FT a.Sn)) ?_
   rcases bf (FT a.Sn) with G|G
   ·have gA:=Is G
    iterate 3 refine sk G ?_
    refine pf (vb false) wN G ?_
    refine mw (vb false) ?_
    iterate 3 refine sk F1 ?_
    refine pf (vb false) wN F1 ?_
    refine mw (vb false) ?_
    iterate 4 refine sk F1 ?_
    refine pf (vb false) wN F1 ?_
    refine mw (vb false) ?_
    iterate 6 refine sk F1 ?_
    refine pf (vb false) wN F1 ?_
    refine aw (vb false) ?_
    refine uD<|uB<|rg<|sr ?_
    refine mw (vb false) ?_
    refine mw (vb false) ?_
    iterate 3 refine sk F1 ?_
    refine pf (vb false) wN F1 ?_
    refine aw (vb false) ?_
    refine n3<|rt (vb false) ?_
    refine ⟨bo.keep0,?_⟩
    simp only [i_FrameOk,p,A,B,ai,G,cond_true,cond_false]
    exact rfl
   have gB:=Ir G
   refine pu (vp d 7) (wS G) ?_
   have bp:=(bn.kp aG)
   refine ld (vi a.Epoch) (wS G) tE bp ?_
   refine cl (wS G) (Hc an a.Epoch 0 4294967295) ?_
   rintro _ aq ⟨aH,rfl⟩
   have bq:=bo.extk aH
   refine pk (vb (i_within a.Epoch 0 4294967295)) wN G ?_
   refine mw (vb (i_within a.Epoch 0 4294967295)) ?_
   rcases bf (i_within a.Epoch 0 4294967295) with O|O
   ·have gC:=Gh O
    iterate 3 refine sk O ?_
    refine pf (vb false) wN O ?_
    refine mw (vb false) ?_
    iterate 4 refine sk F1 ?_
    refine pf (vb false) wN F1 ?_
    refine mw (vb false) ?_
    iterate 6 refine sk F1 ?_
    refine pf (vb false) wN F1 ?_
    refine aw (vb false) ?_
    refine uD<|uB<|rg<|sr ?_
    refine mw (vb false) ?_
    refine mw (vb false) ?_
    iterate 3 refine sk F1 ?_
    refine pf (vb false) wN F1 ?_
    refine aw (vb false) ?_
    refine n3<|rt (vb false) ?_
    refine ⟨bq.keep0,?_⟩
    simp only [i_FrameOk,p,A,B,ai,G,O,cond_true,cond_false]
    exact rfl
   have gD:=FU O
   refine pu (vp d 8) (wS O) ?_
   have br:=(bp.kp aH)
   refine ld (vi a.Seq) (wS O) tE br ?_
   refine cl (wS O) (Hc aq a.Seq 0 281474976710655) ?_
   rintro _ a3 ⟨aI,rfl⟩
   have a4:=bq.extk aI
   refine pk (vb (i_within a.Seq 0 281474976710655)) wN O ?_
   refine mw (vb (i_within a.Seq 0 281474976710655)) ?_
   rcases bf (i_within a.Seq 0 281474976710655) with P|P
   ·have gE:=Gh P
    iterate 4 refine sk P ?_
    refine pf (vb false) wN P ?_
    refine mw (vb false) ?_
    iterate 6 refine sk F1 ?_
    refine pf (vb false) wN F1 ?_
    refine aw (vb false) ?_
    refine uD<|uB<|rg<|sr ?_
    refine mw (vb false) ?_
    refine mw (vb false) ?_
    iterate 3 refine sk F1 ?_
    refine pf (vb false) wN F1 ?_
    refine aw (vb false) ?_
    refine n3<|rt (vb false) ?_
    refine ⟨a4.keep0,?_⟩
    simp only [i_FrameOk,p,A,B,ai,G,O,P,cond_true,cond_false]
    exact rfl
   have gF:=FU P
   refine pu (vp d 10) (wS P) ?_
   have a8:=(br.kp aI)
   refine ld (vs L a.Tag.length M) (wS P) uH a8 ?_
   refine ln (wS P) tD (ay.from0 a4) ?_
   refine pu (vb (decide ((a.Tag.length:Int)=16))) (wS P) ?_
   refine pk (vb (decide ((a.Tag.length:Int)=16))) wN P ?_
   refine mw (vb (decide ((a.Tag.length:Int)=16))) ?_
   rcases bf (decide ((a.Tag.length:Int)=16)) with H|H
   ·have gG:=dF H
    iterate 6 refine sk H ?_
    refine pf (vb false) wN H ?_
    refine aw (vb false) ?_
    refine uD<|uB<|rg<|sr ?_
    refine mw (vb false) ?_
    refine mw (vb false) ?_
    iterate 3 refine sk F1 ?_
    refine pf (vb false) wN F1 ?_
    refine aw (vb false) ?_
    refine n3<|rt (vb false) ?_
    refine ⟨a4.keep0,?_⟩
    simp only [i_FrameOk,p,A,B,ai,G,O,P,H,cond_true,cond_false]
    exact rfl
   have gH:=dT H
   refine pu (vp d 0) (wS H) ?_
   refine ld (vi a.Kind) (wS H) tE a8 ?_
   refine pu (vp d 9) (wS H) ?_
   refine ld (vs C a.Body.length D) (wS H) uH a8 ?_
   refine ln (wS H) tD (ax.from0 a4) ?_
   refine cl (wS H) (Sl a3 a.Kind (a.Body.length:Int)) ?_
   rintro _ aJ ⟨aK,rfl⟩
   have aa:=a4.extk aK
   refine pk (vb (GJ a.Kind (a.Body.length:Int))) wN H ?_
   refine aw (vb (GJ a.Kind (a.Body.length:Int))) ?_
   refine uD<|uB<|rg<|sr ?_
   refine mw (vb (GJ a.Kind (a.Body.length:Int))) ?_
   refine mw (vb (GJ a.Kind (a.Body.length:Int))) ?_
   rcases bf (GJ a.Kind (a.Body.length:Int)) with ak|ak
   ·iterate 3 refine sk ak ?_
    refine pf (vb false) wN ak ?_
    refine aw (vb false) ?_
    refine n3<|rt (vb false) ?_
    refine ⟨aa.keep0,?_⟩
    simp only [i_FrameOk,p,A,B,ai,G,O,P,H,ak,cond_true,cond_false]
    exact rfl
   have c7:=(a8.kp aK)
   refine lN (HH a i j f g s u J K C D L M) (wS ak) Gg FD c7 ?_
   have c8:=((((c6.kp aG).kp aH).kp aI).kp aK)
   refine lN [(vi a.Kind),(vi 0),(vs none 0 0),(vs f a.Sn.length g),(vi 0),(vs none 0 0),(vs none 0 0),(vi a.Epoch),(vi a.Seq),(vs C a.Body.length D),(vs L a.Tag.length M)] (wS ak) Gg FD c8 ?_
   refine cl (wS ak) (JM aJ _ a (IN (ac.from0 aa) ad (ae.from0 aa) af (am.from0 aa) au (av.from0 aa) a0 (ax.from0 aa) a1 (ay.from0 aa) a2) _ _ (show MH aJ (va [(vi a.Kind),(vi 0),(vs none 0 0),(vs f a.Sn.length g),(vi 0),(vs none 0 0),(vs none 0 0),(vi a.Epoch),(vi a.Seq),(vs C a.Body.length D),(vs L a.Tag.length M)]) {Kind:=a.Kind,Id:=0,Cn:=[],Sn:=a.Sn,Tick:=0,Cookie:=[],Proof:=[],Epoch:=a.Epoch,Seq:=a.Seq,Body:=a.Body,Tag:=a.Tag:PFrame} from ⟨_,_,_,_,_,_,_,_,_,_,_,_,rfl,(Rd.nil _ _),(by simp),(ae.from0 aa),af,(Rd.nil _ _),(by simp),(Rd.nil _ _),(by simp),(ax.from0 aa),a1,(ay.from0 aa),a2⟩)) ?_
   rintro _ gI ⟨c9,rfl⟩
   have cC:=aa.extk c9
   refine pk (vb (FW a {Kind:=a.Kind,Id:=0,Cn:=[],Sn:=a.Sn,Tick:=0,Cookie:=[],Proof:=[],Epoch:=a.Epoch,Seq:=a.Seq,Body:=a.Body,Tag:=a.Tag:PFrame})) wN ak ?_
   refine aw (vb (FW a {Kind:=a.Kind,Id:=0,Cn:=[],Sn:=a.Sn,Tick:=0,Cookie:=[],Proof:=[],Epoch:=a.Epoch,Seq:=a.Seq,Body:=a.Body,Tag:=a.Tag:PFrame})) ?_
   refine n3<|rt (vb (FW a {Kind:=a.Kind,Id:=0,Cn:=[],Sn:=a.Sn,Tick:=0,Cookie:=[],Proof:=[],Epoch:=a.Epoch,Seq:=a.Seq,Body:=a.Body,Tag:=a.Tag:PFrame})) ?_
   refine ⟨cC.keep0,?_⟩
   simp only [i_FrameOk,p,A,B,ai,G,O,P,H,ak,cond_true,cond_false]
   exact rfl
 have gJ:=dT B
 refine ct B<|uK<|Ga ([(65,[],[],(fun _ v _=>v=(vp d 1))),(66,[],[0],(fun _ v _=>v=(vi a.Id))),(67,[],[],(fun _ v _=>v=(vp d 2))),(68,[],[2],(fun _ v _=>v=(vs i a.Cn.length j))),(69,[],[],(fun _ v _=>v=(vp d 3))),(70,[],[4],(fun _ v _=>v=(vs f a.Sn.length g))),(71,[],[],(fun _ v _=>v=(vp d 4))),(72,[],[6],(fun _ v _=>v=(vi a.Tick))),(73,[],[],(fun _ v _=>v=(vp d 5))),(74,[],[8],(fun _ v _=>v=(vs s a.Cookie.length u))),(75,[],[],(fun _ v _=>v=(vp d 6))),(76,[],[10],(fun _ v _=>v=(vs J a.Proof.length K))),(77,[],[0,1],(fun _ v _=>v=(vp b 1))),(178,[],[0,1,12],(fun _ _ w=>BK w b 42 1 ([(vi a.Id)]))),(78,[],[0,1,2,3,12,13],(fun _ v _=>v=(vp b 2))),(180,[],[0,1,2,3,12,13,14],(fun _ _ w=>BK w b 42 2 ([(vs i a.Cn.length j)]))),(79,[],[0,1,2,3,4,5,12,13,14,15],(fun _ v _=>v=(vp b 3))),(182,[],[0,1,2,3,4,5,12,13,14,15,16],(fun _ _ w=>BK w b 42 3 ([(vs f a.Sn.length g)]))),(80,[],[0,1,2,3,4,5,6,7,12,13,14,15,16,17],(fun _ v _=>v=(vp b 4))),(184,[],[0,1,2,3,4,5,6,7,12,13,14,15,16,17,18],(fun _ _ w=>BK w b 42 4 ([(vi a.Tick)]))),(81,[],[0,1,2,3,4,5,6,7,8,9,12,13,14,15,16,17,18,19],(fun _ v _=>v=(vp b 5))),(186,[],[0,1,2,3,4,5,6,7,8,9,12,13,14,15,16,17,18,19,20],(fun _ _ w=>BK w b 42 5 ([(vs s a.Cookie.length u)])))]:GV) (fun lf o=>Ch (fun k=>k=b) a5 o∧RK lf o b 42 [(vi a.Kind),(vi 0),(vs none 0 0),(vs none 0 0),(vi 0),(vs none 0 0),(vs none 0 0),(vi 0),(vi 0),(vs none 0 0),(vs none 0 0)] [(13,1,1),(15,2,1),(17,3,1),(19,4,1),(21,5,1)]) [(13,TK b 42 1 1),(15,TK b 42 2 1),(17,TK b 42 3 1),(19,TK b 42 4 1),(21,TK b 42 5 1)] GU rfl (by kernel_rfl) (by kernel_rfl) ?_ (fun _ _ h=>⟨h.to _,RK.z a6 h⟩) (fun _ _ _ _ h mo k=>by obtain ⟨hc,m⟩:=h;exact ⟨hc.comp k (fun _ _ q=>q.elim),m.kp mo k⟩) ⟨(fun _ _ w o h mo hj t=>by obtain ⟨hc,m⟩:=h;exact ⟨hc.comp t.1 (fun _ _ q=>q),m.st mo hj (.head _) t⟩),⟨(fun _ _ w o h mo hj t=>by obtain ⟨hc,m⟩:=h;exact ⟨hc.comp t.1 (fun _ _ q=>q),m.st mo hj (.tail _ (.head _)) t⟩),⟨(fun _ _ w o h mo hj t=>by obtain ⟨hc,m⟩:=h;exact ⟨hc.comp t.1 (fun _ _ q=>q),m.st mo hj (.tail _ (.tail _ (.head _))) t⟩),⟨(fun _ _ w o h mo hj t=>by obtain ⟨hc,m⟩:=h;exact ⟨hc.comp t.1 (fun _ _ q=>q),m.st mo hj (.tail _ (.tail _ (.tail _ (.head _)))) t⟩),⟨(fun _ _ w o h mo hj t=>by obtain ⟨hc,m⟩:=h;exact ⟨hc.comp t.1 (fun _ _ q=>q),m.st mo hj (.tail _ (.tail _ (.tail _ (.tail _ (.head _))))) t⟩),trivial⟩⟩⟩⟩⟩ ?_ ?_ ?_
 ·exact ⟨hV,hE,⟨hV,hE,⟨hV,hE,⟨hV,hE,⟨hV,hE,⟨hV,hE,⟨hV,hE,⟨hV,hE,⟨hV,hE,⟨hV,hE,⟨hV,hE,⟨hV,hE,⟨hV,hE,⟨sK,hE,⟨hV,hE,⟨sK,hE,⟨hV,hE,⟨sK,hE,⟨hV,hE,⟨sK,hE,⟨hV,hE,⟨sK,hE,trivial⟩⟩⟩⟩⟩⟩⟩⟩⟩⟩⟩⟩⟩⟩⟩⟩⟩⟩⟩⟩⟩⟩
 ·exact ⟨⟨.inr hV,⟨.inr hV,⟨.inr hV,⟨.inr hV,⟨.inr hV,⟨.inr hV,⟨.inr hV,⟨.inr hV,⟨.inr hV,⟨.inr hV,⟨.inr hV,⟨.inr hV,⟨.inr hV,⟨.inl rfl,⟨.inr hV,⟨.inr (sKs 1 (.inl rfl)),⟨.inr hV,⟨.inr (sKs 1 (.inl rfl)),⟨.inr hV,⟨.inr (sKs 1 (.inl rfl)),⟨.inr hV,⟨.inr (sKs 1 (.inl rfl)),trivial⟩⟩⟩⟩⟩⟩⟩⟩⟩⟩⟩⟩⟩⟩⟩⟩⟩⟩⟩⟩⟩⟩,⟨⟨.inr hV,⟨.inr hV,⟨.inr hV,⟨.inr hV,⟨.inr hV,⟨.inr hV,⟨.inr hV,⟨.inr hV,⟨.inr hV,⟨.inr hV,⟨.inr hV,⟨.inr hV,⟨.inr hV,⟨.inr (sKs 1 (.inr rfl)),⟨.inr hV,⟨.inl rfl,⟨.inr hV,⟨.inr (sKs 1 (.inl rfl)),⟨.inr hV,⟨.inr (sKs 1 (.inl rfl)),⟨.inr hV,⟨.inr (sKs 1 (.inl rfl)),trivial⟩⟩⟩⟩⟩⟩⟩⟩⟩⟩⟩⟩⟩⟩⟩⟩⟩⟩⟩⟩⟩⟩,⟨⟨.inr hV,⟨.inr hV,⟨.inr hV,⟨.inr hV,⟨.inr hV,⟨.inr hV,⟨.inr hV,⟨.inr hV,⟨.inr hV,⟨.inr hV,⟨.inr hV,⟨.inr hV,⟨.inr hV,⟨.inr (sKs 1 (.inr rfl)),⟨.inr hV,⟨.inr (sKs 1 (.inr rfl)),⟨.inr hV,⟨.inl rfl,⟨.inr hV,⟨.inr (sKs 1 (.inl rfl)),⟨.inr hV,⟨.inr (sKs 1 (.inl rfl)),trivial⟩⟩⟩⟩⟩⟩⟩⟩⟩⟩⟩⟩⟩⟩⟩⟩⟩⟩⟩⟩⟩⟩,⟨⟨.inr hV,⟨.inr hV,⟨.inr hV,⟨.inr hV,⟨.inr hV,⟨.inr hV,⟨.inr hV,⟨.inr hV,⟨.inr hV,⟨.inr hV,⟨.inr hV,⟨.inr hV,⟨.inr hV,⟨.inr (sKs 1 (.inr rfl)),⟨.inr hV,⟨.inr (sKs 1 (.inr rfl)),⟨.inr hV,⟨.inr (sKs 1 (.inr rfl)),⟨.inr hV,⟨.inl rfl,⟨.inr hV,⟨.inr (sKs 1 (.inl rfl)),trivial⟩⟩⟩⟩⟩⟩⟩⟩⟩⟩⟩⟩⟩⟩⟩⟩⟩⟩⟩⟩⟩⟩,⟨⟨.inr hV,⟨.inr hV,⟨.inr hV,⟨.inr hV,⟨.inr hV,⟨.inr hV,⟨.inr hV,⟨.inr hV,⟨.inr hV,⟨.inr hV,⟨.inr hV,⟨.inr hV,⟨.inr hV,⟨.inr (sKs 1 (.inr rfl)),⟨.inr hV,⟨.inr (sKs 1 (.inr rfl)),⟨.inr hV,⟨.inr (sKs 1 (.inr rfl)),⟨.inr hV,⟨.inr (sKs 1 (.inr rfl)),⟨.inr hV,⟨.inl rfl,trivial⟩⟩⟩⟩⟩⟩⟩⟩⟩⟩⟩⟩⟩⟩⟩⟩⟩⟩⟩⟩⟩⟩,trivial⟩⟩⟩⟩⟩
 ·refine ⟨?_,⟨?_,⟨?_,⟨?_,⟨?_,⟨?_,⟨?_,⟨?_,⟨?_,⟨?_,⟨?_,⟨?_,⟨?_,⟨?_,⟨?_,⟨?_,⟨?_,⟨?_,⟨?_,⟨?_,⟨?_,⟨?_,trivial⟩⟩⟩⟩⟩⟩⟩⟩⟩⟩⟩⟩⟩⟩⟩⟩⟩⟩⟩⟩⟩⟩
  ·rintro lf e ⟨gK,gL⟩ ⟨gM,gN,gO,gP,gQ,-⟩
   iterate 22 intro _
   refine sw<|pu (vp d 1) wN ?_
   exact f1
  ·rintro lf e ⟨cD,gR⟩ ⟨gS,gT,gU,gV,gW,-⟩
   rintro _ rfl;iterate 21 intro _
   refine sw ?_
   have cE:=(x.ch cD (nN (nL r (l))))
   refine ld (vi a.Id) wN tE cE ?_
   exact f1
  ·rintro lf e ⟨gX,gY⟩ ⟨gZ,ha,hb,hd,he,-⟩
   iterate 22 intro _
   refine sw<|pu (vp d 2) wN ?_
   exact f1
  ·rintro lf e ⟨cF,hf⟩ ⟨hg,hh,hi,hl,hm,-⟩
   rintro _ _ _ rfl;iterate 19 intro _
   refine sw ?_
   have cG:=(x.ch cF (nN (nL r (l))))
   refine ld (vs i a.Cn.length j) wN uH cG ?_
   exact f1
  ·rintro lf e ⟨hn,ho⟩ ⟨hp,hq,hr,hs,ht,-⟩
   iterate 22 intro _
   refine sw<|pu (vp d 3) wN ?_
   exact f1
  ·rintro lf e ⟨cH,hu⟩ ⟨hv,hw,hx,hy,hz,-⟩
   rintro _ _ _ _ _ rfl;iterate 17 intro _
   refine sw ?_
   have cI:=(x.ch cH (nN (nL r (l))))
   refine ld (vs f a.Sn.length g) wN uH cI ?_
   exact f1
  ·rintro lf e ⟨h0,h1⟩ ⟨h2,h3,h4,h5,h6,-⟩
   iterate 22 intro _
   refine sw<|pu (vp d 4) wN ?_
   exact f1
  ·rintro lf e ⟨cJ,h7⟩ ⟨h8,h9,hA,hB,hC,-⟩
   rintro _ _ _ _ _ _ _ rfl;iterate 15 intro _
   refine sw ?_
   have cK:=(x.ch cJ (nN (nL r (l))))
   refine ld (vi a.Tick) wN tE cK ?_
   exact f1
  ·rintro lf e ⟨hD,hF⟩ ⟨hG,hH,hI,hJ,hK,-⟩
   iterate 22 intro _
   refine sw<|pu (vp d 5) wN ?_
   exact f1
  ·rintro lf e ⟨cL,hL⟩ ⟨hM,hN,hO,hP,hQ,-⟩
   rintro _ _ _ _ _ _ _ _ _ rfl;iterate 13 intro _
   refine sw ?_
   have cM:=(x.ch cL (nN (nL r (l))))
   refine ld (vs s a.Cookie.length u) wN uH cM ?_
   exact f1
  ·rintro lf e ⟨hR,hS⟩ ⟨hT,hU,hW,hX,hY,-⟩
   iterate 22 intro _
   refine sw<|pu (vp d 6) wN ?_
   exact f1
  ·rintro lf e ⟨cN,hZ⟩ ⟨ia,ib,ic,ie,ig,-⟩
   rintro _ _ _ _ _ _ _ _ _ _ _ rfl _ _ _ _ _ _ _ _ _ _ _
   refine sw ?_
   have cO:=(x.ch cN (nN (nL r (l))))
   refine ld (vs J a.Proof.length K) wN uH cO ?_
   exact f1
  ·rintro lf e ⟨ih,ii⟩ ⟨ij,ik,il,im,io,-⟩
   rintro _ rfl _ rfl;iterate 20 intro _
   refine sw<|pu (vp b 1) wN ?_
   exact f1
  ·rintro lf e ⟨ip,cP⟩ ⟨iq,ir,it,iu,iv,-⟩
   rintro _ rfl _ rfl _ _ _ _ _ _ _ _ _ _ _ rfl _ _ _ _ _ _ _ _ _
   exact sw<|stK (vi a.Id) [(vi a.Id)] wN GI cP (fun _ h=>h) (fun _ t=>t)
  ·rintro lf e ⟨iw,iy⟩ ⟨iz,i0,i1,i2,i3,-⟩
   rintro _ rfl _ rfl _ rfl _ rfl _ _ _ _ _ _ _ _ _ rfl _ _ _ _ _ _ _ _ _ _
   refine sw<|pu (vp b 2) wN ?_
   exact f1
  ·rintro lf e ⟨i4,cQ⟩ ⟨i5,i6,i7,i8,i9,-⟩
   rintro _ rfl _ rfl _ rfl _ rfl _ _ _ _ _ _ _ _ _ rfl _ _ _ rfl _ _ _ _ _ _ _
   exact sw<|stK (vs i a.Cn.length j) [(vs i a.Cn.length j)] wN GY cQ (fun _ h=>h) (fun _ t=>t)
  ·rintro lf e ⟨iA,iB⟩ ⟨iC,iD,iE,iF,iG,-⟩
   rintro _ rfl _ rfl _ rfl _ rfl _ rfl _ rfl _ _ _ _ _ _ _ rfl _ _ _ rfl _ _ _ _ _ _ _ _
   refine sw<|pu (vp b 3) wN ?_
   exact f1
  ·rintro lf e ⟨iH,cR⟩ ⟨iI,iJ,iK,iL,iM,-⟩
   rintro _ rfl _ rfl _ rfl _ rfl _ rfl _ rfl _ _ _ _ _ _ _ rfl _ _ _ rfl _ _ _ rfl _ _ _ _ _
   exact sw<|stK (vs f a.Sn.length g) [(vs f a.Sn.length g)] wN GY cR (fun _ h=>h) (fun _ t=>t)
  ·rintro lf e ⟨iN,iO⟩ ⟨iP,iQ,iR,iS,iT,-⟩
   iterate 8 rintro _ rfl
   rintro _ _ _ _ _ rfl _ _ _ rfl _ _ _ rfl _ _ _ _ _ _
   refine sw<|pu (vp b 4) wN ?_
   exact f1
  ·rintro lf e ⟨iU,cS⟩ ⟨iW,iX,iY,iZ,ja,-⟩
   iterate 8 rintro _ rfl
   rintro _ _ _ _ _ rfl _ _ _ rfl _ _ _ rfl _ _ _ rfl _ _ _
   exact sw<|stK (vi a.Tick) [(vi a.Tick)] wN GI cS (fun _ h=>h) (fun _ t=>t)
  ·rintro lf e ⟨jb,jc⟩ ⟨jd,je,jf,jg,jh,-⟩
   iterate 10 rintro _ rfl
   rintro _ _ _ rfl _ _ _ rfl _ _ _ rfl _ _ _ rfl _ _ _ _
   refine sw<|pu (vp b 5) wN ?_
   exact f1
  ·rintro lf e ⟨ji,cT⟩ ⟨jj,jk,jl,jm,jn,-⟩
   iterate 10 rintro _ rfl
   rintro _ _ _ rfl _ _ _ rfl _ _ _ rfl _ _ _ rfl _ _ _ rfl _
   exact sw<|stK (vs s a.Cookie.length u) [(vs s a.Cookie.length u)] wN GY cT (fun _ h=>h) (fun _ t=>t)
 ·rintro lf e ⟨bu,cU⟩
  have cV:=a7.ext bu (fun k hk=>by subst hk;exact nT ah.size l)
  iterate 13 rintro _ rfl
  rintro _ cW _ rfl _ cX _ rfl _ cY _ rfl _ cZ _ rfl _ da
  have db:Blk e b 42 [(vi a.Kind),(vi a.Id),(vs i a.Cn.length j),(vs f a.Sn.length g),(vi a.Tick),(vs s a.Cookie.length u),(vs none 0 0),(vi 0),(vi 0),(vs none 0 0),(vs none 0 0)]:=RK.fin cU [(1,[(vi a.Id)]),(2,[(vs i a.Cn.length j)]),(3,[(vs f a.Sn.length g)]),(4,[(vi a.Tick)]),(5,[(vs s a.Cookie.length u)])] ⟨cW,cX,cY,cZ,da,trivial⟩
  refine sw<|pu (vp b 6) wN ?_
  refine st (vs J a.Proof.length K) [(vs J a.Proof.length K)] [(vi a.Kind),(vi a.Id),(vs i a.Cn.length j),(vs f a.Sn.length g),(vi a.Tick),(vs s a.Cookie.length u),(vs J a.Proof.length K),(vi 0),(vi 0),(vs none 0 0),(vs none 0 0)] wN GY db ?_
  intro y bv dc jo
  have dd:=cV.ext bv (fun k hk=>by subst hk;exact nT ah.size l)
  refine uD<|rg<|uG ?_
  refine pu (vp d 1) wN ?_
  have bw:=((x.ch bu (nN (nL r (l)))).ch bv (nN (nL r (l))))
  refine ld (vi a.Id) wN tE bw ?_
  refine cl wN (Hc y a.Id 1 9) ?_
  rintro _ ap ⟨aL,rfl⟩
  have aM:=dd.extk aL
  refine mw (vb (i_within a.Id 1 9)) ?_
  rcases bf (i_within a.Id 1 9) with E|E
  ·have jp:=Gh E
   iterate 3 refine sk E ?_
   refine pf (vb false) wN E ?_
   refine mw (vb false) ?_
   iterate 3 refine sk F1 ?_
   refine pf (vb false) wN F1 ?_
   refine mw (vb false) ?_
   iterate 3 refine sk F1 ?_
   refine pf (vb false) wN F1 ?_
   refine mw (vb false) ?_
   iterate 4 refine sk F1 ?_
   refine pf (vb false) wN F1 ?_
   refine mw (vb false) ?_
   iterate 4 refine sk F1 ?_
   refine pf (vb false) wN F1 ?_
   refine aw (vb false) ?_
   refine uD<|uB<|rg<|sr ?_
   refine mw (vb false) ?_
   refine mw (vb false) ?_
   iterate 3 refine sk F1 ?_
   refine pf (vb false) wN F1 ?_
   refine aw (vb false) ?_
   refine n3<|rt (vb false) ?_
   refine ⟨aM.keep0,?_⟩
   simp only [i_FrameOk,p,A,B,E,cond_true,cond_false]
   exact rfl
  have jq:=FU E
  refine pu (vp d 2) (wS E) ?_
  have bz:=(bw.kp aL)
  refine ld (vs i a.Cn.length j) (wS E) uH bz ?_
  refine cl (wS E) (Iv ap _ a.Cn (FV (ac.from0 aM) ad)) ?_
  rintro _ an ⟨aN,rfl⟩
  have aO:=aM.extk aN
  refine pk (vb (FT a.Cn)) wN E ?_
  refine mw (vb (FT a.Cn)) ?_
  rcases bf (FT a.Cn) with I|I
  ·have jr:=Is I
   iterate 3 refine sk I ?_
   refine pf (vb false) wN I ?_
   refine mw (vb false) ?_
   iterate 3 refine sk F1 ?_
   refine pf (vb false) wN F1 ?_
   refine mw (vb false) ?_
   iterate 4 refine sk F1 ?_
   refine pf (vb false) wN F1 ?_
   refine mw (vb false) ?_
   iterate 4 refine sk F1 ?_
   refine pf (vb false) wN F1 ?_
   refine aw (vb false) ?_
   refine uD<|uB<|rg<|sr ?_
   refine mw (vb false) ?_
   refine mw (vb false) ?_
   iterate 3 refine sk F1 ?_
   refine pf (vb false) wN F1 ?_
   refine aw (vb false) ?_
   refine n3<|rt (vb false) ?_
   refine ⟨aO.keep0,?_⟩
   simp only [i_FrameOk,p,A,B,E,I,cond_true,cond_false]
   exact rfl
  have js:=Ir I
  refine pu (vp d 3) (wS I) ?_
  have b0:=(bz.kp aN)
  refine ld (vs f a.Sn.length g) (wS I) uH b0 ?_
  refine cl (wS I) (Iv an _ a.Sn (FV (ae.from0 aO) af)) ?_
  rintro _ aq ⟨aP,rfl⟩
  have b1:=aO.extk aP
  refine pk (vb (FT a.Sn)) wN I ?_
  refine mw (vb (FT a.Sn)) ?_
  rcases bf (FT a.Sn) with Q|Q
  ·have jt:=Is Q
   iterate 3 refine sk Q ?_
   refine pf (vb false) wN Q ?_
   refine mw (vb false) ?_
   iterate 4 refine sk F1 ?_
   refine pf (vb false) wN F1 ?_
   refine mw (vb false) ?_
   iterate 4 refine sk F1 ?_
   refine pf (vb false) wN F1 ?_
   refine aw (vb false) ?_
   refine uD<|uB<|rg<|sr ?_
   refine mw (vb false) ?_
   refine mw (vb false) ?_
   iterate 3 refine sk F1 ?_
   refine pf (vb false) wN F1 ?_
   refine aw (vb false) ?_
   refine n3<|rt (vb false) ?_
   refine ⟨b1.keep0,?_⟩
   simp only [i_FrameOk,p,A,B,E,I,Q,cond_true,cond_false]
   exact rfl
  have ju:=Ir Q
  refine pu (vp d 4) (wS Q) ?_
  have b2:=(b0.kp aP)
  refine ld (vi a.Tick) (wS Q) tE b2 ?_
  refine cl (wS Q) (Hc aq a.Tick 0 1000000) ?_
  rintro _ a3 ⟨aQ,rfl⟩
  have F:=b1.extk aQ
  refine pk (vb (i_within a.Tick 0 1000000)) wN Q ?_
  refine mw (vb (i_within a.Tick 0 1000000)) ?_
  rcases bf (i_within a.Tick 0 1000000) with R|R
  ·have jv:=Gh R
   iterate 4 refine sk R ?_
   refine pf (vb false) wN R ?_
   refine mw (vb false) ?_
   iterate 4 refine sk F1 ?_
   refine pf (vb false) wN F1 ?_
   refine aw (vb false) ?_
   refine uD<|uB<|rg<|sr ?_
   refine mw (vb false) ?_
   refine mw (vb false) ?_
   iterate 3 refine sk F1 ?_
   refine pf (vb false) wN F1 ?_
   refine aw (vb false) ?_
   refine n3<|rt (vb false) ?_
   refine ⟨F.keep0,?_⟩
   simp only [i_FrameOk,p,A,B,E,I,Q,R,cond_true,cond_false]
   exact rfl
  have jw:=FU R
  refine pu (vp d 5) (wS R) ?_
  have aR:=(b2.kp aQ)
  refine ld (vs s a.Cookie.length u) (wS R) uH aR ?_
  refine ln (wS R) tD (am.from0 F) ?_
  refine pu (vb (decide ((a.Cookie.length:Int)=16))) (wS R) ?_
  refine pk (vb (decide ((a.Cookie.length:Int)=16))) wN R ?_
  refine mw (vb (decide ((a.Cookie.length:Int)=16))) ?_
  rcases bf (decide ((a.Cookie.length:Int)=16)) with W|W
  ·have jx:=dF W
   iterate 4 refine sk W ?_
   refine pf (vb false) wN W ?_
   refine aw (vb false) ?_
   refine uD<|uB<|rg<|sr ?_
   refine mw (vb false) ?_
   refine mw (vb false) ?_
   iterate 3 refine sk F1 ?_
   refine pf (vb false) wN F1 ?_
   refine aw (vb false) ?_
   refine n3<|rt (vb false) ?_
   refine ⟨F.keep0,?_⟩
   simp only [i_FrameOk,p,A,B,E,I,Q,R,W,cond_true,cond_false]
   exact rfl
  have jy:=dT W
  refine pu (vp d 6) (wS W) ?_
  refine ld (vs J a.Proof.length K) (wS W) uH aR ?_
  refine ln (wS W) tD (av.from0 F) ?_
  refine pu (vb (decide ((a.Proof.length:Int)=16))) (wS W) ?_
  refine pk (vb (decide ((a.Proof.length:Int)=16))) wN W ?_
  refine aw (vb (decide ((a.Proof.length:Int)=16))) ?_
  refine uD<|uB<|rg<|sr ?_
  refine mw (vb (decide ((a.Proof.length:Int)=16))) ?_
  refine mw (vb (decide ((a.Proof.length:Int)=16))) ?_
  rcases bf (decide ((a.Proof.length:Int)=16)) with ab|ab
  ·have jz:=dF ab
   iterate 3 refine sk ab ?_
   refine pf (vb false) wN ab ?_
   refine aw (vb false) ?_
   refine n3<|rt (vb false) ?_
   refine ⟨F.keep0,?_⟩
   simp only [i_FrameOk,p,A,B,E,I,Q,R,W,ab,cond_true,cond_false]
   exact rfl
  have j0:=dT ab
  refine lN (HH a i j f g s u J K C D L M) (wS ab) Gg FD aR ?_
  have de:=((((dc.kp aL).kp aN).kp aP).kp aQ)
  refine lN [(vi a.Kind),(vi a.Id),(vs i a.Cn.length j),(vs f a.Sn.length g),(vi a.Tick),(vs s a.Cookie.length u),(vs J a.Proof.length K),(vi 0),(vi 0),(vs none 0 0),(vs none 0 0)] (wS ab) Gg FD de ?_
  refine cl (wS ab) (JM a3 _ a (IN (ac.from0 F) ad (ae.from0 F) af (am.from0 F) au (av.from0 F) a0 (ax.from0 F) a1 (ay.from0 F) a2) _ _ (show MH a3 (va [(vi a.Kind),(vi a.Id),(vs i a.Cn.length j),(vs f a.Sn.length g),(vi a.Tick),(vs s a.Cookie.length u),(vs J a.Proof.length K),(vi 0),(vi 0),(vs none 0 0),(vs none 0 0)]) {Kind:=a.Kind,Id:=a.Id,Cn:=a.Cn,Sn:=a.Sn,Tick:=a.Tick,Cookie:=a.Cookie,Proof:=a.Proof,Epoch:=0,Seq:=0,Body:=[],Tag:=[]:PFrame} from ⟨_,_,_,_,_,_,_,_,_,_,_,_,rfl,(ac.from0 F),ad,(ae.from0 F),af,(am.from0 F),au,(av.from0 F),a0,(Rd.nil _ _),(by simp),(Rd.nil _ _),(by simp)⟩)) ?_
  rintro _ aJ ⟨df,rfl⟩
  have dg:=F.extk df
  refine pk (vb (FW a {Kind:=a.Kind,Id:=a.Id,Cn:=a.Cn,Sn:=a.Sn,Tick:=a.Tick,Cookie:=a.Cookie,Proof:=a.Proof,Epoch:=0,Seq:=0,Body:=[],Tag:=[]:PFrame})) wN ab ?_
  refine aw (vb (FW a {Kind:=a.Kind,Id:=a.Id,Cn:=a.Cn,Sn:=a.Sn,Tick:=a.Tick,Cookie:=a.Cookie,Proof:=a.Proof,Epoch:=0,Seq:=0,Body:=[],Tag:=[]:PFrame})) ?_
  refine n3<|rt (vb (FW a {Kind:=a.Kind,Id:=a.Id,Cn:=a.Cn,Sn:=a.Sn,Tick:=a.Tick,Cookie:=a.Cookie,Proof:=a.Proof,Epoch:=0,Seq:=0,Body:=[],Tag:=[]:PFrame})) ?_
  refine ⟨dg.keep0,?_⟩
  simp only [i_FrameOk,p,A,B,E,I,Q,R,W,ab,cond_true,cond_false]
  exact rfl
theorem LQ {f:PFrame} (h:i_FrameOk f=true):f.Body.length≤40:=by
  have hs:∀ g:PFrame,FW f g=true→f.Body=g.Body:=fun g hg=>by
    simp only [FW,Bool.cond_false_right,Bool.and_eq_true,GK,NN,decide_eq_true_eq] at hg
    exact hg.2.2.2.2.2.2.2.2.2.1
  simp only [i_FrameOk,Bool.cond_false_right] at h
  cases h1:decide (f.Kind=1)
  · cases h2:decide (f.Kind=2)
    · cases h3:decide (f.Kind=3)
      · simp only [h1,h2,h3,cond_false,Bool.and_eq_true] at h
        have hb:=h.2.2.2.2.2.1
        simp only [GJ,cond_eq_ite,decide_eq_true_eq] at hb
        (repeat' split at hb) <;> (have hq:=dT hb;omega)
      · simp only [h1,h2,h3,cond_false,cond_true,Bool.and_eq_true] at h
        have hq:=hs _ h.2.2.2.2.2.2
        rw [hq];exact Nat.zero_le _
    · simp only [h1,h2,cond_false,cond_true,Bool.and_eq_true] at h
      have hq:=hs _ h.2.2.2.2
      rw [hq];exact Nat.zero_le _
  · simp only [h1,cond_true,Bool.and_eq_true] at h
    have hq:=hs _ h.2.2
    rw [hq];exact Nat.zero_le _

theorem Nf (i:World) (d:Int) (y:Value) (e:List UInt8) (T:HP i y e) (a:Int) (b:Int) :Fn Tryz.prog 118 #[(vi d),y,(vi a),(vi b)] i (fun v A=>Keep i A∧JF A i.heap.size v (FK d e a b)):=by
 obtain ⟨j,k,rfl,B,C⟩:=T
 refine FI (n:=37) [(vi d),(vs j e.length k),(vi a),(vi b)] Tryz.func118 rfl rfl ?_
 refine sr<|aw (vs none 0 0) ?_
 refine n4<|jT1 [(0,(vi d)),(1,(vs j e.length k)),(2,(vi a)),(3,(vi b)),(8,(vs none 0 0))] (FK d e a b=[]) ?_ fun r=>?_
 ·intro V D W a0
  have X:=(Ch.base i).extk W
  refine sr<|aw (vs none 0 0) ?_
  refine n1<|rt (vs none 0 0) ?_
  refine ⟨X.keep0,?_⟩
  rw [V]
  exact ⟨_,_,rfl,(by first|exact FL _ _ _ _|exact OLv.nil _ _ _ _),(by simp),⟨trivial,trivial⟩⟩
 refine mw (vi d) ?_
 refine cl wN (KN i d) ?_
 rintro _ D ⟨l,rfl⟩
 have E:=(Ch.base i).extk l
 refine pu (vb (!(GC d))) wN ?_
 refine mw (vb (!(GC d))) ?_
 rcases bf (GC d) with f|f
 ·have a1:=KJ f
  iterate 3 refine sk (cA not f) ?_
  refine pk (vb true) wN (cA not f) ?_
  refine mw (vb true) ?_
  iterate 3 refine sk T1 ?_
  refine pk (vb true) wN T1 ?_
  refine mw (vb true) ?_
  iterate 3 refine sk T1 ?_
  refine pk (vb true) wN T1 ?_
  refine n2<|ct T1 ?_
  have Y:FK d e a b=[]:=by first|exact IG (by omega)|exact IE (by omega) (by omega) (by omega) (by omega) (by simp [uN,KY,Mj])
  exact wj (r Y _ l)
 have a2:=Kf f
 refine mv (vs j e.length k) (wS (cA not f)) ?_
 refine cl (wS (cA not f)) (Iv D _ e (FV (B.from0 E) C)) ?_
 rintro _ Z ⟨o,rfl⟩
 refine pu (vb (!(FT e))) (wS (cA not f)) ?_
 refine pf (vb (!(FT e))) wN (cA not f) ?_
 refine mw (vb (!(FT e))) ?_
 rcases bf (FT e) with g|g
 ·have a3:=Is g
  iterate 3 refine sk (cA not g) ?_
  refine pk (vb true) wN (cA not g) ?_
  refine mw (vb true) ?_
  iterate 3 refine sk T1 ?_
  refine pk (vb true) wN T1 ?_
  refine n2<|ct T1 ?_
  have aa:FK d e a b=[]:=by first|exact IG (by omega)|exact IE (by omega) (by omega) (by omega) (by omega) (by simp [uN,KY,Mj])
  exact wj (r aa _ (l.trans o))
 have a4:=Ir g
 refine mv (vi a) (wS (cA not g)) ?_
 refine cl (wS (cA not g)) (Hc Z a 0 4294967295) ?_
 rintro _ ab ⟨s,rfl⟩
 have ac:=(E.extk o).extk s
 refine pu (vb (!(i_within a 0 4294967295))) (wS (cA not g)) ?_
 refine pf (vb (!(i_within a 0 4294967295))) wN (cA not g) ?_
 refine mw (vb (!(i_within a 0 4294967295))) ?_
 rcases bf (i_within a 0 4294967295) with h|h
 ·have a5:=Gh h
  iterate 3 refine sk (cA not h) ?_
  refine pk (vb true) wN (cA not h) ?_
  refine n2<|ct T1 ?_
  have ad:FK d e a b=[]:=by first|exact IG (by omega)|exact IE (by omega) (by omega) (by omega) (by omega) (by simp [uN,KY,Mj])
  exact wj (r ad _ ((l.trans o).trans s))
 have a6:=FU h
 refine mv (vi b) (wS (cA not h)) ?_
 refine cl (wS (cA not h)) (Hc ab b 0 281474976710655) ?_
 rintro _ a7 ⟨u,rfl⟩
 refine pu (vb (!(i_within b 0 281474976710655))) (wS (cA not h)) ?_
 refine pf (vb (!(i_within b 0 281474976710655))) wN (cA not h) ?_
 refine n2 ?_
 rcases bf (i_within b 0 281474976710655) with p|p
 ·have a8:=Gh p
  refine ct (cA not p) ?_
  have ae:FK d e a b=[]:=by first|exact IG (by omega)|exact IE (by omega) (by omega) (by omega) (by omega) (by simp [uN,KY,Mj])
  exact wj (r ae _ (((l.trans o).trans s).trans u))
 have a9:=FU p
 refine cf (cA not p)<|y1<|mw (vi d) ?_
 refine IU d wN rfl rfl (by kernel_rfl) ?_
 refine ltB ([(by8 d)]:List UInt8) wN tD ?_
 intro F G H I af
 have ah:=(ac.extk u).extk I
 refine mw (vs j e.length k) ?_
 refine mw (vi a) ?_
 refine cl wN (NQ H _ _ (show HP H (vs none 0 0) [] from ⟨_,_,rfl,(Rd.nil _ _),(by simp)⟩) a 4 (by first|omega|(simp;done)|(simp;omega)|(simp only [List.length_append,List.length_cons,List.length_nil] at *;omega))) ?_
 rintro _ J ⟨x,⟨K,M,rfl,ai,aj,aA⟩⟩
 have aB:=Nx a 4
 refine mw (vi b) ?_
 refine cl wN (NQ J _ _ (show HP J (vs none 0 0) [] from ⟨_,_,rfl,(Rd.nil _ _),(by simp)⟩) b 6 (by first|omega|(simp;done)|(simp;omega)|(simp only [List.length_append,List.length_cons,List.length_nil] at *;omega))) ?_
 rintro _ aC ⟨t,⟨N,O,rfl,ak,am,aD⟩⟩
 have aE:=Nx b 6
 refine JS [(vs F ([(by8 d)]:List UInt8).length G),(vs j e.length k),(vs K (HE [] a 4).length M),(vs N (HE [] b 6).length O)] wN rfl rfl IW (m:=4) rfl (by simp only [maxLen];omega) (fun w=>by kernel_rfl) ?_
 intro aF an q P
 obtain ⟨aG,aH,rfl⟩:=Hg P
 have Q:=((ah.extk x).extk t).extk q
 have ao:=(gc ak q)
 have ap:=(gc (gc ai t) q)
 have aq:=(gc (gc (gc af x) t) q)
 refine cl wN (JN an _ [([(by8 d)]:List UInt8),e,(HE [] a 4),(HE [] b 6)] (LO (RLv.mk (L:=Nj) [(([(by8 d)]:List UInt8),[(F,G)]),(e,[(j,k)]),((HE [] a 4),[(K,M)]),((HE [] b 6),[(N,O)])] (Rd.of_own P) rfl ⟨⟨⟨(Rd.of_own aq),(by simp)⟩,trivial⟩,⟨⟨⟨(B.from0 Q),C⟩,trivial⟩,⟨⟨⟨(Rd.of_own ap),aj⟩,trivial⟩,⟨⟨⟨(Rd.of_own ao),am⟩,trivial⟩,trivial⟩⟩⟩⟩ (by first|decide|exact Nat.le_of_ble_eq_true rfl)) (by first|decide|exact Nat.le_of_ble_eq_true rfl)) (by first|omega|(rw [HN];omega)|(rw [HN];simp only [List.length_cons,List.length_nil,Gz];omega)|(rw [JK];simp only [List.length_cons,List.length_nil,Gz];omega)|(simp only [uN,List.flatten_cons,List.flatten_nil,List.length_append,List.length_cons,List.length_nil,Gz];omega))) ?_
 rintro _ aI ⟨au,⟨R,S,rfl,av,ax,aJ⟩⟩
 have ay:=Q.extk au
 have aK:=(show (uN [([(by8 d)]:List UInt8),e,(HE [] a 4),(HE [] b 6)]).length=1+e.length+(HE [] a 4).length+(HE [] b 6).length by simp only [uN,List.flatten_cons,List.flatten_nil,List.length_append,List.length_cons,List.length_nil];omega)
 refine aw (vs R (uN [([(by8 d)]:List UInt8),e,(HE [] a 4),(HE [] b 6)]).length S) ?_
 refine n3<|rt (vs R (uN [([(by8 d)]:List UInt8),e,(HE [] a 4),(HE [] b 6)]).length S) ?_
 refine ⟨ay.keep0,?_⟩
 have az:FK d e a b=(uN [([(by8 d)]:List UInt8),e,(HE [] a 4),(HE [] b 6)]):=by first|exact IG (by omega)|exact IE (by omega) (by omega) (by omega) (by omega) (by simp [uN,KY,Mj])
 rw [az]
 exact ⟨_,_,rfl,(tA av (z8 l o s u I x t q)),ax,⟨trivial,trivial⟩⟩

theorem PM (b:World) (K:Value) (a:List UInt8) (ab:HP b K a) :Fn Tryz.prog 157 #[K] b (fun v f=>Keep b f∧JF f b.heap.size v (uF a)):=by
 obtain ⟨h,i,rfl,w,L⟩:=ab
 refine FI (n:=21) [(vs h a.length i)] Tryz.func157 rfl rfl ?_
 refine sr<|aw (vs none 0 0) ?_
 refine n4<|mw (vs h a.length i) ?_
 refine ln wN tD w ?_
 refine pu (vb (decide (1048576 < (a.length:Int)))) wN ?_
 refine n2 ?_
 rcases bt (decide (1048576 < (a.length:Int))) with m|m
 ·have a3:=dT m
  refine ct m<|sr<|aw (vs none 0 0) ?_
  refine n1<|rt (vs none 0 0) ?_
  refine ⟨Ch.refl _ _,?_⟩
  have ac:uF a=[]:=by first|exact Je (by omega)|exact Jd (by omega) (by omega) (by omega) (by simp only [List.length_append,List.length_replicate] at *;omega)|exact Jc (by omega) (by omega) (by simp only [List.length_append,List.length_replicate] at *;omega)
  rw [ac]
  exact ⟨_,_,rfl,(by first|exact FL _ _ _ _|exact OLv.nil _ _ _ _),(by simp),⟨trivial,trivial⟩⟩
 have a4:=dF m
 refine cf m<|y1<|mw (vs h a.length i) ?_
 refine cl wN (IR b _ a (FV w L)) ?_
 rintro _ g ⟨x,⟨y,A,rfl,ad,ae,a5⟩⟩
 have B:=(Ch.base b).extk x
 refine aw (vs y (a).length A) ?_
 refine n4<|mw (vs h a.length i) ?_
 refine ln wN tD (w.from0 B) ?_
 refine pu (vb (decide (64 < (a.length:Int)))) wN ?_
 refine n2 ?_
 rcases bf (decide (64 < (a.length:Int))) with o|o
 ·have a6:=dF o
  refine cf o<|FR<|rg<|uK<|uJ ?_
  have M:((a):List UInt8)=(a)++List.replicate 0 (0:UInt8):=by simp
  refine Ge [(2,(vs none 0 0)),(3,(.slice y ((a)++List.replicate 0 (0:UInt8)).length A))] ⟨rfl,(cA (fun l:List UInt8=>Value.slice y l.length A) M),trivial⟩ (fun e' f=>∃ (j:Nat) (N:Env) (d:Option Addr) (e:Nat),e'=pt N [(2,(vs none 0 0)),(3,(.slice d ((a)++List.replicate j (0:UInt8)).length e))]∧Ch (fun k=>b.heap.size≤k) b f∧Ch (fun k=>b.heap.size≤k) g f∧(a).length+j≤64∧(World.ownsRow f b.heap.size 5 1 (.slice d ((a)++List.replicate j (0:UInt8)).length e) ((a)++List.replicate j (0:UInt8)).length (((a)++List.replicate j (0:UInt8)).map bV)∧((a)++List.replicate j (0:UInt8)).length≤1073741824)) (fun e' _=>64 - (lenOf (e' 3))) ?_ ?_
  ·exact fun u=>⟨0,u,y,A,rfl,B,(Ch.refl (fun k=>b.heap.size≤k) g),(by omega),(M ▸ ⟨ad,ae⟩)⟩
  ·rintro _ p ⟨j,N,d,e,rfl,O,P,a7,⟨q,af⟩⟩
   have hol:((a)++List.replicate j (0:UInt8)).length=(a).length+j:=by rw [List.length_append,List.length_replicate]
   refine uK<|sr<|mw (vs d ((a)++List.replicate j (0:UInt8)).length e) ?_
   refine ln wN tD (Rd.of_own q) ?_
   refine pu (vb (decide ((((a)++List.replicate j (0:UInt8)).length:Int) < 64))) wN ?_
   refine n2 ?_
   rcases bf (decide ((((a)++List.replicate j (0:UInt8)).length:Int) < 64)) with r|r
   ·have a8:=dF r
    refine cf r<|Gn<|uA<|uA<|wr<|rg<|sr<|mw (vs d ((a)++List.replicate j (0:UInt8)).length e) ?_
    refine aw (vs d ((a)++List.replicate j (0:UInt8)).length e) ?_
    refine n3<|rt (vs d ((a)++List.replicate j (0:UInt8)).length e) ?_
    refine ⟨O.keep0,?_⟩
    have ah:uF a=((a)++List.replicate j (0:UInt8)):=by first|exact Je (by omega)|exact Jd (by omega) (by omega) (by omega) (by simp only [List.length_append,List.length_replicate] at *;omega)|exact Jc (by omega) (by omega) (by simp only [List.length_append,List.length_replicate] at *;omega)
    rw [ah]
    exact ⟨_,_,rfl,q,af,⟨trivial,trivial⟩⟩
   have a9:=dT r
   refine ct r<|FR<|rg<|uJ<|uG ?_
   refine mw (vs d ((a)++List.replicate j (0:UInt8)).length e) ?_
   refine ltB ([0]:List UInt8) wN tD ?_
   intro aA aB Q C ai
   have aj:=(gc q C)
   refine apB ((a)++List.replicate j (0:UInt8)) ([0]:List UInt8) wN tD aj (Rd.of_own ai) (z3 x P C) ?_
   intro D E ak R am aC an
   have ao:=(O.extk C).ext R (fun k hk=>nT (Nat.le_refl b.heap.size) (uI q k hk).1)
   refine aw (vs D (((a)++List.replicate j (0:UInt8))++([0]:List UInt8)).length E) ?_
   refine uD<|uB ?_
   have S:((((a)++List.replicate j (0:UInt8))++([0]:List UInt8)):List UInt8)=(a)++List.replicate (j+1) (0:UInt8):=by rw [List.replicate_succ',List.append_assoc]
   refine FX (w0:=p) [(2,(vs none 0 0)),(3,(.slice D ((a)++List.replicate (j+1) (0:UInt8)).length E))] ?_ ?_ ?_
   · exact ⟨rfl,(cA (fun l:List UInt8=>Value.slice D l.length E) S),trivial⟩
   · exact fun u=>⟨(j+1),u,D,E,rfl,ao,((((Ch.refl (fun k=>b.heap.size≤k) g).ext P (fun k hk=>hk)).extk C).ext R (fun k hk=>nT (Nat.le_refl b.heap.size) (uI q k hk).1)),(by omega),(S ▸ ⟨am,an⟩)⟩
   · show 64 - ((a)++List.replicate (j+1) (0:UInt8)).length < 64 - ((a)++List.replicate j (0:UInt8)).length;simp only [List.length_append,List.length_replicate];omega
 have aD:=dT o
 refine ct o<|uG ?_
 refine mw (vs h a.length i) ?_
 refine cl wN (Ss g _ a (FV (w.from0 B) L)) ?_
 rintro _ p ⟨T,⟨F,G,rfl,ap,aq,aE⟩⟩
 have au:=B.extk T
 have aF:=Kz a
 refine aw (vs F (sha a).length G) ?_
 refine uD<|rg<|uK<|uJ ?_
 have V:((sha a):List UInt8)=(sha a)++List.replicate 0 (0:UInt8):=by simp
 refine Ge [(2,(vs none 0 0)),(3,(.slice F ((sha a)++List.replicate 0 (0:UInt8)).length G))] ⟨rfl,(cA (fun l:List UInt8=>Value.slice F l.length G) V),trivial⟩ (fun e' f=>∃ (j:Nat) (W:Env) (d:Option Addr) (e:Nat),e'=pt W [(2,(vs none 0 0)),(3,(.slice d ((sha a)++List.replicate j (0:UInt8)).length e))]∧Ch (fun k=>b.heap.size≤k) b f∧Ch (fun k=>g.heap.size≤k) p f∧(sha a).length+j≤64∧(World.ownsRow f g.heap.size 5 1 (.slice d ((sha a)++List.replicate j (0:UInt8)).length e) ((sha a)++List.replicate j (0:UInt8)).length (((sha a)++List.replicate j (0:UInt8)).map bV)∧((sha a)++List.replicate j (0:UInt8)).length≤1073741824)) (fun e' _=>64 - (lenOf (e' 3))) ?_ ?_
 ·exact fun u=>⟨0,u,F,G,rfl,au,(Ch.refl (fun k=>g.heap.size≤k) p),(by omega),(V ▸ ⟨ap,aq⟩)⟩
 ·rintro _ Q ⟨j,W,d,e,rfl,X,Y,aG,⟨s,av⟩⟩
  have hol:((sha a)++List.replicate j (0:UInt8)).length=(sha a).length+j:=by rw [List.length_append,List.length_replicate]
  refine uK<|sr<|mw (vs d ((sha a)++List.replicate j (0:UInt8)).length e) ?_
  refine ln wN tD (Rd.of_own s) ?_
  refine pu (vb (decide ((((sha a)++List.replicate j (0:UInt8)).length:Int) < 64))) wN ?_
  refine n2 ?_
  rcases bf (decide ((((sha a)++List.replicate j (0:UInt8)).length:Int) < 64)) with t|t
  ·have aH:=dF t
   refine cf t<|Gn<|uA<|uA<|wr<|rg<|sr<|mw (vs d ((sha a)++List.replicate j (0:UInt8)).length e) ?_
   refine aw (vs d ((sha a)++List.replicate j (0:UInt8)).length e) ?_
   refine n3<|rt (vs d ((sha a)++List.replicate j (0:UInt8)).length e) ?_
   refine ⟨X.keep0,?_⟩
   have ax:uF a=((sha a)++List.replicate j (0:UInt8)):=by first|exact Je (by omega)|exact Jd (by omega) (by omega) (by omega) (by simp only [List.length_append,List.length_replicate] at *;omega)|exact Jc (by omega) (by omega) (by simp only [List.length_append,List.length_replicate] at *;omega)
   rw [ax]
   exact ⟨_,_,rfl,(tA s x.size),av,⟨trivial,trivial⟩⟩
  have aI:=dT t
  refine ct t<|FR<|rg<|uJ<|uG ?_
  refine mw (vs d ((sha a)++List.replicate j (0:UInt8)).length e) ?_
  refine ltB ([0]:List UInt8) wN tD ?_
  intro aJ aK ak H ay
  have az:=(gc s H)
  refine apB ((sha a)++List.replicate j (0:UInt8)) ([0]:List UInt8) wN tD az (Rd.of_own ay) (z3 T Y H) ?_
  intro I J aL Z a0 aM a1
  have a2:=(X.extk H).ext Z (fun k hk=>nT x.size (uI s k hk).1)
  refine aw (vs I (((sha a)++List.replicate j (0:UInt8))++([0]:List UInt8)).length J) ?_
  refine uD<|uB ?_
  have aa:((((sha a)++List.replicate j (0:UInt8))++([0]:List UInt8)):List UInt8)=(sha a)++List.replicate (j+1) (0:UInt8):=by rw [List.replicate_succ',List.append_assoc]
  refine FX (w0:=Q) [(2,(vs none 0 0)),(3,(.slice I ((sha a)++List.replicate (j+1) (0:UInt8)).length J))] ?_ ?_ ?_
  · exact ⟨rfl,(cA (fun l:List UInt8=>Value.slice I l.length J) aa),trivial⟩
  · exact fun u=>⟨(j+1),u,I,J,rfl,a2,((((Ch.refl (fun k=>g.heap.size≤k) p).ext Y (fun k hk=>hk)).extk H).ext Z (fun k hk=>nT (Nat.le_refl g.heap.size) (uI s k hk).1)),(by omega),(aa ▸ ⟨a0,a1⟩)⟩
  · show 64 - ((sha a)++List.replicate (j+1) (0:UInt8)).length < 64 - ((sha a)++List.replicate j (0:UInt8)).length;simp only [List.length_append,List.length_replicate];omega

theorem Pa (d:World) (B:Value) (a:List UInt8) (K:HP d B a) (b:UInt8) :Fn Tryz.prog 158 #[B,(v8 ((b).toNat:Int))] d (fun v g=>Keep d g∧JF g d.heap.size v (Gw a b)):=by
 obtain ⟨h,i,rfl,s,V⟩:=K
 refine FI (n:=23) [(vs h a.length i),(v8 ((b).toNat:Int))] Tryz.func158 rfl rfl ?_
 refine sr<|aw (vs none 0 0) ?_
 refine nx<|Gc wN rfl rfl tD (fun w=>by kernel_rfl) ?_
 intro t A C L
 have D:=(Ch.base d).extk C
 refine aw (vs (some t) 0 0) ?_
 refine n4<|mw (vs h a.length i) ?_
 refine ln wN tD (s.from0 D) ?_
 refine mw (vi 0) ?_
 refine uD<|rg<|uJ ?_
 have E:([]:List UInt8)=(a.take 0).map (fun y=>y^^^b):=by rfl
 have F:0=((a.take 0).map (fun y=>y^^^b)).length:=by rw [← E];try (first|rfl|simp only [List.length_set]|simp)
 refine Ge [(1,(v8 ((b).toNat:Int))),(4,(vs none 0 0)),(5,(.slice (some t) ((a.take 0).map (fun y=>y^^^b)).length 0)),(9,(vs h a.length i)),(10,(vi (a.length:Int))),(11,(vi ((0:Nat):Int)))] ⟨rfl,rfl,rfl,rfl,rfl,(cA (Value.int .i64) (show (0:Int)=((0:Nat):Int) by omega)),trivial⟩ (fun e' g=>∃ (k:Nat) (G:Env) (e:Option Addr) (f:Nat),e'=pt G [(1,(v8 ((b).toNat:Int))),(4,(vs none 0 0)),(5,(.slice e ((a.take k).map (fun y=>y^^^b)).length f)),(9,(vs h a.length i)),(10,(vi (a.length:Int))),(11,(vi ((k:Nat):Int)))]∧Ch (fun k=>d.heap.size≤k) d g∧Ch (fun k=>d.heap.size≤k) A g∧k≤a.length∧(World.ownsRow g d.heap.size 5 1 (.slice e ((a.take k).map (fun y=>y^^^b)).length f) ((a.take k).map (fun y=>y^^^b)).length (((a.take k).map (fun y=>y^^^b)).map bV)∧((a.take k).map (fun y=>y^^^b)).length≤1073741824)) (fun e' _=>a.length - ((intOf (e' 11))).toNat) ?_ ?_
 ·exact fun u=>⟨0,u,(some t),0,rfl,D,(Ch.refl (fun k=>d.heap.size≤k) A),(by omega),⟨(by rw [← F,← E];exact L),(by rw [← F];first|exact (by simp)|(simp only [List.length_append,List.length_take,List.length_replicate];omega))⟩⟩
 ·rintro _ M ⟨k,G,e,f,rfl,m,H,W,⟨o,N⟩⟩
  have hml:((a.take k).map (fun y=>y^^^b)).length=min k a.length:=by rw [List.length_map,List.length_take]
  refine sr<|pu (vb (decide (((k:Nat):Int) < (a.length:Int)))) wN ?_
  refine uD<|rg<|uK ?_
  rcases bf (decide (((k:Nat):Int) < (a.length:Int))) with j|j
  ·have X:=dF j
   refine cf j<|Gn<|uA<|uA<|wr<|rg<|sr<|mw (vs e ((a.take k).map (fun y=>y^^^b)).length f) ?_
   refine aw (vs e ((a.take k).map (fun y=>y^^^b)).length f) ?_
   refine n3<|rt (vs e ((a.take k).map (fun y=>y^^^b)).length f) ?_
   refine ⟨m.keep0,?_⟩
   have O:Gw a b=((a.take k).map (fun y=>y^^^b)):=by exact (Tp (by omega)).symm
   rw [O]
   exact ⟨_,_,rfl,o,N,⟨trivial,trivial⟩⟩
  have Y:=dT j
  refine ct j<|FR<|rg<|uK<|uJ<|sr<|ix wN ((k:Nat):Int) tD (s.from0 m) ?_
  refine eb (x:=a) k wN HI (s.from0 m) ?_
  refine aw (v8 ((a.getD k 0).toNat:Int)) ?_
  refine uD<|rg<|uG ?_
  refine mw (vs e ((a.take k).map (fun y=>y^^^b)).length f) ?_
  refine mw (v8 ((a.getD k 0).toNat:Int)) ?_
  refine mw (v8 ((b).toNat:Int)) ?_
  refine Kj (a.getD k 0) (b) wN rfl rfl (by kernel_rfl) ?_
  refine ltB ([((a.getD k 0)^^^(b))]:List UInt8) wN tD ?_
  intro Z aa ab p P
  have Q:=(gc o p)
  refine apB ((a.take k).map (fun y=>y^^^b)) ([((a.getD k 0)^^^(b))]:List UInt8) wN tD Q (Rd.of_own P) (z3 C H p) ?_
  intro q r ac I R ad S
  have T:=(m.extk p).ext I (fun k hk=>nT (Nat.le_refl d.heap.size) (uI o k hk).1)
  refine aw (vs q (((a.take k).map (fun y=>y^^^b))++([((a.getD k 0)^^^(b))]:List UInt8)).length r) ?_
  refine uD<|uB<|rg<|uG ?_
  refine ar (((k:Nat):Int)+1) wN ?_
  refine mw (vi (((k:Nat):Int)+1)) ?_
  refine uD ?_
  have J:((((a.take k).map (fun y=>y^^^b))++([((a.getD k 0)^^^(b))]:List UInt8)):List UInt8)=(a.take (k+1)).map (fun y=>y^^^b):=by exact OS (z:=0) (by omega)
  refine FX (w0:=M) [(1,(v8 ((b).toNat:Int))),(4,(vs none 0 0)),(5,(.slice q ((a.take (k+1)).map (fun y=>y^^^b)).length r)),(9,(vs h a.length i)),(10,(vi (a.length:Int))),(11,(vi (((k+1):Nat):Int)))] ?_ ?_ ?_
  · exact ⟨rfl,rfl,(cA (fun l:List UInt8=>Value.slice q l.length r) J),rfl,rfl,(cA (Value.int .i64) (show ((((k:Nat):Int)+1):Int)=(((k+1):Nat):Int) by omega)),trivial⟩
  · exact fun u=>⟨(k+1),u,q,r,rfl,T,((((Ch.refl (fun k=>d.heap.size≤k) A).ext H (fun k hk=>hk)).extk p).ext I (fun k hk=>nT (Nat.le_refl d.heap.size) (uI o k hk).1)),(by omega),(J ▸ ⟨R,S⟩)⟩
  · show a.length - ((((k+1):Nat):Int)).toNat < a.length - (((k:Nat):Int)).toNat;omega

theorem SW (e:World) (u:Value) (a:List UInt8) (V:HP e u a) (x:Value) (b:List UInt8) (W:HP e x b) :Fn Tryz.prog 148 #[u,x] e (fun v y=>Keep e y∧JF y e.heap.size v (Iu a b)):=by
 obtain ⟨i,j,rfl,A,X⟩:=V
 obtain ⟨f,g,rfl,B,Y⟩:=W
 refine FI (n:=27) [(vs i a.length j),(vs f b.length g)] Tryz.func148 rfl rfl ?_
 refine sr<|aw (vs none 0 0) ?_
 refine n4<|jT1 [(0,(vs i a.length j)),(1,(vs f b.length g)),(4,(vs none 0 0))] (Iu a b=[]) ?_ fun C=>?_
 ·intro Z D aa aA
  have ab:=(Ch.base e).extk aa
  refine sr<|aw (vs none 0 0) ?_
  refine n1<|rt (vs none 0 0) ?_
  refine ⟨ab.keep0,?_⟩
  rw [Z]
  exact ⟨_,_,rfl,(by first|exact FL _ _ _ _|exact OLv.nil _ _ _ _),(by simp),⟨trivial,trivial⟩⟩
 refine mw (vs i a.length j) ?_
 refine ln wN tD A ?_
 refine pu (vb (decide (1048576 < (a.length:Int)))) wN ?_
 refine mw (vb (decide (1048576 < (a.length:Int)))) ?_
 rcases bt (decide (1048576 < (a.length:Int))) with d|d
 ·have aB:=dT d
  iterate 3 refine sk d ?_
  refine pk (vb true) wN d ?_
  refine n2<|ct T1 ?_
  have ac:Iu a b=[]:=by first|exact Mz (by omega)|exact My (by omega) (by omega)|exact QC (by omega) (by omega)
  exact wj (C ac _ (Ch.refl _ _))
 have aC:=dF d
 refine mv (vs f b.length g) (wS d) ?_
 refine ln (wS d) tD B ?_
 refine pu (vb (decide (1048512 < (b.length:Int)))) (wS d) ?_
 refine pf (vb (decide (1048512 < (b.length:Int)))) wN d ?_
 refine n2 ?_
 rcases bt (decide (1048512 < (b.length:Int))) with h|h
 ·have aD:=dT h
  refine ct h ?_
  have ad:Iu a b=[]:=by first|exact Mz (by omega)|exact My (by omega) (by omega)|exact QC (by omega) (by omega)
  exact wj (C ad _ (Ch.refl _ _))
 have aE:=dF h
 refine cf h<|y1<|mw (vs i a.length j) ?_
 refine cl wN (PM e _ a (FV A X)) ?_
 rintro _ D ⟨E,⟨o,p,rfl,F,G,aF⟩⟩
 have aG:=Ko a
 refine aw (vs o (uF a).length p) ?_
 refine nx<|mw (vs o (uF a).length p) ?_
 refine cl wN (Pa D _ (uF a) (FV (Rd.of_own F) G) 92) ?_
 rintro _ ae ⟨q,⟨H,I,rfl,af,ah,aH⟩⟩
 have ai:=((Ch.base e).extk E).extk q
 have aI:=Gz (uF a) 92
 refine mw (vs o (uF a).length p) ?_
 have aj:=(gc F q)
 refine cl wN (Pa ae _ (uF a) (FV (Rd.of_own aj) G) 54) ?_
 rintro _ aJ ⟨r,⟨J,K,rfl,ak,am,aK⟩⟩
 have aL:=Gz (uF a) 54
 refine mw (vs f b.length g) ?_
 refine JS [(vs J (Gw (uF a) 54).length K),(vs f b.length g)] wN rfl rfl IW (m:=2) rfl (by simp only [maxLen];omega) (fun w=>by kernel_rfl) ?_
 intro aM an k M
 obtain ⟨aN,aO,rfl⟩:=Hg M
 have N:=(ai.extk r).extk k
 have ao:=(gc ak k)
 refine cl wN (JN an _ [(Gw (uF a) 54),b] (LO (RLv.mk (L:=Nj) [((Gw (uF a) 54),[(J,K)]),(b,[(f,g)])] (Rd.of_own M) rfl ⟨⟨⟨(Rd.of_own ao),am⟩,trivial⟩,⟨⟨⟨(B.from0 N),Y⟩,trivial⟩,trivial⟩⟩ (by first|decide|exact Nat.le_of_ble_eq_true rfl)) (by first|decide|exact Nat.le_of_ble_eq_true rfl)) (by first|omega|(rw [HN];omega)|(rw [HN];simp only [List.length_cons,List.length_nil,Gz];omega)|(rw [JK];simp only [List.length_cons,List.length_nil,Gz];omega)|(simp only [uN,List.flatten_cons,List.flatten_nil,List.length_append,List.length_cons,List.length_nil,Gz];omega))) ?_
 rintro _ ap ⟨s,⟨aP,aQ,rfl,aq,au,aR⟩⟩
 have aS:=(show (uN [(Gw (uF a) 54),b]).length=(Gw (uF a) 54).length+b.length by simp only [uN,List.flatten_cons,List.flatten_nil,List.length_append,List.length_cons,List.length_nil];omega)
 refine cl wN (Ss ap _ (uN [(Gw (uF a) 54),b]) (FV (Rd.of_own aq) au)) ?_
 rintro _ aT ⟨t,⟨O,P,rfl,av,ax,aU⟩⟩
 have ay:=(N.extk s).extk t
 have aV:=Kz (uN [(Gw (uF a) 54),b])
 refine JS [(vs H (Gw (uF a) 92).length I),(vs O (sha (uN [(Gw (uF a) 54),b])).length P)] wN rfl rfl IW (m:=2) rfl (by simp only [maxLen];omega) (fun w=>by kernel_rfl) ?_
 intro aW az l Q
 obtain ⟨aX,aY,rfl⟩:=Hg Q
 have a0:=(gc av l)
 have a1:=(gc (gc (gc (gc (gc af r) k) s) t) l)
 refine cl wN (JN az _ [(Gw (uF a) 92),(sha (uN [(Gw (uF a) 54),b]))] (LO (RLv.mk (L:=Nj) [((Gw (uF a) 92),[(H,I)]),((sha (uN [(Gw (uF a) 54),b])),[(O,P)])] (Rd.of_own Q) rfl ⟨⟨⟨(Rd.of_own a1),ah⟩,trivial⟩,⟨⟨⟨(Rd.of_own a0),ax⟩,trivial⟩,trivial⟩⟩ (by first|decide|exact Nat.le_of_ble_eq_true rfl)) (by first|decide|exact Nat.le_of_ble_eq_true rfl)) (by first|omega|(rw [HN];omega)|(rw [HN];simp only [List.length_cons,List.length_nil,Gz];omega)|(rw [JK];simp only [List.length_cons,List.length_nil,Gz];omega)|(simp only [uN,List.flatten_cons,List.flatten_nil,List.length_append,List.length_cons,List.length_nil,Gz];omega))) ?_
 rintro _ a2 ⟨R,⟨aZ,ba,rfl,a3,a4,bb⟩⟩
 have bc:=(show (uN [(Gw (uF a) 92),(sha (uN [(Gw (uF a) 54),b]))]).length=(Gw (uF a) 92).length+(sha (uN [(Gw (uF a) 54),b])).length by simp only [uN,List.flatten_cons,List.flatten_nil,List.length_append,List.length_cons,List.length_nil];omega)
 refine cl wN (Ss a2 _ (uN [(Gw (uF a) 92),(sha (uN [(Gw (uF a) 54),b]))]) (FV (Rd.of_own a3) a4)) ?_
 rintro _ bd ⟨a5,⟨S,T,rfl,a6,a7,be⟩⟩
 have a8:=((ay.extk l).extk R).extk a5
 have bg:=Kz (uN [(Gw (uF a) 92),(sha (uN [(Gw (uF a) 54),b]))])
 refine aw (vs S (sha (uN [(Gw (uF a) 92),(sha (uN [(Gw (uF a) 54),b]))])).length T) ?_
 refine n3<|rt (vs S (sha (uN [(Gw (uF a) 92),(sha (uN [(Gw (uF a) 54),b]))])).length T) ?_
 refine ⟨a8.keep0,?_⟩
 have a9:Iu a b=(sha (uN [(Gw (uF a) 92),(sha (uN [(Gw (uF a) 54),b]))])):=by first|exact Mz (by omega)|exact My (by omega) (by omega)|exact QC (by omega) (by omega)
 rw [a9]
 exact ⟨_,_,rfl,(tA a6 (z8 E q r k s t l R)),a7,⟨trivial,trivial⟩⟩

theorem Re (f:World) (p:Value) (d:List UInt8) (I:HP f p d) (q:Value) (a:List UInt8) (J:HP f q a) (b:Int) :Fn Tryz.prog 159 #[p,q,(vi b)] f (fun v r=>Keep f r∧JF r f.heap.size v (Jl d a b)):=by
 obtain ⟨k,l,rfl,K,M⟩:=I
 obtain ⟨g,h,rfl,s,N⟩:=J
 refine FI (n:=23) [(vs k d.length l),(vs g a.length h),(vi b)] Tryz.func159 rfl rfl ?_
 refine sr<|aw (vs none 0 0) ?_
 refine n4<|jT1 [(0,(vs k d.length l)),(1,(vs g a.length h)),(2,(vi b)),(6,(vs none 0 0))] (Jl d a b=[]) ?_ fun t=>?_
 ·intro O P Q ak
  have R:=(Ch.base f).extk Q
  refine sr<|aw (vs none 0 0) ?_
  refine n1<|rt (vs none 0 0) ?_
  refine ⟨R.keep0,?_⟩
  rw [O]
  exact ⟨_,_,rfl,(by first|exact FL _ _ _ _|exact OLv.nil _ _ _ _),(by simp),⟨trivial,trivial⟩⟩
 refine mw (vi b) ?_
 refine cl wN (Hc f b 0 6) ?_
 rintro _ P ⟨j,rfl⟩
 have u:=(Ch.base f).extk j
 refine pu (vb (!(i_within b 0 6))) wN ?_
 refine mw (vb (!(i_within b 0 6))) ?_
 rcases bf (i_within b 0 6) with e|e
 ·have am:=Gh e
  iterate 3 refine sk (cA not e) ?_
  refine pk (vb true) wN (cA not e) ?_
  refine n2<|ct T1 ?_
  have S:Jl d a b=[]:=by first|exact Kq (by omega)|exact Kp (by omega) (by omega) (by omega) (by simp [uN])
  exact wj (t S _ j)
 have an:=FU e
 refine mv (vs g a.length h) (wS (cA not e)) ?_
 refine ln (wS (cA not e)) tD (s.from0 u) ?_
 refine pu (vb (decide (100 < (a.length:Int)))) (wS (cA not e)) ?_
 refine pf (vb (decide (100 < (a.length:Int)))) wN (cA not e) ?_
 refine n2 ?_
 rcases bt (decide (100 < (a.length:Int))) with i|i
 ·have ao:=dT i
  refine ct i ?_
  have T:Jl d a b=[]:=by first|exact Kq (by omega)|exact Kp (by omega) (by omega) (by omega) (by simp [uN])
  exact wj (t T _ j)
 have ap:=dF i
 refine cf i<|y1<|mw (vs k d.length l) ?_
 refine ltB ([115]:List UInt8) wN tD ?_
 intro x y aq A V
 refine mw (vs g a.length h) ?_
 refine JS [(vs x ([115]:List UInt8).length y),(vs g a.length h)] wN rfl rfl IW (m:=2) rfl (by simp only [maxLen];omega) (fun w=>by kernel_rfl) ?_
 intro au W o B
 obtain ⟨av,ax,rfl⟩:=Hg B
 have C:=(u.extk A).extk o
 have X:=(gc V o)
 refine cl wN (JN W _ [([115]:List UInt8),a] (LO (RLv.mk (L:=Nj) [(([115]:List UInt8),[(x,y)]),(a,[(g,h)])] (Rd.of_own B) rfl ⟨⟨⟨(Rd.of_own X),(by simp)⟩,trivial⟩,⟨⟨⟨(s.from0 C),N⟩,trivial⟩,trivial⟩⟩ (by first|decide|exact Nat.le_of_ble_eq_true rfl)) (by first|decide|exact Nat.le_of_ble_eq_true rfl)) (by first|omega|(rw [HN];omega)|(rw [HN];simp only [List.length_cons,List.length_nil,Gz];omega)|(rw [JK];simp only [List.length_cons,List.length_nil,Gz];omega)|(simp only [uN,List.flatten_cons,List.flatten_nil,List.length_append,List.length_cons,List.length_nil,Gz];omega))) ?_
 rintro _ Y ⟨D,⟨ay,az,rfl,Z,aa,a0⟩⟩
 have a1:=(show (uN [([115]:List UInt8),a]).length=1+a.length by simp only [uN,List.flatten_cons,List.flatten_nil,List.length_append,List.length_cons,List.length_nil];omega)
 refine mw (vi b) ?_
 refine cl wN (NQ Y _ (uN [([115]:List UInt8),a]) (FV (Rd.of_own Z) aa) b 4 (by first|omega|(simp;done)|(simp;omega)|(simp only [List.length_append,List.length_cons,List.length_nil] at *;omega))) ?_
 rintro _ ab ⟨E,⟨a2,a3,rfl,ac,ad,a4⟩⟩
 have F:=(C.extk D).extk E
 have a5:=Iq (uN [([115]:List UInt8),a]) b 4
 refine cl wN (SW ab _ d (FV (K.from0 F) M) _ (HE (uN [([115]:List UInt8),a]) b 4) (FV (Rd.of_own ac) ad)) ?_
 rintro _ a6 ⟨ae,⟨G,H,rfl,af,ah,a7⟩⟩
 have ai:=F.extk ae
 have a8:=Km d (HE (uN [([115]:List UInt8),a]) b 4)
 refine aw (vs G (Iu d (HE (uN [([115]:List UInt8),a]) b 4)).length H) ?_
 refine n3<|rt (vs G (Iu d (HE (uN [([115]:List UInt8),a]) b 4)).length H) ?_
 refine ⟨ai.keep0,?_⟩
 have aj:Jl d a b=(Iu d (HE (uN [([115]:List UInt8),a]) b 4)):=by first|exact Kq (by omega)|exact Kp (by omega) (by omega) (by omega) (by simp [uN])
 rw [aj]
 exact ⟨_,_,rfl,(tA af (z5 j A o D E)),ah,⟨trivial,trivial⟩⟩
end Go.Proofs.YtacoceibbheccaaGreat.K
