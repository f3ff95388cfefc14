import Derived.Test.YtacoceibbheccaaGreatCore
import Derived.Test.YtacoceibbheccaaGreatProg
import Derived.Test.YtacoceibbheccaaGreatHeld
import Derived.Test.YtacoceibbheccaaGreatFun
import Derived.Test.YtacoceibbheccaaGreatFunZ
import Derived.Test.YtacoceibbheccaaGreatSqz
import Derived.Test.YtacoceibbheccaaGreatHash
import Derived.Test.YtacoceibbheccaaGreatCur
import Derived.Test.YtacoceibbheccaaGreatDrawW
import Derived.Test.YtacoceibbheccaaGreatAead
import Derived.Test.YtacoceibbheccaaGreatWe4
namespace Go.Proofs.YtacoceibbheccaaGreat.K
open Go.RowKit
set_option linter.unusedVariables false
set_option linter.unusedSimpArgs false
set_option maxRecDepth 100000
set_option maxHeartbeats 4000000
def FO (a:PFrame):(Bool):=bif (Hz a.Kind) then (bif (decide (a.Id=0)) then (bif (decide ((a.Cn.length:Int)=0)) then (bif (decide ((a.Sn.length:Int)=12)) then (bif (decide (a.Tick=0)) then (bif (decide ((a.Cookie.length:Int)=0)) then (bif (decide ((a.Proof.length:Int)=0)) then (bif (FP a.Epoch 0 4294967295) then (bif (FP a.Seq 0 281474976710655) then (bif (HK a.Kind (a.Body.length:Int)) then (decide ((a.Tag.length:Int)=16)) else (false)) else (false)) else (false)) else (false)) else (false)) else (false)) else (false)) else (false)) else (false)) else (bif (decide (a.Epoch=0)) then (bif (decide (a.Seq=0)) then (bif (decide ((a.Body.length:Int)=0)) then (bif (decide ((a.Tag.length:Int)=0)) then (bif (decide ((a.Cn.length:Int)=12)) then (bif (decide (a.Kind=1)) then (bif (FP a.Id 1 9) then (bif (decide ((a.Sn.length:Int)=0)) then (bif (decide (a.Tick=0)) then (bif (decide ((a.Cookie.length:Int)=0)) then (decide ((a.Proof.length:Int)=0)) else (false)) else (false)) else (false)) else (false)) else (bif (decide (a.Kind=2)) then (bif (decide (a.Id=0)) then (bif (decide ((a.Sn.length:Int)=12)) then (bif (FP a.Tick 0 1000000) then (bif (decide ((a.Cookie.length:Int)=16)) then (decide ((a.Proof.length:Int)=0)) else (false)) else (false)) else (false)) else (false)) else (bif (decide (a.Kind=3)) then (bif (FP a.Id 1 9) then (bif (decide ((a.Sn.length:Int)=12)) then (bif (FP a.Tick 0 1000000) then (bif (decide ((a.Cookie.length:Int)=16)) then (decide ((a.Proof.length:Int)=16)) else (false)) else (false)) else (false)) else (false)) else (false)))) else (false)) else (false)) else (false)) else (false)) else (false))
theorem NO (W:World) (ay:Value) (a:PFrame) (aF:MH W ay a) :Fn Tryz.prog 34 #[ay] W (fun v az=>Keep W az∧O_4 az W.heap.size v (FO a)):=by
 obtain ⟨aa,ab,O,P,Q,R,S,T,ac,ad,ae,af,rfl,a0,aR,ah,aS,ai,aT,aj,aU,a1,aV,a2,aW⟩:=aF
 refine FI (n:=174) [(va (HH a aa ab O P Q R S T ac ad ae af))] Tryz.func34 rfl rfl ?_
 refine sr<|bx (HH a aa ab O P Q R S T ac ad ae af) wN ?_
 intro b aG aX aY aH ao
 refine aw (vb false) ?_
 refine n4<|pu (vp b 0) wN ?_
 refine ld (vi a.Kind) wN tE ao ?_
 refine cl wN (Nb aG a.Kind) ?_
 rintro _ ak ⟨ap,rfl⟩
 have i:=((Ch.base W).extk aH).extk ap
 refine n2 ?_
 rcases bt (Hz a.Kind) with d|d
 ·refine ct d<|sr<|pu (vp b 1) wN ?_
  have M:=(ao.kp ap)
  refine ld (vi a.Id) wN tE M ?_
  refine pu (vb (decide (a.Id=0))) wN ?_
  refine mw (vb (decide (a.Id=0))) ?_
  rcases bf (decide (a.Id=0)) with l|l
  ·have aZ:=dF l
   iterate 4 refine sk l ?_
   refine pf (vb false) wN l ?_
   refine mw (vb false) ?_
   iterate 4 refine sk F1 ?_
   refine pf (vb false) wN F1 ?_
   refine mw (vb false) ?_
   iterate 3 refine sk F1 ?_
   refine pf (vb false) wN F1 ?_
   refine mw (vb false) ?_
   iterate 4 refine sk F1 ?_
   refine pf (vb false) wN F1 ?_
   refine mw (vb false) ?_
   iterate 4 refine sk F1 ?_
   refine pf (vb false) wN F1 ?_
   refine mw (vb false) ?_
   iterate 3 refine sk F1 ?_
   refine pf (vb false) wN F1 ?_
   refine mw (vb false) ?_
   iterate 3 refine sk F1 ?_
   refine pf (vb false) wN F1 ?_
   refine mw (vb false) ?_
   iterate 6 refine sk F1 ?_
   refine pf (vb false) wN F1 ?_
   refine mw (vb false) ?_
   iterate 4 refine sk F1 ?_
   refine pf (vb false) wN F1 ?_
   refine aw (vb false) ?_
   refine n1<|rt (vb false) ?_
   refine ⟨i.keep0,?_⟩
   simp only [FO,d,l,cond_true,cond_false]
   exact rfl
  have ba:=dT l
  refine pu (vp b 2) (wS l) ?_
  refine ld (vs aa a.Cn.length ab) (wS l) uH M ?_
  refine ln (wS l) tD (a0.from0 i) ?_
  refine pu (vb (decide ((a.Cn.length:Int)=0))) (wS l) ?_
  refine pk (vb (decide ((a.Cn.length:Int)=0))) wN l ?_
  refine mw (vb (decide ((a.Cn.length:Int)=0))) ?_
  rcases bf (decide ((a.Cn.length:Int)=0)) with m|m
  ·have bb:=dF m
   iterate 4 refine sk m ?_
   refine pf (vb false) wN m ?_
   refine mw (vb false) ?_
   iterate 3 refine sk F1 ?_
   refine pf (vb false) wN F1 ?_
   refine mw (vb false) ?_
   iterate 4 refine sk F1 ?_
   refine pf (vb false) wN F1 ?_
   refine mw (vb false) ?_
   iterate 4 refine sk F1 ?_
   refine pf (vb false) wN F1 ?_
   refine mw (vb false) ?_
   iterate 3 refine sk F1 ?_
   refine pf (vb false) wN F1 ?_
   refine mw (vb false) ?_
   iterate 3 refine sk F1 ?_
   refine pf (vb false) wN F1 ?_
   refine mw (vb false) ?_
   iterate 6 refine sk F1 ?_
   refine pf (vb false) wN F1 ?_
   refine mw (vb false) ?_
   iterate 4 refine sk F1 ?_
   refine pf (vb false) wN F1 ?_
   refine aw (vb false) ?_
   refine n1<|rt (vb false) ?_
   refine ⟨i.keep0,?_⟩
   simp only [FO,d,l,m,cond_true,cond_false]
   exact rfl
  have bc:=dT m
  refine pu (vp b 3) (wS m) ?_
  refine ld (vs O a.Sn.length P) (wS m) uH M ?_
  refine ln (wS m) tD (ah.from0 i) ?_
  refine pu (vb (decide ((a.Sn.length:Int)=12))) (wS m) ?_
  refine pk (vb (decide ((a.Sn.length:Int)=12))) wN m ?_
  refine mw (vb (decide ((a.Sn.length:Int)=12))) ?_
  rcases bf (decide ((a.Sn.length:Int)=12)) with o|o
  ·have bd:=dF o
   iterate 3 refine sk o ?_
   refine pf (vb false) wN o ?_
   refine mw (vb false) ?_
   iterate 4 refine sk F1 ?_
   refine pf (vb false) wN F1 ?_
   refine mw (vb false) ?_
   iterate 4 refine sk F1 ?_
   refine pf (vb false) wN F1 ?_
   refine mw (vb false) ?_
   iterate 3 refine sk F1 ?_
   refine pf (vb false) wN F1 ?_
   refine mw (vb false) ?_
   iterate 3 refine sk F1 ?_
   refine pf (vb false) wN F1 ?_
   refine mw (vb false) ?_
   iterate 6 refine sk F1 ?_
   refine pf (vb false) wN F1 ?_
   refine mw (vb false) ?_
   iterate 4 refine sk F1 ?_
   refine pf (vb false) wN F1 ?_
   refine aw (vb false) ?_
   refine n1<|rt (vb false) ?_
   refine ⟨i.keep0,?_⟩
   simp only [FO,d,l,m,o,cond_true,cond_false]
   exact rfl
  have be:=dT o
  refine pu (vp b 4) (wS o) ?_
  refine ld (vi a.Tick) (wS o) tE M ?_
  refine pu (vb (decide (a.Tick=0))) (wS o) ?_
  refine pk (vb (decide (a.Tick=0))) wN o ?_
  refine mw (vb (decide (a.Tick=0))) ?_
  rcases bf (decide (a.Tick=0)) with p|p
  ·have bg:=dF p
   iterate 4 refine sk p ?_
   refine pf (vb false) wN p ?_
   refine mw (vb false) ?_
   iterate 4 refine sk F1 ?_
   refine pf (vb false) wN F1 ?_
   refine mw (vb false) ?_
   iterate 3 refine sk F1 ?_
   refine pf (vb false) wN F1 ?_
   refine mw (vb false) ?_
   iterate 3 refine sk F1 ?_
   refine pf (vb false) wN F1 ?_
   refine mw (vb false) ?_
   iterate 6 refine sk F1 ?_
   refine pf (vb false) wN F1 ?_
   refine mw (vb false) ?_
   iterate 4 refine sk F1 ?_
   refine pf (vb false) wN F1 ?_
   refine aw (vb false) ?_
   refine n1<|rt (vb false) ?_
   refine ⟨i.keep0,?_⟩
   simp only [FO,d,l,m,o,p,cond_true,cond_false]
   exact rfl
  have bh:=dT p
  refine pu (vp b 5) (wS p) ?_
  refine ld (vs Q a.Cookie.length R) (wS p) uH M ?_
  refine ln (wS p) tD (ai.from0 i) ?_
  refine pu (vb (decide ((a.Cookie.length:Int)=0))) (wS p) ?_
  refine pk (vb (decide ((a.Cookie.length:Int)=0))) wN p ?_
  refine mw (vb (decide ((a.Cookie.length:Int)=0))) ?_
  rcases bf (decide ((a.Cookie.length:Int)=0)) with q|q
  ·have bi:=dF q
   iterate 4 refine sk q ?_
   refine pf (vb false) wN q ?_
   refine mw (vb false) ?_
   iterate 3 refine sk F1 ?_
   refine pf (vb false) wN F1 ?_
   refine mw (vb false) ?_
   iterate 3 refine sk F1 ?_
   refine pf (vb false) wN F1 ?_
   refine mw (vb false) ?_
   iterate 6 refine sk F1 ?_
   refine pf (vb false) wN F1 ?_
   refine mw (vb false) ?_
   iterate 4 refine sk F1 ?_
   refine pf (vb false) wN F1 ?_
   refine aw (vb false) ?_
   refine n1<|rt (vb false) ?_
   refine ⟨i.keep0,?_⟩
   simp only [FO,d,l,m,o,p,q,cond_true,cond_false]
   exact rfl
  have bj:=dT q
  refine pu (vp b 6) (wS q) ?_
  refine ld (vs S a.Proof.length T) (wS q) uH M ?_
  refine ln (wS q) tD (aj.from0 i) ?_
  refine pu (vb (decide ((a.Proof.length:Int)=0))) (wS q) ?_
  refine pk (vb (decide ((a.Proof.length:Int)=0))) wN q ?_
  refine mw (vb (decide ((a.Proof.length:Int)=0))) ?_
  rcases bf (decide ((a.Proof.length:Int)=0)) with x|x
  ·have bk:=dF x
   iterate 3 refine sk x ?_
   refine pf (vb false) wN x ?_
   refine mw (vb false) ?_
   iterate 3 refine sk F1 ?_
   refine pf (vb false) wN F1 ?_
   refine mw (vb false) ?_
   iterate 6 refine sk F1 ?_
   refine pf (vb false) wN F1 ?_
   refine mw (vb false) ?_
   iterate 4 refine sk F1 ?_
   refine pf (vb false) wN F1 ?_
   refine aw (vb false) ?_
   refine n1<|rt (vb false) ?_
   refine ⟨i.keep0,?_⟩
   simp only [FO,d,l,m,o,p,q,x,cond_true,cond_false]
   exact rfl
  have bl:=dT x
  refine pu (vp b 7) (wS x) ?_
  refine ld (vi a.Epoch) (wS x) tE M ?_
  refine cl (wS x) (HO ak a.Epoch 0 4294967295) ?_
  rintro _ V ⟨a3,rfl⟩
  have a4:=i.extk a3
  refine pk (vb (FP a.Epoch 0 4294967295)) wN x ?_
  refine mw (vb (FP a.Epoch 0 4294967295)) ?_
  rcases bf (FP a.Epoch 0 4294967295) with A|A
  ·have bm:=Gp A
   iterate 3 refine sk A ?_
   refine pf (vb false) wN A ?_
   refine mw (vb false) ?_
   iterate 6 refine sk F1 ?_
   refine pf (vb false) wN F1 ?_
   refine mw (vb false) ?_
   iterate 4 refine sk F1 ?_
   refine pf (vb false) wN F1 ?_
   refine aw (vb false) ?_
   refine n1<|rt (vb false) ?_
   refine ⟨a4.keep0,?_⟩
   simp only [FO,d,l,m,o,p,q,x,A,cond_true,cond_false]
   exact rfl
  have bn:=FZ A
  refine pu (vp b 8) (wS A) ?_
  have a5:=(M.kp a3)
  refine ld (vi a.Seq) (wS A) tE a5 ?_
  refine cl (wS A) (HO V a.Seq 0 281474976710655) ?_
  rintro _ a6 ⟨a7,rfl⟩
  have aq:=a4.extk a7
  refine pk (vb (FP a.Seq 0 281474976710655)) wN A ?_
  refine mw (vb (FP a.Seq 0 281474976710655)) ?_
  rcases bf (FP a.Seq 0 281474976710655) with s|s
  ·have bo:=Gp s
   iterate 6 refine sk s ?_
   refine pf (vb false) wN s ?_
   refine mw (vb false) ?_
   iterate 4 refine sk F1 ?_
   refine pf (vb false) wN F1 ?_
   refine aw (vb false) ?_
   refine n1<|rt (vb false) ?_
   refine ⟨aq.keep0,?_⟩
   simp only [FO,d,l,m,o,p,q,x,A,s,cond_true,cond_false]
   exact rfl
  have bp:=FZ s
  refine pu (vp b 0) (wS s) ?_
  have au:=(a5.kp a7)
  refine ld (vi a.Kind) (wS s) tE au ?_
  refine pu (vp b 9) (wS s) ?_
  refine ld (vs ac a.Body.length ad) (wS s) uH au ?_
  refine ln (wS s) tD (a1.from0 aq) ?_
  refine cl (wS s) (Sb a6 a.Kind (a.Body.length:Int)) ?_
  rintro _ bq ⟨a8,rfl⟩
  have av:=aq.extk a8
  refine pk (vb (HK a.Kind (a.Body.length:Int))) wN s ?_
  refine mw (vb (HK a.Kind (a.Body.length:Int))) ?_
  rcases bf (HK a.Kind (a.Body.length:Int)) with L|L
  ·iterate 4 refine sk L ?_
   refine pf (vb false) wN L ?_
   refine aw (vb false) ?_
   refine n1<|rt (vb false) ?_
   refine ⟨av.keep0,?_⟩
   simp only [FO,d,l,m,o,p,q,x,A,s,L,cond_true,cond_false]
   exact rfl
  refine pu (vp b 10) (wS L) ?_
  have aI:=(au.kp a8)
  refine ld (vs ae a.Tag.length af) (wS L) uH aI ?_
  refine ln (wS L) tD (a2.from0 av) ?_
  refine pu (vb (decide ((a.Tag.length:Int)=16))) (wS L) ?_
  refine pk (vb (decide ((a.Tag.length:Int)=16))) wN L ?_
  refine aw (vb (decide ((a.Tag.length:Int)=16))) ?_
  refine n1<|rt (vb (decide ((a.Tag.length:Int)=16))) ?_
  refine ⟨av.keep0,?_⟩
  simp only [FO,d,l,m,o,p,q,x,A,s,L,cond_true,cond_false]
  exact rfl
 refine cf d<|y2<|jT1 [(1,(vp b 0)),(2,(vb false))] (FO a=false) ?_ fun X=>?_
 ·intro aJ V aK br
  have aL:=i.extk aK
  refine sr<|aw (vb false) ?_
  refine n1<|rt (vb false) ?_
  refine ⟨aL.keep0,?_⟩
  rw [aJ]
  exact rfl
 refine pu (vp b 7) wN ?_
 have y:=(ao.kp ap)
 refine ld (vi a.Epoch) wN tE y ?_
 refine pu (vb (!(decide (a.Epoch=0)))) wN ?_
 refine mw (vb (!(decide (a.Epoch=0)))) ?_
 rcases bf (decide (a.Epoch=0)) with e|e
 ·have bu:=dF e
  iterate 3 refine sk (cA not e) ?_
  refine pk (vb true) wN (cA not e) ?_
  refine mw (vb true) ?_
  iterate 4 refine sk T1 ?_
  refine pk (vb true) wN T1 ?_
  refine mw (vb true) ?_
  iterate 4 refine sk T1 ?_
  refine pk (vb true) wN T1 ?_
  refine mw (vb true) ?_
  iterate 4 refine sk T1 ?_
  refine pk (vb true) wN T1 ?_
  refine n2<|ct T1 ?_
  have aM:FO a=false:=by simp only [FO,d,e,cond_true,cond_false]
  exact wj (X aM _ (Ch.refl _ _))
 have bv:=dT e
 refine pu (vp b 8) (wS (cA not e)) ?_
 refine ld (vi a.Seq) (wS (cA not e)) tE y ?_
 refine pu (vb (!(decide (a.Seq=0)))) (wS (cA not e)) ?_
 refine pf (vb (!(decide (a.Seq=0)))) wN (cA not e) ?_
 refine mw (vb (!(decide (a.Seq=0)))) ?_
 rcases bf (decide (a.Seq=0)) with f|f
 ·have bw:=dF f
  iterate 4 refine sk (cA not f) ?_
  refine pk (vb true) wN (cA not f) ?_
  refine mw (vb true) ?_
  iterate 4 refine sk T1 ?_
  refine pk (vb true) wN T1 ?_
  refine mw (vb true) ?_
  iterate 4 refine sk T1 ?_
  refine pk (vb true) wN T1 ?_
  refine n2<|ct T1 ?_
  have aN:FO a=false:=by simp only [FO,d,e,f,cond_true,cond_false]
  exact wj (X aN _ (Ch.refl _ _))
 have bz:=dT f
 refine pu (vp b 9) (wS (cA not f)) ?_
 refine ld (vs ac a.Body.length ad) (wS (cA not f)) uH y ?_
 refine ln (wS (cA not f)) tD (a1.from0 i) ?_
 refine pu (vb (!(decide ((a.Body.length:Int)=0)))) (wS (cA not f)) ?_
 refine pf (vb (!(decide ((a.Body.length:Int)=0)))) wN (cA not f) ?_
 refine mw (vb (!(decide ((a.Body.length:Int)=0)))) ?_
 rcases bf (decide ((a.Body.length:Int)=0)) with g|g
 ·have b0:=dF g
  iterate 4 refine sk (cA not g) ?_
  refine pk (vb true) wN (cA not g) ?_
  refine mw (vb true) ?_
  iterate 4 refine sk T1 ?_
  refine pk (vb true) wN T1 ?_
  refine n2<|ct T1 ?_
  have aO:FO a=false:=by simp only [FO,d,e,f,g,cond_true,cond_false]
  exact wj (X aO _ (Ch.refl _ _))
 have b1:=dT g
 refine pu (vp b 10) (wS (cA not g)) ?_
 refine ld (vs ae a.Tag.length af) (wS (cA not g)) uH y ?_
 refine ln (wS (cA not g)) tD (a2.from0 i) ?_
 refine pu (vb (!(decide ((a.Tag.length:Int)=0)))) (wS (cA not g)) ?_
 refine pf (vb (!(decide ((a.Tag.length:Int)=0)))) wN (cA not g) ?_
 refine mw (vb (!(decide ((a.Tag.length:Int)=0)))) ?_
 rcases bf (decide ((a.Tag.length:Int)=0)) with h|h
 ·have b2:=dF h
  iterate 4 refine sk (cA not h) ?_
  refine pk (vb true) wN (cA not h) ?_
  refine n2<|ct T1 ?_
  have aP:FO a=false:=by simp only [FO,d,e,f,g,h,cond_true,cond_false]
  exact wj (X aP _ (Ch.refl _ _))
 have b3:=dT h
 refine pu (vp b 2) (wS (cA not h)) ?_
 refine ld (vs aa a.Cn.length ab) (wS (cA not h)) uH y ?_
 refine ln (wS (cA not h)) tD (a0.from0 i) ?_
 refine pu (vb (!(decide ((a.Cn.length:Int)=12)))) (wS (cA not h)) ?_
 refine pf (vb (!(decide ((a.Cn.length:Int)=12)))) wN (cA not h) ?_
 refine n2 ?_
 rcases bf (decide ((a.Cn.length:Int)=12)) with j|j
 ·have b4:=dF j
  refine ct (cA not j) ?_
  have aQ:FO a=false:=by simp only [FO,d,e,f,g,h,j,cond_true,cond_false]
  exact wj (X aQ _ (Ch.refl _ _))
 have b5:=dT j
 refine cf (cA not j)<|y2<|pu (vp b 0) wN ?_
 refine ld (vi a.Kind) wN tE y ?_
 refine uD<|rg<|uJ<|sr<|pu (vb (decide (a.Kind=1))) wN ?_
 refine aw (vb (decide (a.Kind=1))) ?_
 refine n2 ?_
 rcases bt (decide (a.Kind=1)) with k|k
 ·have b6:=dT k
  refine ct k<|sr<|pu (vp b 1) wN ?_
  refine ld (vi a.Id) wN tE y ?_
  refine cl wN (HO ak a.Id 1 9) ?_
  rintro _ V ⟨a9,rfl⟩
  have N:=i.extk a9
  refine mw (vb (FP a.Id 1 9)) ?_
  rcases bf (FP a.Id 1 9) with t|t
  ·have b7:=Gp t
   iterate 4 refine sk t ?_
   refine pf (vb false) wN t ?_
   refine mw (vb false) ?_
   iterate 3 refine sk F1 ?_
   refine pf (vb false) wN F1 ?_
   refine mw (vb false) ?_
   iterate 4 refine sk F1 ?_
   refine pf (vb false) wN F1 ?_
   refine mw (vb false) ?_
   iterate 4 refine sk F1 ?_
   refine pf (vb false) wN F1 ?_
   refine aw (vb false) ?_
   refine uD<|rg<|Hn<|Gd<|uP<|rt (vb false) ?_
   refine ⟨N.keep0,?_⟩
   simp only [FO,d,e,f,g,h,j,k,t,cond_true,cond_false]
   exact rfl
  have b8:=FZ t
  refine pu (vp b 3) (wS t) ?_
  have am:=(y.kp a9)
  refine ld (vs O a.Sn.length P) (wS t) uH am ?_
  refine ln (wS t) tD (ah.from0 N) ?_
  refine pu (vb (decide ((a.Sn.length:Int)=0))) (wS t) ?_
  refine pk (vb (decide ((a.Sn.length:Int)=0))) wN t ?_
  refine mw (vb (decide ((a.Sn.length:Int)=0))) ?_
  rcases bf (decide ((a.Sn.length:Int)=0)) with B|B
  ·have b9:=dF B
   iterate 3 refine sk B ?_
   refine pf (vb false) wN B ?_
   refine mw (vb false) ?_
   iterate 4 refine sk F1 ?_
   refine pf (vb false) wN F1 ?_
   refine mw (vb false) ?_
   iterate 4 refine sk F1 ?_
   refine pf (vb false) wN F1 ?_
   refine aw (vb false) ?_
   refine uD<|rg<|Hn<|Gd<|uP<|rt (vb false) ?_
   refine ⟨N.keep0,?_⟩
   simp only [FO,d,e,f,g,h,j,k,t,B,cond_true,cond_false]
   exact rfl
  have bA:=dT B
  refine pu (vp b 4) (wS B) ?_
  refine ld (vi a.Tick) (wS B) tE am ?_
  refine pu (vb (decide (a.Tick=0))) (wS B) ?_
  refine pk (vb (decide (a.Tick=0))) wN B ?_
  refine mw (vb (decide (a.Tick=0))) ?_
  rcases bf (decide (a.Tick=0)) with C|C
  ·have bB:=dF C
   iterate 4 refine sk C ?_
   refine pf (vb false) wN C ?_
   refine mw (vb false) ?_
   iterate 4 refine sk F1 ?_
   refine pf (vb false) wN F1 ?_
   refine aw (vb false) ?_
   refine uD<|rg<|Hn<|Gd<|uP<|rt (vb false) ?_
   refine ⟨N.keep0,?_⟩
   simp only [FO,d,e,f,g,h,j,k,t,B,C,cond_true,cond_false]
   exact rfl
  have bC:=dT C
  refine pu (vp b 5) (wS C) ?_
  refine ld (vs Q a.Cookie.length R) (wS C) uH am ?_
  refine ln (wS C) tD (ai.from0 N) ?_
  refine pu (vb (decide ((a.Cookie.length:Int)=0))) (wS C) ?_
  refine pk (vb (decide ((a.Cookie.length:Int)=0))) wN C ?_
  refine mw (vb (decide ((a.Cookie.length:Int)=0))) ?_
  rcases bf (decide ((a.Cookie.length:Int)=0)) with H|H
  ·have bD:=dF H
   iterate 4 refine sk H ?_
   refine pf (vb false) wN H ?_
   refine aw (vb false) ?_
   refine uD<|rg<|Hn<|Gd<|uP<|rt (vb false) ?_
   refine ⟨N.keep0,?_⟩
   simp only [FO,d,e,f,g,h,j,k,t,B,C,H,cond_true,cond_false]
   exact rfl
  have bE:=dT H
  refine pu (vp b 6) (wS H) ?_
  refine ld (vs S a.Proof.length T) (wS H) uH am ?_
  refine ln (wS H) tD (aj.from0 N) ?_
  refine pu (vb (decide ((a.Proof.length:Int)=0))) (wS H) ?_
  refine pk (vb (decide ((a.Proof.length:Int)=0))) wN H ?_
  refine aw (vb (decide ((a.Proof.length:Int)=0))) ?_
  refine uD<|rg<|Hn<|Gd<|uP<|rt (vb (decide ((a.Proof.length:Int)=0))) ?_
  refine ⟨N.keep0,?_⟩
  simp only [FO,d,e,f,g,h,j,k,t,B,C,H,cond_true,cond_false]
  exact rfl
 have bF:=dF k
 refine cf k<|sr<|pu (vb (decide (a.Kind=2))) wN ?_
 refine aw (vb (decide (a.Kind=2))) ?_
 refine n2 ?_
 rcases bt (decide (a.Kind=2)) with r|r
 ·have bG:=dT r
  refine ct r<|sr<|pu (vp b 1) wN ?_
  refine ld (vi a.Id) wN tE y ?_
  refine pu (vb (decide (a.Id=0))) wN ?_
  refine mw (vb (decide (a.Id=0))) ?_
  rcases bf (decide (a.Id=0)) with u|u
  ·have bH:=dF u
   iterate 4 refine sk u ?_
   refine pf (vb false) wN u ?_
   refine mw (vb false) ?_
   iterate 3 refine sk F1 ?_
   refine pf (vb false) wN F1 ?_
   refine mw (vb false) ?_
   iterate 4 refine sk F1 ?_
   refine pf (vb false) wN F1 ?_
   refine mw (vb false) ?_
   iterate 4 refine sk F1 ?_
   refine pf (vb false) wN F1 ?_
   refine aw (vb false) ?_
   refine uD<|rg<|Hn<|Gd<|uP<|rt (vb false) ?_
   refine ⟨i.keep0,?_⟩
   simp only [FO,d,e,f,g,h,j,k,r,u,cond_true,cond_false]
   exact rfl
  have bI:=dT u
  refine pu (vp b 3) (wS u) ?_
  refine ld (vs O a.Sn.length P) (wS u) uH y ?_
  refine ln (wS u) tD (ah.from0 i) ?_
  refine pu (vb (decide ((a.Sn.length:Int)=12))) (wS u) ?_
  refine pk (vb (decide ((a.Sn.length:Int)=12))) wN u ?_
  refine mw (vb (decide ((a.Sn.length:Int)=12))) ?_
  rcases bf (decide ((a.Sn.length:Int)=12)) with D|D
  ·have bJ:=dF D
   iterate 3 refine sk D ?_
   refine pf (vb false) wN D ?_
   refine mw (vb false) ?_
   iterate 4 refine sk F1 ?_
   refine pf (vb false) wN F1 ?_
   refine mw (vb false) ?_
   iterate 4 refine sk F1 ?_
   refine pf (vb false) wN F1 ?_
   refine aw (vb false) ?_
   refine uD<|rg<|Hn<|Gd<|uP<|rt (vb false) ?_
   refine ⟨i.keep0,?_⟩
   simp only [FO,d,e,f,g,h,j,k,r,u,D,cond_true,cond_false]
   exact rfl
  have bK:=dT D
  refine pu (vp b 4) (wS D) ?_
  refine ld (vi a.Tick) (wS D) tE y ?_
  refine cl (wS D) (HO ak a.Tick 0 1000000) ?_
  rintro _ V ⟨aA,rfl⟩
  have Y:=i.extk aA
  refine pk (vb (FP a.Tick 0 1000000)) wN D ?_
  refine mw (vb (FP a.Tick 0 1000000)) ?_
  rcases bf (FP a.Tick 0 1000000) with E|E
  ·have bL:=Gp E
   iterate 4 refine sk E ?_
   refine pf (vb false) wN E ?_
   refine mw (vb false) ?_
   iterate 4 refine sk F1 ?_
   refine pf (vb false) wN F1 ?_
   refine aw (vb false) ?_
   refine uD<|rg<|Hn<|Gd<|uP<|rt (vb false) ?_
   refine ⟨Y.keep0,?_⟩
   simp only [FO,d,e,f,g,h,j,k,r,u,D,E,cond_true,cond_false]
   exact rfl
  have bM:=FZ E
  refine pu (vp b 5) (wS E) ?_
  have aB:=(y.kp aA)
  refine ld (vs Q a.Cookie.length R) (wS E) uH aB ?_
  refine ln (wS E) tD (ai.from0 Y) ?_
  refine pu (vb (decide ((a.Cookie.length:Int)=16))) (wS E) ?_
  refine pk (vb (decide ((a.Cookie.length:Int)=16))) wN E ?_
  refine mw (vb (decide ((a.Cookie.length:Int)=16))) ?_
  rcases bf (decide ((a.Cookie.length:Int)=16)) with I|I
  ·have bN:=dF I
   iterate 4 refine sk I ?_
   refine pf (vb false) wN I ?_
   refine aw (vb false) ?_
   refine uD<|rg<|Hn<|Gd<|uP<|rt (vb false) ?_
   refine ⟨Y.keep0,?_⟩
   simp only [FO,d,e,f,g,h,j,k,r,u,D,E,I,cond_true,cond_false]
   exact rfl
  have bO:=dT I
  refine pu (vp b 6) (wS I) ?_
  refine ld (vs S a.Proof.length T) (wS I) uH aB ?_
  refine ln (wS I) tD (aj.from0 Y) ?_
  refine pu (vb (decide ((a.Proof.length:Int)=0))) (wS I) ?_
  refine pk (vb (decide ((a.Proof.length:Int)=0))) wN I ?_
  refine aw (vb (decide ((a.Proof.length:Int)=0))) ?_
  refine uD<|rg<|Hn<|Gd<|uP<|rt (vb (decide ((a.Proof.length:Int)=0))) ?_
  refine ⟨Y.keep0,?_⟩
  simp only [FO,d,e,f,g,h,j,k,r,u,D,E,I,cond_true,cond_false]
  exact rfl
 have bP:=dF r
 refine cf r<|sr<|pu (vb (decide (a.Kind=3))) wN ?_
 refine aw (vb (decide (a.Kind=3))) ?_
 refine n2 ?_
 rcases bf (decide (a.Kind=3)) with K|K
 ·have bQ:=dF K
  refine cf K<|FR<|uB<|rg<|sr ?_
  refine aw (vb false) ?_
  refine n3<|rt (vb false) ?_
  refine ⟨i.keep0,?_⟩
  simp only [FO,d,e,f,g,h,j,k,r,K,cond_true,cond_false]
  exact rfl
 have bR:=dT K
 refine ct K<|sr<|pu (vp b 1) wN ?_
 refine ld (vi a.Id) wN tE y ?_
 refine cl wN (HO ak a.Id 1 9) ?_
 rintro _ V ⟨aC,rfl⟩
 have an:=i.extk aC
 refine mw (vb (FP a.Id 1 9)) ?_
 rcases bf (FP a.Id 1 9) with w|w
 ·have bS:=Gp w
  iterate 4 refine sk w ?_
  refine pf (vb false) wN w ?_
  refine mw (vb false) ?_
  iterate 3 refine sk F1 ?_
  refine pf (vb false) wN F1 ?_
  refine mw (vb false) ?_
  iterate 4 refine sk F1 ?_
  refine pf (vb false) wN F1 ?_
  refine mw (vb false) ?_
  iterate 4 refine sk F1 ?_
  refine pf (vb false) wN F1 ?_
  refine aw (vb false) ?_
  refine uD<|rg<|Hn<|Gd<|uP<|rt (vb false) ?_
  refine ⟨an.keep0,?_⟩
  simp only [FO,d,e,f,g,h,j,k,r,K,w,cond_true,cond_false]
  exact rfl
 have bT:=FZ w
 refine pu (vp b 3) (wS w) ?_
 have ax:=(y.kp aC)
 refine ld (vs O a.Sn.length P) (wS w) uH ax ?_
 refine ln (wS w) tD (ah.from0 an) ?_
 refine pu (vb (decide ((a.Sn.length:Int)=12))) (wS w) ?_
 refine pk (vb (decide ((a.Sn.length:Int)=12))) wN w ?_
 refine mw (vb (decide ((a.Sn.length:Int)=12))) ?_
 rcases bf (decide ((a.Sn.length:Int)=12)) with F|F
 ·have bU:=dF F
  iterate 3 refine sk F ?_
  refine pf (vb false) wN F ?_
  refine mw (vb false) ?_
  iterate 4 refine sk F1 ?_
  refine pf (vb false) wN F1 ?_
  refine mw (vb false) ?_
  iterate 4 refine sk F1 ?_
  refine pf (vb false) wN F1 ?_
  refine aw (vb false) ?_
  refine uD<|rg<|Hn<|Gd<|uP<|rt (vb false) ?_
  refine ⟨an.keep0,?_⟩
  simp only [FO,d,e,f,g,h,j,k,r,K,w,F,cond_true,cond_false]
  exact rfl
 have bW:=dT F
 refine pu (vp b 4) (wS F) ?_
 refine ld (vi a.Tick) (wS F) tE ax ?_
 refine cl (wS F) (HO V a.Tick 0 1000000) ?_
 rintro _ a6 ⟨aD,rfl⟩
 have Z:=an.extk aD
 refine pk (vb (FP a.Tick 0 1000000)) wN F ?_
 refine mw (vb (FP a.Tick 0 1000000)) ?_
 rcases bf (FP a.Tick 0 1000000) with G|G
 ·have bX:=Gp G
  iterate 4 refine sk G ?_
  refine pf (vb false) wN G ?_
  refine mw (vb false) ?_
  iterate 4 refine sk F1 ?_
  refine pf (vb false) wN F1 ?_
  refine aw (vb false) ?_
  refine uD<|rg<|Hn<|Gd<|uP<|rt (vb false) ?_
  refine ⟨Z.keep0,?_⟩
  simp only [FO,d,e,f,g,h,j,k,r,K,w,F,G,cond_true,cond_false]
  exact rfl
 have bY:=FZ G
 refine pu (vp b 5) (wS G) ?_
 have aE:=(ax.kp aD)
 refine ld (vs Q a.Cookie.length R) (wS G) uH aE ?_
 refine ln (wS G) tD (ai.from0 Z) ?_
 refine pu (vb (decide ((a.Cookie.length:Int)=16))) (wS G) ?_
 refine pk (vb (decide ((a.Cookie.length:Int)=16))) wN G ?_
 refine mw (vb (decide ((a.Cookie.length:Int)=16))) ?_
 rcases bf (decide ((a.Cookie.length:Int)=16)) with J|J
 ·have bZ:=dF J
  iterate 4 refine sk J ?_
  refine pf (vb false) wN J ?_
  refine aw (vb false) ?_
  refine uD<|rg<|Hn<|Gd<|uP<|rt (vb false) ?_
  refine ⟨Z.keep0,?_⟩
  simp only [FO,d,e,f,g,h,j,k,r,K,w,F,G,J,cond_true,cond_false]
  exact rfl
 have ca:=dT J
 refine pu (vp b 6) (wS J) ?_
 refine ld (vs S a.Proof.length T) (wS J) uH aE ?_
 refine ln (wS J) tD (aj.from0 Z) ?_
 refine pu (vb (decide ((a.Proof.length:Int)=16))) (wS J) ?_
 refine pk (vb (decide ((a.Proof.length:Int)=16))) wN J ?_
 refine aw (vb (decide ((a.Proof.length:Int)=16))) ?_
 refine uD<|rg<|Hn<|Gd<|uP<|rt (vb (decide ((a.Proof.length:Int)=16))) ?_
 refine ⟨Z.keep0,?_⟩
 simp only [FO,d,e,f,g,h,j,k,r,K,w,F,G,J,cond_true,cond_false]
 exact rfl
theorem NI {f:PFrame} (h:FO f=true):f.Body.length≤40:=by
  simp only [FO,Bool.cond_false_right] at h
  cases h1:Hz f.Kind
  · simp only [h1,cond_false,Bool.and_eq_true,decide_eq_true_eq] at h
    have:=h.2.2.1
    omega
  · simp only [h1,cond_true,Bool.and_eq_true] at h
    have hb:=h.2.2.2.2.2.2.2.2.1
    simp only [HK,cond_eq_ite,decide_eq_true_eq] at hb
    (repeat' split at hb) <;> (have hq:=dT hb;omega)

def Jp (a:List UInt8) (b:List UInt8):(Bool):=(eqS (ByteArray.mk a.toArray) (ByteArray.mk b.toArray))
theorem Sc (d:World) (e:Value) (a:List UInt8) (l:HP d e a) (f:Value) (b:List UInt8) (m:HP d f b) :Fn Tryz.prog 36 #[e,f] d (fun v g=>Keep d g∧O_4 g d.heap.size v (Jp a b)):=by
 obtain ⟨h,i,rfl,o,r⟩:=l
 obtain ⟨j,k,rfl,p,s⟩:=m
 refine FI (n:=10) [(vs h a.length i),(vs j b.length k)] Tryz.func36 rfl rfl ?_
 refine sr<|aw (vb false) ?_
 refine nx<|mw (vs h a.length i) ?_
 refine OH a wN rfl rfl rfl rfl Tryz.underlying22 Tryz.underlying5 Tryz.underlying9 o ?_
 refine mw (vs j b.length k) ?_
 refine OH b wN rfl rfl rfl rfl Tryz.underlying22 Tryz.underlying5 Tryz.underlying9 p ?_
 refine pu (vb (eqS (ByteArray.mk a.toArray) (ByteArray.mk b.toArray))) wN ?_
 refine aw (vb (eqS (ByteArray.mk a.toArray) (ByteArray.mk b.toArray))) ?_
 refine n3<|rt (vb (eqS (ByteArray.mk a.toArray) (ByteArray.mk b.toArray))) ?_
 refine ⟨Ch.refl _ _,?_⟩
 have q:Jp a b=(eqS (ByteArray.mk a.toArray) (ByteArray.mk b.toArray)):=by rfl
 rw [q]
 exact rfl

theorem MC (e:World) (B:Value) (d:List UInt8) (S:HP e B d) (b:Int) (a:Int) (aj:d.length≤1000000):Fn Tryz.prog 143 #[B,(vi b),(vi a)] e (fun v o=>Keep e o∧JF o e.heap.size v (HE d b a)):=by
 obtain ⟨C,D,rfl,T,E⟩:=S
 refine FI (n:=35) [(vs C d.length D),(vi b),(vi a)] Tryz.func143 rfl rfl ?_
 refine sr<|aw (vs none 0 0) ?_
 refine nx<|Gc wN rfl rfl tD (fun w=>by kernel_rfl) ?_
 intro ak am y V
 have F:=(Ch.base e).extk y
 refine mw (vs C d.length D) ?_
 refine ap0 d wN tD V (T.from0 F) y.size ?_
 intro f g A G H an
 have I:=F.extk G
 refine aw (vs f d.length g) ?_
 refine n4<|jT1 [(1,(vi b)),(2,(vi a)),(6,(vs none 0 0)),(7,(vs f d.length g))] (HE d b a=d) ?_ fun J=>?_
 ·intro W K L ao
  have X:=I.extk L
  refine sr<|mw (vs f d.length g) ?_
  refine aw (vs f d.length g) ?_
  refine n1 ?_
  have Y:=(gc H L)
  refine rt (vs f d.length g) ?_
  refine ⟨X.keep0,?_⟩
  rw [W]
  exact ⟨_,_,rfl,Y,E,⟨trivial,trivial⟩⟩
 refine mw (vi a) ?_
 refine pu (vb (decide (a < 1))) wN ?_
 refine mw (vb (decide (a < 1))) ?_
 rcases bt (decide (a < 1)) with h|h
 ·have ap:=dT h
  iterate 2 refine sk h ?_
  refine pk (vb true) wN h ?_
  refine n2<|ct T1 ?_
  have Z:HE d b a=d:=by first|exact Ka (by omega)|exact Kb (by omega) (by omega) (by omega)
  exact wj (J Z _ (Ch.refl _ _))
 have aq:=dF h
 refine mv (vi a) (wS h) ?_
 refine pu (vb (decide (6 < a))) (wS h) ?_
 refine pf (vb (decide (6 < a))) wN h ?_
 refine n2 ?_
 rcases bt (decide (6 < a)) with p|p
 ·have au:=dT p
  refine ct p ?_
  have aa:HE d b a=d:=by first|exact Ka (by omega)|exact Kb (by omega) (by omega) (by omega)
  exact wj (J aa _ (Ch.refl _ _))
 have av:=dF p
 refine cf p<|y2<|mw (vi a) ?_
 refine ar (a - 1) wN ?_
 refine aw (vi (a - 1)) ?_
 refine uD<|rg<|uJ ?_
 have M:(d:List UInt8)=d++Ix b a 0:=by simp [Ix]
 refine Ge [(1,(vi b)),(6,(vs none 0 0)),(7,(.slice f (d++Ix b a 0).length g)),(8,(vi (a - 1 - ((0:Nat):Int))))] ⟨rfl,rfl,(cA (fun l:List UInt8=>Value.slice f l.length g) M),(cA (Value.int .i64) (show ((a - 1):Int)=(a - 1 - ((0:Nat):Int)) by omega)),trivial⟩ (fun e' o=>∃ (j:Nat) (N:Env) (i:Option Addr) (m:Nat),e'=pt N [(1,(vi b)),(6,(vs none 0 0)),(7,(.slice i (d++Ix b a j).length m)),(8,(vi (a - 1 - ((j:Nat):Int))))]∧Ch (fun k=>e.heap.size≤k) e o∧Ch (fun k=>e.heap.size≤k) A o∧((j:Nat):Int)≤a∧(World.ownsRow o e.heap.size 5 1 (.slice i (d++Ix b a j).length m) (d++Ix b a j).length ((d++Ix b a j).map bV)∧(d++Ix b a j).length≤1073741824)) (fun e' _=>((intOf (e' 8))+1).toNat) ?_ ?_
 ·exact fun u=>⟨0,u,f,g,rfl,I,(Ch.refl (fun k=>e.heap.size≤k) A),(by omega),(M ▸ ⟨H,E⟩)⟩
 ·rintro _ K ⟨j,N,i,m,rfl,O,P,ax,⟨r,ab⟩⟩
  have hpl:=JJ b a j
  refine uK<|sr<|mw (vi (a - 1 - ((j:Nat):Int))) ?_
  refine pu (vb (decide (0≤(a - 1 - ((j:Nat):Int))))) wN ?_
  refine n2 ?_
  rcases bf (decide (0≤(a - 1 - ((j:Nat):Int)))) with q|q
  ·have ay:=dF q
   refine cf q<|Gn<|uA<|uA<|wr<|rg<|sr<|mw (vs i (d++Ix b a j).length m) ?_
   refine aw (vs i (d++Ix b a j).length m) ?_
   refine n3<|rt (vs i (d++Ix b a j).length m) ?_
   refine ⟨O.keep0,?_⟩
   have ac:HE d b a=(d++Ix b a j):=by first|exact Ka (by omega)|exact Kb (by omega) (by omega) (by omega)
   rw [ac]
   exact ⟨_,_,rfl,r,ab,⟨trivial,trivial⟩⟩
  have az:=dT q
  refine ct q<|FR<|rg<|uK<|uJ<|uG ?_
  refine mw (vs i (d++Ix b a j).length m) ?_
  refine mw (vi b) ?_
  refine mw (vi (a - 1 - ((j:Nat):Int))) ?_
  refine ar (8*(a - 1 - ((j:Nat):Int))) wN ?_
  refine Mp b (8*(a - 1 - ((j:Nat):Int))) wN rfl rfl rfl rfl rfl (by omega) (by omega) ?_
  refine Im (b / (2:Int) ^ ((8*(a - 1 - ((j:Nat):Int)))).toNat) 255 256 8 wN rfl rfl (by decide) (by decide) (by decide) (by kernel_rfl) ?_
  refine IU ((b / (2:Int) ^ ((8*(a - 1 - ((j:Nat):Int)))).toNat) % 256) wN rfl rfl (by kernel_rfl) ?_
  refine ltB ([(by8 ((b / (2:Int) ^ ((8*(a - 1 - ((j:Nat):Int)))).toNat) % 256))]:List UInt8) wN tD ?_
  intro a0 a1 a2 s ad
  have ae:=(gc r s)
  refine apB (d++Ix b a j) ([(by8 ((b / (2:Int) ^ ((8*(a - 1 - ((j:Nat):Int)))).toNat) % 256))]:List UInt8) wN tD ae (Rd.of_own ad) (z4 y G P s) ?_
  intro t x a3 Q af a4 ah
  have ai:=(O.extk s).ext Q (fun k hk=>nT (Nat.le_refl e.heap.size) (uI r k hk).1)
  refine aw (vs t ((d++Ix b a j)++([(by8 ((b / (2:Int) ^ ((8*(a - 1 - ((j:Nat):Int)))).toNat) % 256))]:List UInt8)).length x) ?_
  refine uD<|uB<|rg<|uG ?_
  refine mw (vi (a - 1 - ((j:Nat):Int))) ?_
  refine ar ((a - 1 - ((j:Nat):Int)) - 1) wN ?_
  refine aw (vi ((a - 1 - ((j:Nat):Int)) - 1)) ?_
  refine uD ?_
  have R:(((d++Ix b a j)++([(by8 ((b / (2:Int) ^ ((8*(a - 1 - ((j:Nat):Int)))).toNat) % 256))]:List UInt8)):List UInt8)=d++Ix b a (j+1):=by simp [Ix]
  refine FX (w0:=K) [(1,(vi b)),(6,(vs none 0 0)),(7,(.slice t (d++Ix b a (j+1)).length x)),(8,(vi (a - 1 - (((j+1):Nat):Int))))] ?_ ?_ ?_
  · exact ⟨rfl,rfl,(cA (fun l:List UInt8=>Value.slice t l.length x) R),(cA (Value.int .i64) (show (((a - 1 - ((j:Nat):Int)) - 1):Int)=(a - 1 - (((j+1):Nat):Int)) by omega)),trivial⟩
  · exact fun u=>⟨(j+1),u,t,x,rfl,ai,((((Ch.refl (fun k=>e.heap.size≤k) A).ext P (fun k hk=>hk)).extk s).ext Q (fun k hk=>nT (Nat.le_refl e.heap.size) (uI r k hk).1)),(by omega),(R ▸ ⟨af,ah⟩)⟩
  · show ((a - 1 - (((j+1):Nat):Int))+1).toNat < ((a - 1 - ((j:Nat):Int))+1).toNat;omega

theorem OY (i:World) (a:Int) (t:Value) (b:List UInt8) (K:HP i t b) (d:Int) (e:Int) :Fn Tryz.prog 108 #[(vi a),t,(vi d),(vi e)] i (fun v u=>Keep i u∧JF u i.heap.size v (FK a b d e)):=by
 obtain ⟨o,p,rfl,x,ah⟩:=K
 refine FI (n:=37) [(vi a),(vs o b.length p),(vi d),(vi e)] Tryz.func108 rfl rfl ?_
 refine sr<|aw (vs none 0 0) ?_
 refine n4<|jT1 [(0,(vi a)),(1,(vs o b.length p)),(2,(vi d)),(3,(vi e)),(8,(vs none 0 0))] (FK a b d e=[]) ?_ fun q=>?_
 ·intro L y A ai
  refine sr<|Gc wN rfl rfl tD (fun w=>by kernel_rfl) ?_
  intro B C M N
  have O:=((Ch.base i).extk A).extk M
  refine aw (vs (some B) 0 0) ?_
  refine n1<|rt (vs (some B) 0 0) ?_
  refine ⟨O.keep0,?_⟩
  rw [L]
  exact ⟨_,_,rfl,(tA N A.size),(by simp),⟨trivial,trivial⟩⟩
 refine mw (vi a) ?_
 refine cl wN (HO i a 0 1) ?_
 rintro _ y ⟨j,rfl⟩
 have D:=(Ch.base i).extk j
 refine pu (vb (!(FP a 0 1))) wN ?_
 refine mw (vb (!(FP a 0 1))) ?_
 rcases bf (FP a 0 1) with f|f
 ·have aj:=Gp f
  iterate 3 refine sk (cA not f) ?_
  refine pk (vb true) wN (cA not f) ?_
  refine mw (vb true) ?_
  iterate 3 refine sk T1 ?_
  refine pk (vb true) wN T1 ?_
  refine mw (vb true) ?_
  iterate 3 refine sk T1 ?_
  refine pk (vb true) wN T1 ?_
  refine n2<|ct T1 ?_
  have P:FK a b d e=[]:=by first|exact IG (by omega)|exact IE (by omega) (by omega) (by omega) (by omega) (by simp [uN,KY,Mj])
  exact wj (q P _ j)
 have ak:=FZ f
 refine mv (vs o b.length p) (wS (cA not f)) ?_
 refine ln (wS (cA not f)) tD (x.from0 D) ?_
 refine pu (vb (!(decide ((b.length:Int)=12)))) (wS (cA not f)) ?_
 refine pf (vb (!(decide ((b.length:Int)=12)))) wN (cA not f) ?_
 refine mw (vb (!(decide ((b.length:Int)=12)))) ?_
 rcases bf (decide ((b.length:Int)=12)) with g|g
 ·have am:=dF g
  iterate 3 refine sk (cA not g) ?_
  refine pk (vb true) wN (cA not g) ?_
  refine mw (vb true) ?_
  iterate 3 refine sk T1 ?_
  refine pk (vb true) wN T1 ?_
  refine n2<|ct T1 ?_
  have Q:FK a b d e=[]:=by first|exact IG (by omega)|exact IE (by omega) (by omega) (by omega) (by omega) (by simp [uN,KY,Mj])
  exact wj (q Q _ j)
 have an:=dT g
 refine mv (vi d) (wS (cA not g)) ?_
 refine cl (wS (cA not g)) (HO y d 0 4294967295) ?_
 rintro _ C ⟨l,rfl⟩
 refine pu (vb (!(FP d 0 4294967295))) (wS (cA not g)) ?_
 refine pf (vb (!(FP d 0 4294967295))) wN (cA not g) ?_
 refine mw (vb (!(FP d 0 4294967295))) ?_
 rcases bf (FP d 0 4294967295) with h|h
 ·have ao:=Gp h
  iterate 3 refine sk (cA not h) ?_
  refine pk (vb true) wN (cA not h) ?_
  refine n2<|ct T1 ?_
  have R:FK a b d e=[]:=by first|exact IG (by omega)|exact IE (by omega) (by omega) (by omega) (by omega) (by simp [uN,KY,Mj])
  exact wj (q R _ (j.trans l))
 have ap:=FZ h
 refine mv (vi e) (wS (cA not h)) ?_
 refine cl (wS (cA not h)) (HO C e 0 281474976710655) ?_
 rintro _ aq ⟨r,rfl⟩
 refine pu (vb (!(FP e 0 281474976710655))) (wS (cA not h)) ?_
 refine pf (vb (!(FP e 0 281474976710655))) wN (cA not h) ?_
 refine n2 ?_
 rcases bf (FP e 0 281474976710655) with m|m
 ·have au:=Gp m
  refine ct (cA not m) ?_
  have S:FK a b d e=[]:=by first|exact IG (by omega)|exact IE (by omega) (by omega) (by omega) (by omega) (by simp [uN,KY,Mj])
  exact wj (q S _ ((j.trans l).trans r))
 have av:=FZ m
 refine cf (cA not m)<|y1<|mw (vi a) ?_
 refine IU a wN rfl rfl (by kernel_rfl) ?_
 refine ltB ([(by8 a)]:List UInt8) wN tD ?_
 intro ax ay az s E
 have F:=((D.extk l).extk r).extk s
 refine mw (vs o b.length p) ?_
 refine apB ([(by8 a)]:List UInt8) b wN tD E (x.from0 F) s.size ?_
 intro a0 a1 T G V a2 W
 have X:=F.ext G (fun k hk=>nT (z3 j l r) (uI E k hk).1)
 refine mw (vi d) ?_
 refine cl wN (MC T _ (([(by8 a)]:List UInt8)++b) (FV (Rd.of_own V) W) d 4 (by first|omega|(simp;done)|(simp;omega)|(simp only [List.length_append,List.length_cons,List.length_nil] at *;omega))) ?_
 rintro _ Y ⟨H,⟨a3,a4,rfl,Z,aa,a5⟩⟩
 have a6:=Iq (([(by8 a)]:List UInt8)++b) d 4
 refine mw (vi e) ?_
 refine cl wN (MC Y _ (HE (([(by8 a)]:List UInt8)++b) d 4) (FV (Rd.of_own Z) aa) e 6 (by first|omega|(simp;done)|(simp;omega)|(simp only [List.length_append,List.length_cons,List.length_nil] at *;omega))) ?_
 rintro _ a7 ⟨ab,⟨I,J,rfl,ac,ad,a8⟩⟩
 have ae:=(X.extk H).extk ab
 have a9:=Iq (HE (([(by8 a)]:List UInt8)++b) d 4) e 6
 refine aw (vs I (HE (HE (([(by8 a)]:List UInt8)++b) d 4) e 6).length J) ?_
 refine n3<|rt (vs I (HE (HE (([(by8 a)]:List UInt8)++b) d 4) e 6).length J) ?_
 refine ⟨ae.keep0,?_⟩
 have af:FK a b d e=(HE (HE (([(by8 a)]:List UInt8)++b) d 4) e 6):=by first|exact IG (by omega)|exact IE (by omega) (by omega) (by omega) (by omega) (by simp [uN,KY,Mj])
 rw [af]
 exact ⟨_,_,rfl,(tA ac (z6 j l r s G H)),ad,⟨trivial,trivial⟩⟩

def FJ (b:Int) (a:PFrame):(List UInt8):=bif (FP b 0 1) then (bif (FO a) then (bif (Hz a.Kind) then ((((([116]:List UInt8)++(FK b a.Sn a.Epoch a.Seq))++([(by8 a.Kind)]:List UInt8))++a.Body)) else ([])) else ([])) else ([])
theorem MB (C:World) (b:Int) (ab:Value) (a:PFrame) (a1:MH C ab a) :Fn Tryz.prog 72 #[(vi b),ab] C (fun v o=>Keep C o∧JF o C.heap.size v (FJ b a)):=by
 obtain ⟨l,R,N,O,S,T,V,W,D,E,X,Y,rfl,a2,a3,ac,ad,a4,a5,a6,a7,ae,a8,a9,aA⟩:=a1
 refine FI (n:=40) [(vi b),(va (HH a l R N O S T V W D E X Y))] Tryz.func72 rfl rfl ?_
 refine sr<|bx (HH a l R N O S T V W D E X Y) wN ?_
 intro m Z bh P u aB
 have af:=(Ch.base C).extk u
 refine aw (vs none 0 0) ?_
 refine n4<|jT1 [(0,(vi b)),(3,(vp m 0)),(4,(vs none 0 0))] (FJ b a=[]) ?_ fun aa=>?_
 ·intro aC ah ai bi
  refine sr<|Gc wN rfl rfl tD (fun w=>by kernel_rfl) ?_
  intro aj ak aD aE
  have aF:=(af.extk ai).extk aD
  refine aw (vs (some aj) 0 0) ?_
  refine n1<|rt (vs (some aj) 0 0) ?_
  refine ⟨aF.keep0,?_⟩
  rw [aC]
  exact ⟨_,_,rfl,(tA aE (z2 u ai)),(by simp),⟨trivial,trivial⟩⟩
 refine mw (vi b) ?_
 refine cl wN (HO Z b 0 1) ?_
 rintro _ ah ⟨d,rfl⟩
 have r:=af.extk d
 refine pu (vb (!(FP b 0 1))) wN ?_
 refine mw (vb (!(FP b 0 1))) ?_
 rcases bf (FP b 0 1) with f|f
 ·have bj:=Gp f
  iterate 3 refine sk (cA not f) ?_
  refine pk (vb true) wN (cA not f) ?_
  refine mw (vb true) ?_
  iterate 4 refine sk T1 ?_
  refine pk (vb true) wN T1 ?_
  refine n2<|ct T1 ?_
  have aG:FJ b a=[]:=by simp only [FJ,f,cond_true,cond_false]
  exact wj (aa aG _ d)
 have bk:=FZ f
 have am:=(aB.kp d)
 refine lN (HH a l R N O S T V W D E X Y) (wS (cA not f)) Gg FD am ?_
 refine cl (wS (cA not f)) (NO ah _ a (IN (a2.from0 r) a3 (ac.from0 r) ad (a4.from0 r) a5 (a6.from0 r) a7 (ae.from0 r) a8 (a9.from0 r) aA)) ?_
 rintro _ ak ⟨g,rfl⟩
 refine pu (vb (!(FO a))) (wS (cA not f)) ?_
 refine pf (vb (!(FO a))) wN (cA not f) ?_
 refine mw (vb (!(FO a))) ?_
 rcases bf (FO a) with i|i
 ·iterate 4 refine sk (cA not i) ?_
  refine pk (vb true) wN (cA not i) ?_
  refine n2<|ct T1 ?_
  have aH:FJ b a=[]:=by simp only [FJ,f,i,cond_true,cond_false]
  exact wj (aa aH _ (d.trans g))
 have bl:=NI i
 refine pu (vp m 0) (wS (cA not i)) ?_
 have an:=(am.kp g)
 refine ld (vi a.Kind) (wS (cA not i)) tE an ?_
 refine cl (wS (cA not i)) (Nb ak a.Kind) ?_
 rintro _ ao ⟨j,rfl⟩
 refine pu (vb (!(Hz a.Kind))) (wS (cA not i)) ?_
 refine pf (vb (!(Hz a.Kind))) wN (cA not i) ?_
 refine n2 ?_
 rcases bf (Hz a.Kind) with F|F
 ·refine ct (cA not F) ?_
  have aI:FJ b a=[]:=by simp only [FJ,f,i,F,cond_true,cond_false]
  exact wj (aa aI _ ((d.trans g).trans j))
 refine cf (cA not F)<|y1<|ltB ([116]:List UInt8) wN tD ?_
 intro bm bn aJ G Q
 have ap:=((r.extk g).extk j).extk G
 refine mw (vi b) ?_
 refine pu (vp m 3) wN ?_
 have H:=((an.kp j).kp G)
 refine ld (vs N a.Sn.length O) wN uH H ?_
 refine pu (vp m 7) wN ?_
 refine ld (vi a.Epoch) wN tE H ?_
 refine pu (vp m 8) wN ?_
 refine ld (vi a.Seq) wN tE H ?_
 refine cl wN (OY aJ b _ a.Sn (FV (ac.from0 ap) ad) a.Epoch a.Seq) ?_
 rintro _ bo ⟨s,⟨bp,bq,rfl,aK,_⟩⟩
 have br:=Hw b a.Sn a.Epoch a.Seq
 have aL:=(gc Q s)
 refine apB ([116]:List UInt8) (FK b a.Sn a.Epoch a.Seq) wN tD aL (Rd.of_own aK) (z2 G s) ?_
 intro x y aq I J bu bv
 have aM:=(ap.extk s).ext I (fun k hk=>nT (z4 u d g j) (uI Q k hk).1)
 refine aw (vs x (([116]:List UInt8)++(FK b a.Sn a.Epoch a.Seq)).length y) ?_
 refine uD<|rg<|uK<|Ga ([(31,[],[],(fun _ v _=>v=(vs x (([116]:List UInt8)++(FK b a.Sn a.Epoch a.Seq)).length y))),(32,[],[],(fun _ v _=>v=(vp m 0))),(33,[],[1],(fun _ v _=>v=(vi a.Kind))),(34,[],[1,2],(fun _ v _=>v=(v8 ((by8 a.Kind).toNat:Int)))),(35,[],[1,2,3],(fun _ v w=>∃ (l:Option Addr) (A:Nat),v=.slice l ([(by8 a.Kind)]:List UInt8).length A∧w.ownsRow aq.heap.size 5 1 (.slice l ([(by8 a.Kind)]:List UInt8).length A) ([(by8 a.Kind)]:List UInt8).length (([(by8 a.Kind)]:List UInt8).map bV)∧([(by8 a.Kind)]:List UInt8).length≤1073741824∧Aps [(l,A)])),(36,[],[0,1,2,3,4],(fun _ v w=>∃ (l:Option Addr) (A:Nat),v=.slice l ((([116]:List UInt8)++(FK b a.Sn a.Epoch a.Seq))++([(by8 a.Kind)]:List UInt8)).length A∧w.ownsRow ao.heap.size 5 1 (.slice l ((([116]:List UInt8)++(FK b a.Sn a.Epoch a.Seq))++([(by8 a.Kind)]:List UInt8)).length A) ((([116]:List UInt8)++(FK b a.Sn a.Epoch a.Seq))++([(by8 a.Kind)]:List UInt8)).length (((([116]:List UInt8)++(FK b a.Sn a.Epoch a.Seq))++([(by8 a.Kind)]:List UInt8)).map bV)∧((([116]:List UInt8)++(FK b a.Sn a.Epoch a.Seq))++([(by8 a.Kind)]:List UInt8)).length≤1073741824)),(37,[],[],(fun _ v _=>v=(vp m 9))),(38,[],[6],(fun _ v _=>v=(vs D a.Body.length E)))]:GV) (fun lf o=>Ch (fun k=>(Value.slice x (([116]:List UInt8)++(FK b a.Sn a.Epoch a.Seq)).length y).ownBlock=some k) aq o∧(lf 5=false→World.ownsRow o ao.heap.size 5 1 (.slice x (([116]:List UInt8)++(FK b a.Sn a.Epoch a.Seq)).length y) (([116]:List UInt8)++(FK b a.Sn a.Epoch a.Seq)).length ((([116]:List UInt8)++(FK b a.Sn a.Epoch a.Seq)).map bV))) [(5,fun w o=>Ch (fun k=>(Value.slice x (([116]:List UInt8)++(FK b a.Sn a.Epoch a.Seq)).length y).ownBlock=some k) w o)] GU rfl (by kernel_rfl) (by kernel_rfl) ?_ (fun _ _ h=>⟨h.to _,fun _=>gc J h⟩) (fun _ _ _ _ h mo k=>⟨h.1.comp k (fun _ _ q=>q.elim),fun q=>gc (h.2 (mo _ q)) k⟩) ⟨(fun _ _ w o h mo hj t=>⟨h.1.comp t (fun _ _ q=>q),fun q=>by rw [hj] at q;cases q⟩),trivial⟩ ?_ ?_ ?_
 ·exact ⟨hV,hE,⟨hV,hE,⟨hV,hE,⟨hV,hE,⟨(fun e v w Z h hk=>by obtain ⟨K,L,he,B,M,hap⟩:=h;exact ⟨K,L,he,gc B hk,M,hap⟩),hE,⟨(fun e v w Z h hk=>by obtain ⟨K,L,he,B,M⟩:=h;exact ⟨K,L,he,gc B hk,M⟩),hE,⟨hV,hE,⟨hV,hE,trivial⟩⟩⟩⟩⟩⟩⟩⟩
 ·exact ⟨⟨.inr hV,⟨.inr hV,⟨.inr hV,⟨.inr hV,⟨.inr (fun e v wX wY h ht=>by obtain ⟨K,L,he,B,M,hap⟩:=h;exact ⟨K,L,he,tC B ht (fun gq hg _ hk=>by have bw:=(uI B gq hg).1;have bz:=(uI J gq hk).2;omega),M,hap⟩),⟨.inl rfl,⟨.inr hV,⟨.inr hV,trivial⟩⟩⟩⟩⟩⟩⟩⟩,trivial⟩
 ·refine ⟨?_,⟨?_,⟨?_,⟨?_,⟨?_,⟨?_,⟨?_,⟨?_,trivial⟩⟩⟩⟩⟩⟩⟩⟩
  ·rintro lf p ⟨b0,b1⟩ ⟨b2,-⟩
   rintro _ _ _ _ _ _ _ _
   refine sw<|mw (vs x (([116]:List UInt8)++(FK b a.Sn a.Epoch a.Seq)).length y) ?_
   exact f1
  ·rintro lf p ⟨b3,b4⟩ ⟨b5,-⟩
   rintro _ _ _ _ _ _ _ _
   refine sw<|pu (vp m 0) wN ?_
   exact f1
  ·rintro lf p ⟨aN,b6⟩ ⟨b7,-⟩
   rintro _ _ rfl _ _ _ _ _ _
   refine sw ?_
   have aO:=(((H.kp s).ch I (fun h=>by have:=(uI Q _ h).1;have:=nL P (z3 d g j);omega)).ch aN (fun h=>by have:=(uI J _ h).1;have:=nL P (z3 d g j);omega))
   refine ld (vi a.Kind) wN tE aO ?_
   exact f1
  ·rintro lf p ⟨b8,b9⟩ ⟨bA,-⟩
   rintro _ _ rfl _ rfl _ _ _ _ _
   refine sw<|IU a.Kind wN rfl rfl (by kernel_rfl) ?_
   exact f1
  ·rintro lf p ⟨aP,bB⟩ ⟨bC,-⟩
   rintro _ _ rfl _ rfl _ rfl _ _ _ _
   refine sw<|ltB ([(by8 a.Kind)]:List UInt8) wN tD ?_
   intro bD bE au aQ aR
   exact FY aQ ⟨_,_,rfl,(tA aR aP.size),(by simp),⟨trivial,trivial⟩⟩
  ·rintro lf p ⟨aS,aT⟩ ⟨aU,-⟩
   have aV:=aT (aU.resolve_left (fun h=>Bool.noConfusion (show true=false from h.2)))
   rintro _ rfl _ rfl _ rfl _ rfl _ ⟨bF,bG,rfl,aW,bH,-⟩ _ _ _
   refine sw<|apB (([116]:List UInt8)++(FK b a.Sn a.Epoch a.Seq)) ([(by8 a.Kind)]:List UInt8) wN tD aV (Rd.of_own aW) (z4 G s I aS) ?_
   intro bI bJ au aX aY bK aZ
   exact FY aX ⟨_,_,rfl,aY,aZ⟩
  ·rintro lf p ⟨bL,bM⟩ ⟨bN,-⟩
   rintro _ _ _ _ _ _ _ _
   refine sw<|pu (vp m 9) wN ?_
   exact f1
  ·rintro lf p ⟨ba,bO⟩ ⟨bP,-⟩
   rintro _ _ _ _ _ _ _ rfl _
   refine sw ?_
   have bb:=(((H.kp s).ch I (fun h=>by have:=(uI Q _ h).1;have:=nL P (z3 d g j);omega)).ch ba (fun h=>by have:=(uI J _ h).1;have:=nL P (z3 d g j);omega))
   refine ld (vs D a.Body.length E) wN uH bb ?_
   exact f1
 ·rintro lf p ⟨av,bQ⟩
  have ax:=aM.ext av (fun k hk=>nT (z4 u d g j) (uI J k hk).1)
  rintro _ rfl _ rfl _ rfl _ rfl _ ⟨bR,bS,rfl,bT,bU,-⟩ _ ⟨bW,bX,rfl,ay,bY⟩ _ rfl _ rfl
  refine sw<|apB ((([116]:List UInt8)++(FK b a.Sn a.Epoch a.Seq))++([(by8 a.Kind)]:List UInt8)) a.Body wN tD ay (ae.from0 ax) (z4 G s I av) ?_
  intro az a0 au bc bd bZ be
  have bg:=ax.ext bc (fun k hk=>nT (z4 u d g j) (uI ay k hk).1)
  refine aw (vs az (((([116]:List UInt8)++(FK b a.Sn a.Epoch a.Seq))++([(by8 a.Kind)]:List UInt8))++a.Body).length a0) ?_
  refine n3<|rt (vs az (((([116]:List UInt8)++(FK b a.Sn a.Epoch a.Seq))++([(by8 a.Kind)]:List UInt8))++a.Body).length a0) ?_
  refine ⟨bg.keep0,?_⟩
  simp only [FJ,f,i,F,cond_true,cond_false]
  exact ⟨_,_,rfl,(tA bd (z4 u d g j)),be,⟨trivial,trivial⟩⟩

def Ip (a:Int):(Int):=bif (decide (a < 1024)) then (0) else (((a - 1024)+1))
theorem QL (d:World) (a:Int) (f:-1≤a∧a≤1000000000000000):Fn Tryz.prog 109 #[(vi a)] d (fun v e=>Keep d e∧O_3 e d.heap.size v (Ip a)):=by
 refine FI (n:=8) [(vi a)] Tryz.func109 rfl rfl ?_
 refine sr<|aw (vi 0) ?_
 refine n4<|mw (vi a) ?_
 refine pu (vb (decide (a < 1024))) wN ?_
 refine n2 ?_
 rcases bt (decide (a < 1024)) with b|b
 ·have g:=dT b
  refine ct b<|sr<|aw (vi 0) ?_
  refine n1<|rt (vi 0) ?_
  refine ⟨Ch.refl _ _,?_⟩
  simp only [Ip,b,cond_true,cond_false]
  exact rfl
 have h:=dF b
 refine cf b<|y1<|mw (vi a) ?_
 refine ar (a - 1024) wN ?_
 refine ar ((a - 1024)+1) wN ?_
 refine aw (vi ((a - 1024)+1)) ?_
 refine n3<|rt (vi ((a - 1024)+1)) ?_
 refine ⟨Ch.refl _ _,?_⟩
 simp only [Ip,b,cond_true,cond_false]
 exact rfl

def GR (a:PWin) (b:Int):(Bool):=bif (HY a) then (bif (FP b 0 281474976710655) then (bif (decide (a.Top < b)) then (true) else (bif (decide ((Ip a.Top)≤b)) then (!(GE a b)) else (false))) else (false)) else (false)
theorem OX (h:World) (r:Value) (a:PWin) (C:PS h r a) (b:Int) :Fn Tryz.prog 73 #[r,(vi b)] h (fun v s=>Keep h s∧O_4 s h.heap.size v (GR a b)):=by
 obtain ⟨i,j,rfl,t,u⟩:=C
 refine FI (n:=30) [(va (HQ a i j)),(vi b)] Tryz.func73 rfl rfl ?_
 refine sr<|bx (HQ a i j) wN ?_
 intro l D P Q E w
 have m:=(Ch.base h).extk E
 refine aw (vb false) ?_
 refine n4<|jT1 [(1,(vi b)),(2,(vp l 0)),(4,(vb false))] (GR a b=false) ?_ fun x=>?_
 ·intro F y G R
  have H:=m.extk G
  refine sr<|aw (vb false) ?_
  refine n1<|rt (vb false) ?_
  refine ⟨H.keep0,?_⟩
  rw [F]
  exact rfl
 refine lN (HQ a i j) wN Gj FH w ?_
 refine cl wN (QR D _ a (JD (t.from0 m) u)) ?_
 rintro _ y ⟨k,rfl⟩
 refine pu (vb (!(HY a))) wN ?_
 refine mw (vb (!(HY a))) ?_
 rcases bf (HY a) with e|e
 ·iterate 3 refine sk (cA not e) ?_
  refine pk (vb true) wN (cA not e) ?_
  refine n2<|ct T1 ?_
  have I:GR a b=false:=by simp only [GR,e,cond_true,cond_false]
  exact wj (x I _ k)
 have S:=SI e
 refine mv (vi b) (wS (cA not e)) ?_
 refine cl (wS (cA not e)) (HO y b 0 281474976710655) ?_
 rintro _ J ⟨o,rfl⟩
 have A:=(m.extk k).extk o
 refine pu (vb (!(FP b 0 281474976710655))) (wS (cA not e)) ?_
 refine pf (vb (!(FP b 0 281474976710655))) wN (cA not e) ?_
 refine n2 ?_
 rcases bf (FP b 0 281474976710655) with g|g
 ·have T:=Gp g
  refine ct (cA not g) ?_
  have K:GR a b=false:=by simp only [GR,e,g,cond_true,cond_false]
  exact wj (x K _ (k.trans o))
 have V:=FZ g
 refine cf (cA not g)<|y1<|mw (vi b) ?_
 refine pu (vp l 0) wN ?_
 have p:=((w.kp k).kp o)
 refine ld (vi a.Top) wN tE p ?_
 refine pu (vb (decide (a.Top < b))) wN ?_
 refine mw (vb (decide (a.Top < b))) ?_
 rcases bt (decide (a.Top < b)) with d|d
 ·have W:=dT d
  iterate 6 refine sk d ?_
  refine su ?_
  refine su ?_
  refine su ?_
  refine su ?_
  refine sk d ?_
  refine pk (vb true) wN d ?_
  refine aw (vb true) ?_
  refine n3<|rt (vb true) ?_
  refine ⟨A.keep0,?_⟩
  simp only [GR,e,g,d,cond_true,cond_false]
  exact rfl
 have X:=dF d
 refine mv (vi b) (wS d) ?_
 refine pu (vp l 0) (wS d) ?_
 refine ld (vi a.Top) (wS d) tE p ?_
 refine cl (wS d) (QL J a.Top (by omega)) ?_
 rintro _ L ⟨B,rfl⟩
 have q:=A.extk B
 refine pu (vb (decide ((Ip a.Top)≤b))) (wS d) ?_
 refine mv (vb (decide ((Ip a.Top)≤b))) (wS d) ?_
 rcases bf (decide ((Ip a.Top)≤b)) with f|f
 ·have Y:=dF f
  iterate 4 refine sk f ?_
  refine pf (vb false) (wS d) f ?_
  refine pf (vb false) wN d ?_
  refine aw (vb false) ?_
  refine n3<|rt (vb false) ?_
  refine ⟨q.keep0,?_⟩
  simp only [GR,e,g,d,f,cond_true,cond_false]
  exact rfl
 have Z:=dT f
 have M:=(p.kp B)
 refine lN (HQ a i j) (wS f) Gj FH M ?_
 refine mv (vi b) (wS f) ?_
 refine cl (wS f) (Na L _ a (JD (t.from0 q) u) b (by first|assumption|omega) (by first|assumption|omega)) ?_
 rintro _ aa ⟨N,rfl⟩
 have O:=q.extk N
 refine pu (vb (!(GE a b))) (wS f) ?_
 refine pk (vb (!(GE a b))) (wS d) f ?_
 refine pf (vb (!(GE a b))) wN d ?_
 refine aw (vb (!(GE a b))) ?_
 refine n3<|rt (vb (!(GE a b))) ?_
 refine ⟨O.keep0,?_⟩
 simp only [GR,e,g,d,f,cond_true,cond_false]
 exact rfl
theorem Jy {w:PWin} {n:Int} (h:GR w n=true):Iw w.Bits=true∧w.Bits.length=32 ∧ -1≤w.Top∧w.Top≤281474976710655∧0≤n∧n≤281474976710655:=by
  unfold GR at h
  cases h1:HY w with
  | false=>simp only [h1,cond_false] at h;cases h
  | true =>
    cases h2:FP n 0 281474976710655 with
    | false=>simp only [h1,h2,cond_true,cond_false] at h;cases h
    | true =>
      have a:=SI h1
      have b:=FZ h2
      exact ⟨a.1,a.2.1,a.2.2.1,a.2.2.2,b.1,b.2⟩

theorem Va (b:World) (a:Int) :Fn Tryz.prog 164 #[(vi a)] b (fun v e=>Keep b e∧JF e b.heap.size v (Hk a)):=by
 refine FI (n:=27) [(vi a)] Tryz.func164 rfl rfl ?_
 refine sr<|aw (vs none 0 0) ?_
 refine n4<|jT1 [(0,(vi a)),(2,(vs none 0 0))] (Hk a=[]) ?_ fun B=>?_
 ·intro N o C am
  refine sr<|Gc wN rfl rfl tD (fun w=>by kernel_rfl) ?_
  intro D x O P
  have Q:=((Ch.base b).extk C).extk O
  refine aw (vs (some D) 0 0) ?_
  refine n1<|rt (vs (some D) 0 0) ?_
  refine ⟨Q.keep0,?_⟩
  rw [N]
  exact ⟨_,_,rfl,(tA P C.size),(by simp),⟨trivial,trivial⟩⟩
 refine mw (vi a) ?_
 refine pu (vb (decide (a < 0))) wN ?_
 refine mw (vb (decide (a < 0))) ?_
 rcases bt (decide (a < 0)) with d|d
 ·have an:=dT d
  iterate 2 refine sk d ?_
  refine pk (vb true) wN d ?_
  refine n2<|ct T1 ?_
  have R:Hk a=[]:=by first|exact Mt (by omega)|exact Qq (by omega) (by omega) (by omega) (by omega)
  exact wj (B R _ (Ch.refl _ _))
 have ao:=dF d
 refine mv (vi a) (wS d) ?_
 refine pu (vb (decide (1048576 < a))) (wS d) ?_
 refine pf (vb (decide (1048576 < a))) wN d ?_
 refine n2 ?_
 rcases bt (decide (1048576 < a)) with h|h
 ·have ap:=dT h
  refine ct h ?_
  have S:Hk a=[]:=by first|exact Mt (by omega)|exact Qq (by omega) (by omega) (by omega) (by omega)
  exact wj (B S _ (Ch.refl _ _))
 have aq:=dF h
 refine cf h<|y1<|ltB ([128]:List UInt8) wN tD ?_
 intro p q o y T
 have V:=(Ch.base b).extk y
 refine aw (vs p ([128]:List UInt8).length q) ?_
 refine uD<|rg<|uK<|uJ ?_
 have E:(([128]:List UInt8):List UInt8)=[(128:UInt8)]++List.replicate 0 (0:UInt8):=by first|rfl|(rw [List.replicate_succ',List.append_assoc])
 refine Ge [(0,(vi a)),(2,(vs none 0 0)),(3,(.slice p ([(128:UInt8)]++List.replicate 0 (0:UInt8)).length q))] ⟨rfl,rfl,(cA (fun l:List UInt8=>Value.slice p l.length q) E),trivial⟩ (fun e' e=>∃ (j:Nat) (F:Env) (f:Option Addr) (g:Nat),e'=pt F [(0,(vi a)),(2,(vs none 0 0)),(3,(.slice f ([(128:UInt8)]++List.replicate j (0:UInt8)).length g))]∧Ch (fun k=>b.heap.size≤k) b e∧Ch (fun k=>b.heap.size≤k) o e∧((j:Nat):Int)≤(64 - (a+9) % 64) % 64∧(World.ownsRow e b.heap.size 5 1 (.slice f ([(128:UInt8)]++List.replicate j (0:UInt8)).length g) ([(128:UInt8)]++List.replicate j (0:UInt8)).length (([(128:UInt8)]++List.replicate j (0:UInt8)).map bV)∧([(128:UInt8)]++List.replicate j (0:UInt8)).length≤1073741824)) (fun e' _=>100 - (lenOf (e' 3))) ?_ ?_
 ·exact fun u=>⟨0,u,p,q,rfl,V,(Ch.refl (fun k=>b.heap.size≤k) o),(by omega),(E ▸ ⟨T,(by simp)⟩)⟩
 ·rintro _ x ⟨j,F,f,g,rfl,G,A,au,⟨i,W⟩⟩
  have hpl:([(128:UInt8)]++List.replicate j (0:UInt8)).length=1+j:=by rw [List.length_append,List.length_replicate];rfl
  refine uK<|sr<|mw (vi a) ?_
  refine mw (vs f ([(128:UInt8)]++List.replicate j (0:UInt8)).length g) ?_
  refine ln wN tD (Rd.of_own i) ?_
  refine ar (a+(([(128:UInt8)]++List.replicate j (0:UInt8)).length:Int)) wN ?_
  refine ar ((a+(([(128:UInt8)]++List.replicate j (0:UInt8)).length:Int))+8) wN ?_
  refine Ig ((a+(([(128:UInt8)]++List.replicate j (0:UInt8)).length:Int))+8) 64 wN rfl rfl (by kernel_rfl) (by first|omega|assumption) ?_
  refine pu (vb (!(decide ((((a+(([(128:UInt8)]++List.replicate j (0:UInt8)).length:Int))+8) % 64)=0)))) wN ?_
  refine n2 ?_
  rcases bf (decide ((((a+(([(128:UInt8)]++List.replicate j (0:UInt8)).length:Int))+8) % 64)=0)) with m|m
  ·have av:=dF m
   refine ct (cA not m)<|FR<|rg<|uJ<|uG ?_
   refine mw (vs f ([(128:UInt8)]++List.replicate j (0:UInt8)).length g) ?_
   refine ltB ([0]:List UInt8) wN tD ?_
   intro ax ay H r X
   have Y:=(gc i r)
   refine apB ([(128:UInt8)]++List.replicate j (0:UInt8)) ([0]:List UInt8) wN tD Y (Rd.of_own X) (z3 y A r) ?_
   intro s t Z I aa az ab
   have ac:=(G.extk r).ext I (fun k hk=>nT (Nat.le_refl b.heap.size) (uI i k hk).1)
   refine aw (vs s (([(128:UInt8)]++List.replicate j (0:UInt8))++([0]:List UInt8)).length t) ?_
   refine uD<|uB ?_
   have J:((([(128:UInt8)]++List.replicate j (0:UInt8))++([0]:List UInt8)):List UInt8)=[(128:UInt8)]++List.replicate (j+1) (0:UInt8):=by first|rfl|(rw [List.replicate_succ',List.append_assoc])
   refine FX (w0:=x) [(0,(vi a)),(2,(vs none 0 0)),(3,(.slice s ([(128:UInt8)]++List.replicate (j+1) (0:UInt8)).length t))] ?_ ?_ ?_
   · exact ⟨rfl,rfl,(cA (fun l:List UInt8=>Value.slice s l.length t) J),trivial⟩
   · exact fun u=>⟨(j+1),u,s,t,rfl,ac,((((Ch.refl (fun k=>b.heap.size≤k) o).ext A (fun k hk=>hk)).extk r).ext I (fun k hk=>nT (Nat.le_refl b.heap.size) (uI i k hk).1)),(by omega),(J ▸ ⟨aa,ab⟩)⟩
   · show 100 - ([(128:UInt8)]++List.replicate (j+1) (0:UInt8)).length < 100 - ([(128:UInt8)]++List.replicate j (0:UInt8)).length;simp only [List.length_append,List.length_cons,List.length_nil,List.length_replicate];omega
  have a0:=dT m
  refine cf (cA not m)<|Gn<|uA<|uA<|wr<|rg<|sr<|mw (vs f ([(128:UInt8)]++List.replicate j (0:UInt8)).length g) ?_
  refine cl wN (MC x _ ([(128:UInt8)]++List.replicate j (0:UInt8)) (FV (Rd.of_own i) W) 0 4 (by first|omega|(simp;done)|(simp;omega)|(simp only [List.length_append,List.length_cons,List.length_nil] at *;omega))) ?_
  rintro _ H ⟨K,⟨a1,a2,rfl,ad,ae,a3⟩⟩
  have a4:=Iq ([(128:UInt8)]++List.replicate j (0:UInt8)) 0 4
  refine mw (vi a) ?_
  refine ar (8*a) wN ?_
  refine cl wN (MC H _ (HE ([(128:UInt8)]++List.replicate j (0:UInt8)) 0 4) (FV (Rd.of_own ad) ae) (8*a) 4 (by first|omega|(simp;done)|(simp;omega)|(simp only [List.length_append,List.length_cons,List.length_nil] at *;omega))) ?_
  rintro _ Z ⟨af,⟨L,M,rfl,ah,ai,a5⟩⟩
  have aj:=(G.extk K).extk af
  have a6:=Iq (HE ([(128:UInt8)]++List.replicate j (0:UInt8)) 0 4) (8*a) 4
  refine aw (vs L (HE (HE ([(128:UInt8)]++List.replicate j (0:UInt8)) 0 4) (8*a) 4).length M) ?_
  refine n3<|rt (vs L (HE (HE ([(128:UInt8)]++List.replicate j (0:UInt8)) 0 4) (8*a) 4).length M) ?_
  refine ⟨aj.keep0,?_⟩
  have ak:Hk a=(HE (HE ([(128:UInt8)]++List.replicate j (0:UInt8)) 0 4) (8*a) 4):=by first|exact Mt (by omega)|exact Qq (by omega) (by omega) (by omega) (by omega)
  rw [ak]
  exact ⟨_,_,rfl,(tA ah (z3 y A K)),ai,⟨trivial,trivial⟩⟩

theorem TB (a:World)  :Fn Tryz.prog 165 #[] a (fun v b=>Keep a b∧TQ b a.heap.size v (k0)):=by
 refine FI (n:=2) [] Tryz.func165 rfl rfl ?_
 refine sr<|aw (vs none 0 0) ?_
 refine nx<|ltI ([1779033703,3144134277,1013904242,2773480762,1359893119,2600822924,528734635,1541459225]:List Int) wN uQ ?_
 intro d e j f g
 have h:=(Ch.base a).extk f
 refine aw (vs d ([1779033703,3144134277,1013904242,2773480762,1359893119,2600822924,528734635,1541459225]:List Int).length e) ?_
 refine n3<|rt (vs d ([1779033703,3144134277,1013904242,2773480762,1359893119,2600822924,528734635,1541459225]:List Int).length e) ?_
 refine ⟨h.keep0,?_⟩
 have i:k0=([1779033703,3144134277,1013904242,2773480762,1359893119,2600822924,528734635,1541459225]:List Int):=by rfl
 rw [i]
 exact ⟨_,_,rfl,g,(by simp),⟨trivial,trivial⟩⟩

def ws8 (x:List Int):Bool:=Js x 8
theorem UP {x:List Int} (h:ws8 x=true):Iw x=true∧(x.length:Int)=8:=IT h
theorem QM (b:World) (m:Value) (a:List Int) (s:RC b m a) :Fn Tryz.prog 169 #[m] b (fun v g=>Keep b g∧O_4 g b.heap.size v (ws8 a)):=by
 obtain ⟨d,e,rfl,l,A⟩:=s
 refine FI (n:=19) [(vs d a.length e)] Tryz.func169 rfl rfl ?_
 refine sr<|aw (vb false) ?_
 refine n4<|aw (vi 0) ?_
 refine uD<|rg<|uJ<|Ge [(0,(vs d a.length e)),(3,(vi ((0:Nat):Int)))] ⟨rfl,(cA (Value.int .i64) (show (0:Int)=((0:Nat):Int) by omega)),trivial⟩ (fun e' g=>∃ (i:Nat) (o:Env),e'=pt o [(0,(vs d a.length e)),(3,(vi ((i:Nat):Int)))]∧Ch (fun k=>b.heap.size≤k) b g∧Ch (fun k=>b.heap.size≤k) b g∧i≤a.length∧Iw (a.take i)=true) (fun e' _=>a.length - ((intOf (e' 3))).toNat) ?_ ?_
 ·exact fun u=>⟨0,u,rfl,(Ch.base b),(Ch.refl (fun k=>b.heap.size≤k) b),(by omega),(by first|rfl|exact JE (by assumption) (by omega) (by assumption))⟩
 ·rintro _ p ⟨i,o,rfl,f,t,B,C⟩
  refine uK<|sr<|mw (vi ((i:Nat):Int)) ?_
  refine mw (vs d a.length e) ?_
  refine ln wN uQ (l.from0 f) ?_
  refine pu (vb (decide (((i:Nat):Int) < (a.length:Int)))) wN ?_
  refine n2 ?_
  rcases bf (decide (((i:Nat):Int) < (a.length:Int))) with h|h
  ·have D:=dF h
   refine cf h<|Gn<|uA<|uA<|wr<|rg<|sr<|mw (vs d a.length e) ?_
   refine ln wN uQ (l.from0 f) ?_
   refine pu (vb (decide ((a.length:Int)=8))) wN ?_
   refine aw (vb (decide ((a.length:Int)=8))) ?_
   refine n3<|rt (vb (decide ((a.length:Int)=8))) ?_
   refine ⟨f.keep0,?_⟩
   have w:ws8 a=decide ((a.length:Int)=8):=by first|(have hz:=IS (x:=a) (k:=i) (by omega) (by first|assumption|omega);simp [ws8,Js,hz])|(have hz:=GG (x:=a) (k:=i) (by assumption) (by omega);simp [ws8,Js,hz])
   rw [w]
   exact rfl
  have E:=dT h
  refine ct h<|FR<|rg<|uK<|uJ<|sr<|mw (vs d a.length e) ?_
  refine mw (vi ((i:Nat):Int)) ?_
  refine ix wN ((i:Nat):Int) uQ (l.from0 f) ?_
  refine ei (x:=a) i wN tE (l.from0 f) ?_
  refine cl wN (HO p (a.getD i 0) 0 4294967295) ?_
  rintro _ F ⟨q,rfl⟩
  have r:=f.extk q
  refine pu (vb (!(FP (a.getD i 0) 0 4294967295))) wN ?_
  refine n2 ?_
  rcases bf (FP (a.getD i 0) 0 4294967295) with j|j
  ·have G:=Gp j
   refine ct (cA not j)<|sr<|aw (vb false) ?_
   refine uD<|rg<|Hn<|Gd<|uP<|uP<|Gd<|uP<|rt (vb false) ?_
   refine ⟨r.keep0,?_⟩
   have y:ws8 a=false:=by first|(have hz:=IS (x:=a) (k:=i) (by omega) (by first|assumption|omega);simp [ws8,Js,hz])|(have hz:=GG (x:=a) (k:=i) (by assumption) (by omega);simp [ws8,Js,hz])
   rw [y]
   exact rfl
  have H:=FZ j
  refine cf (cA not j)<|FR<|uB<|rg<|uG ?_
  refine mw (vi ((i:Nat):Int)) ?_
  refine ar (((i:Nat):Int)+1) wN ?_
  refine aw (vi (((i:Nat):Int)+1)) ?_
  refine uD<|FX (w0:=p) [(0,(vs d a.length e)),(3,(vi (((i+1):Nat):Int)))] ?_ ?_ ?_
  · exact ⟨rfl,(cA (Value.int .i64) (show ((((i:Nat):Int)+1):Int)=(((i+1):Nat):Int) by omega)),trivial⟩
  · exact fun u=>⟨(i+1),u,rfl,r,(((Ch.refl (fun k=>b.heap.size≤k) b).ext t (fun k hk=>hk)).extk q),(by omega),(by first|rfl|exact JE (by assumption) (by omega) (by assumption))⟩
  · show a.length - ((((i+1):Nat):Int)).toNat < a.length - (((i:Nat):Int)).toNat;omega

theorem UY (a:World)  :Fn Tryz.prog 170 #[] a (fun v b=>Keep a b∧TQ b a.heap.size v (kw)):=by
 refine FI (n:=2) [] Tryz.func170 rfl rfl ?_
 refine sr<|aw (vs none 0 0) ?_
 refine nx<|ltI ([1116352408,1899447441,3049323471,3921009573,961987163,1508970993,2453635748,2870763221,3624381080,310598401,607225278,1426881987,1925078388,2162078206,2614888103,3248222580,3835390401,4022224774,264347078,604807628,770255983,1249150122,1555081692,1996064986,2554220882,2821834349,2952996808,3210313671,3336571891,3584528711,113926993,338241895,666307205,773529912,1294757372,1396182291,1695183700,1986661051,2177026350,2456956037,2730485921,2820302411,3259730800,3345764771,3516065817,3600352804,4094571909,275423344,430227734,506948616,659060556,883997877,958139571,1322822218,1537002063,1747873779,1955562222,2024104815,2227730452,2361852424,2428436474,2756734187,3204031479,3329325298]:List Int) wN uQ ?_
 intro d e j f g
 have h:=(Ch.base a).extk f
 refine aw (vs d ([1116352408,1899447441,3049323471,3921009573,961987163,1508970993,2453635748,2870763221,3624381080,310598401,607225278,1426881987,1925078388,2162078206,2614888103,3248222580,3835390401,4022224774,264347078,604807628,770255983,1249150122,1555081692,1996064986,2554220882,2821834349,2952996808,3210313671,3336571891,3584528711,113926993,338241895,666307205,773529912,1294757372,1396182291,1695183700,1986661051,2177026350,2456956037,2730485921,2820302411,3259730800,3345764771,3516065817,3600352804,4094571909,275423344,430227734,506948616,659060556,883997877,958139571,1322822218,1537002063,1747873779,1955562222,2024104815,2227730452,2361852424,2428436474,2756734187,3204031479,3329325298]:List Int).length e) ?_
 refine n3<|rt (vs d ([1116352408,1899447441,3049323471,3921009573,961987163,1508970993,2453635748,2870763221,3624381080,310598401,607225278,1426881987,1925078388,2162078206,2614888103,3248222580,3835390401,4022224774,264347078,604807628,770255983,1249150122,1555081692,1996064986,2554220882,2821834349,2952996808,3210313671,3336571891,3584528711,113926993,338241895,666307205,773529912,1294757372,1396182291,1695183700,1986661051,2177026350,2456956037,2730485921,2820302411,3259730800,3345764771,3516065817,3600352804,4094571909,275423344,430227734,506948616,659060556,883997877,958139571,1322822218,1537002063,1747873779,1955562222,2024104815,2227730452,2361852424,2428436474,2756734187,3204031479,3329325298]:List Int).length e) ?_
 refine ⟨h.keep0,?_⟩
 have i:kw=([1116352408,1899447441,3049323471,3921009573,961987163,1508970993,2453635748,2870763221,3624381080,310598401,607225278,1426881987,1925078388,2162078206,2614888103,3248222580,3835390401,4022224774,264347078,604807628,770255983,1249150122,1555081692,1996064986,2554220882,2821834349,2952996808,3210313671,3336571891,3584528711,113926993,338241895,666307205,773529912,1294757372,1396182291,1695183700,1986661051,2177026350,2456956037,2730485921,2820302411,3259730800,3345764771,3516065817,3600352804,4094571909,275423344,430227734,506948616,659060556,883997877,958139571,1322822218,1537002063,1747873779,1955562222,2024104815,2227730452,2361852424,2428436474,2756734187,3204031479,3329325298]:List Int):=by rfl
 rw [i]
 exact ⟨_,_,rfl,g,(by simp),⟨trivial,trivial⟩⟩

theorem Us (e:World) (t:Value) (b:List UInt8) (A:HP e t b) (a:Int) (d:Int) :Fn Tryz.prog 174 #[t,(vi a),(vi d)] e (fun v m=>Keep e m∧Rp m e.heap.size v (Hp b a d)):=by
 obtain ⟨j,l,rfl,s,K⟩:=A
 refine FI (n:=48) [(vs j b.length l),(vi a),(vi d)] Tryz.func174 rfl rfl ?_
 refine sr<|aw (vi 0) ?_
 refine aw (vi 0) ?_
 refine aw (vb false) ?_
 refine n4<|jT1 [(0,(vs j b.length l)),(1,(vi a)),(2,(vi d)),(6,(vi 0)),(7,(vi 0)),(8,(vb false))] (Hp b a d=(0,0,false)) ?_ fun q=>?_
 ·intro B w C L
  have D:=(Ch.base e).extk C
  refine sr<|aw (vi 0) ?_
  refine aw (vi 0) ?_
  refine aw (vb false) ?_
  refine n1<|Hu (.inl rfl) (vi 0) (vi 0) (vb false) rfl rfl rfl rfl ?_
  refine ⟨D.keep0,?_⟩
  rw [B]
  exact rfl
 refine mw (vi d) ?_
 refine pu (vb (decide (d < 1))) wN ?_
 refine mw (vb (decide (d < 1))) ?_
 rcases bt (decide (d < 1)) with g|g
 ·have M:=dT g
  iterate 2 refine sk g ?_
  refine pk (vb true) wN g ?_
  refine mw (vb true) ?_
  iterate 2 refine sk T1 ?_
  refine pk (vb true) wN T1 ?_
  refine mw (vb true) ?_
  iterate 6 refine sk T1 ?_
  refine pk (vb true) wN T1 ?_
  refine n2<|ct T1 ?_
  have E:Hp b a d=(0,0,false):=by first|exact Jw (by omega)|exact LP (by omega) (by omega) (by omega) (by omega)
  exact wj (q E _ (Ch.refl _ _))
 have N:=dF g
 refine mv (vi d) (wS g) ?_
 refine pu (vb (decide (6 < d))) (wS g) ?_
 refine pf (vb (decide (6 < d))) wN g ?_
 refine mw (vb (decide (6 < d))) ?_
 rcases bt (decide (6 < d)) with h|h
 ·have O:=dT h
  iterate 2 refine sk h ?_
  refine pk (vb true) wN h ?_
  refine mw (vb true) ?_
  iterate 6 refine sk T1 ?_
  refine pk (vb true) wN T1 ?_
  refine n2<|ct T1 ?_
  have F:Hp b a d=(0,0,false):=by first|exact Jw (by omega)|exact LP (by omega) (by omega) (by omega) (by omega)
  exact wj (q F _ (Ch.refl _ _))
 have P:=dF h
 refine mv (vi a) (wS h) ?_
 refine pu (vb (decide (a < 0))) (wS h) ?_
 refine pf (vb (decide (a < 0))) wN h ?_
 refine mw (vb (decide (a < 0))) ?_
 rcases bt (decide (a < 0)) with f|f
 ·have Q:=dT f
  iterate 6 refine sk f ?_
  refine pk (vb true) wN f ?_
  refine n2<|ct T1 ?_
  have G:Hp b a d=(0,0,false):=by first|exact Jw (by omega)|exact LP (by omega) (by omega) (by omega) (by omega)
  exact wj (q G _ (Ch.refl _ _))
 have R:=dF f
 refine mv (vi a) (wS f) ?_
 refine mv (vs j b.length l) (wS f) ?_
 refine ln (wS f) tD s ?_
 refine mv (vi d) (wS f) ?_
 refine ar ((b.length:Int) - d) (wS f) ?_
 refine pu (vb (decide (((b.length:Int) - d) < a))) (wS f) ?_
 refine pf (vb (decide (((b.length:Int) - d) < a))) wN f ?_
 refine n2 ?_
 rcases bt (decide (((b.length:Int) - d) < a)) with o|o
 ·have S:=dT o
  refine ct o ?_
  have H:Hp b a d=(0,0,false):=by first|exact Jw (by omega)|exact LP (by omega) (by omega) (by omega) (by omega)
  exact wj (q H _ (Ch.refl _ _))
 have T:=dF o
 refine cf o<|y1<|aw (vi 0) ?_
 refine n4<|aw (vi 0) ?_
 refine uD<|rg<|uJ<|Ge [(0,(vs j b.length l)),(1,(vi a)),(2,(vi d)),(6,(vi 0)),(7,(vi 0)),(8,(vb false)),(9,(vi (Jn ((b.drop a.toNat).take 0) 0))),(10,(vi ((0:Nat):Int)))] ⟨rfl,rfl,rfl,rfl,rfl,rfl,(cA (Value.int .i64) (show (0:Int)=(Jn ((b.drop a.toNat).take 0) 0) by rfl)),(cA (Value.int .i64) (show (0:Int)=((0:Nat):Int) by omega)),trivial⟩ (fun e' m=>∃ (i:Nat) (y:Env),e'=pt y [(0,(vs j b.length l)),(1,(vi a)),(2,(vi d)),(6,(vi 0)),(7,(vi 0)),(8,(vb false)),(9,(vi (Jn ((b.drop a.toNat).take i) 0))),(10,(vi ((i:Nat):Int)))]∧Ch (fun k=>e.heap.size≤k) e m∧Ch (fun k=>e.heap.size≤k) e m∧((i:Nat):Int)≤d) (fun e' _=>(d - (intOf (e' 10))).toNat) ?_ ?_
 ·exact fun u=>⟨0,u,rfl,(Ch.base e),(Ch.refl (fun k=>e.heap.size≤k) e),(by omega)⟩
 ·rintro _ w ⟨i,y,rfl,r,I,V⟩
  have hgb:=QD (b.drop a.toNat) i (by omega)
  have W:(b.getD (a+((i:Nat):Int)).toNat 0).toNat < 256:=UInt8.toNat_lt _
  refine uK<|sr<|mw (vi ((i:Nat):Int)) ?_
  refine mw (vi d) ?_
  refine pu (vb (decide (((i:Nat):Int) < d))) wN ?_
  refine n2 ?_
  rcases bf (decide (((i:Nat):Int) < d)) with p|p
  ·have X:=dF p
   refine cf p<|Gn<|uA<|uA<|wr<|rg<|sr<|mw (vi (Jn ((b.drop a.toNat).take i) 0)) ?_
   refine mw (vi a) ?_
   refine mw (vi d) ?_
   refine ar (a+d) wN ?_
   refine aw (vi (Jn ((b.drop a.toNat).take i) 0)) ?_
   refine aw (vi (a+d)) ?_
   refine aw (vb true) ?_
   refine n3<|Hu (.inl rfl) (vi (Jn ((b.drop a.toNat).take i) 0)) (vi (a+d)) (vb true) rfl rfl rfl rfl ?_
   refine ⟨r.keep0,?_⟩
   have J:Hp b a d=((Jn ((b.drop a.toNat).take i) 0),(a+d),true):=by first|exact Jw (by omega)|exact LP (by omega) (by omega) (by omega) (by omega)
   rw [J]
   exact rfl
  have Y:=dT p
  refine ct p<|FR<|rg<|uK<|uJ<|uG ?_
  refine mw (vi (Jn ((b.drop a.toNat).take i) 0)) ?_
  refine ar ((Jn ((b.drop a.toNat).take i) 0)*256) wN ?_
  refine mw (vs j b.length l) ?_
  refine mw (vi a) ?_
  refine mw (vi ((i:Nat):Int)) ?_
  refine ar (a+((i:Nat):Int)) wN ?_
  refine ix wN (a+((i:Nat):Int)) tD (s.from0 r) ?_
  refine eb (x:=b) (((a+((i:Nat):Int))).toNat) wN HI (s.from0 r) ?_
  refine ar ((b.getD ((a+((i:Nat):Int))).toNat 0).toNat:Int) wN ?_
  refine ar (((Jn ((b.drop a.toNat).take i) 0)*256)+((b.getD ((a+((i:Nat):Int))).toNat 0).toNat:Int)) wN ?_
  refine aw (vi (((Jn ((b.drop a.toNat).take i) 0)*256)+((b.getD ((a+((i:Nat):Int))).toNat 0).toNat:Int))) ?_
  refine uD<|uB<|rg<|uG ?_
  refine mw (vi ((i:Nat):Int)) ?_
  refine ar (((i:Nat):Int)+1) wN ?_
  refine aw (vi (((i:Nat):Int)+1)) ?_
  refine uD<|FX (w0:=w) [(0,(vs j b.length l)),(1,(vi a)),(2,(vi d)),(6,(vi 0)),(7,(vi 0)),(8,(vb false)),(9,(vi (Jn ((b.drop a.toNat).take (i+1)) 0))),(10,(vi (((i+1):Nat):Int)))] ?_ ?_ ?_
  · exact ⟨rfl,rfl,rfl,rfl,rfl,rfl,(cA (Value.int .i64) (show ((((Jn ((b.drop a.toNat).take i) 0)*256)+((b.getD ((a+((i:Nat):Int))).toNat 0).toNat:Int)):Int)=(Jn ((b.drop a.toNat).take (i+1)) 0) by exact Py (by omega) (by omega))),(cA (Value.int .i64) (show ((((i:Nat):Int)+1):Int)=(((i+1):Nat):Int) by omega)),trivial⟩
  · exact fun u=>⟨(i+1),u,rfl,r,((Ch.refl (fun k=>e.heap.size≤k) e).ext I (fun k hk=>hk)),(by omega)⟩
  · show (d - (((i+1):Nat):Int)).toNat < (d - ((i:Nat):Int)).toNat;omega

theorem Mk (i:World) (e:Int) (d:Int) (x:1≤d) (y:d≤31):Fn Tryz.prog 172 #[(vi e),(vi d)] i (fun v l=>Keep i l∧O_3 l i.heap.size v (rot e d)):=by
 refine FI (n:=24) [(vi e),(vi d)] Tryz.func172 rfl rfl ?_
 refine sr<|aw (vi 0) ?_
 refine nx<|mw (vi e) ?_
 refine Im e 4294967295 4294967296 32 wN rfl rfl (by decide) (by decide) (by decide) (by kernel_rfl) ?_
 refine aw (vi (e % 4294967296)) ?_
 refine n4<|jT1 [(1,(vi d)),(4,(vi 0)),(5,(vi (e % 4294967296)))] (rot e d=(e % 4294967296)) ?_ fun m=>?_
 ·intro o f p A
  have q:=(Ch.base i).extk p
  refine sr<|mw (vi (e % 4294967296)) ?_
  refine aw (vi (e % 4294967296)) ?_
  refine n1<|rt (vi (e % 4294967296)) ?_
  refine ⟨q.keep0,?_⟩
  rw [o]
  exact rfl
 refine mw (vi d) ?_
 refine pu (vb (decide (d < 1))) wN ?_
 refine mw (vb (decide (d < 1))) ?_
 rcases bt (decide (d < 1)) with g|g
 ·have B:=dT g
  iterate 2 refine sk g ?_
  refine pk (vb true) wN g ?_
  refine n2<|ct T1 ?_
  have r:rot e d=(e % 4294967296):=by first|rfl|(exfalso;omega)
  exact wj (m r _ (Ch.refl _ _))
 have C:=dF g
 refine mv (vi d) (wS g) ?_
 refine pu (vb (decide (31 < d))) (wS g) ?_
 refine pf (vb (decide (31 < d))) wN g ?_
 refine n2 ?_
 rcases bt (decide (31 < d)) with j|j
 ·have D:=dT j
  refine ct j ?_
  have s:rot e d=(e % 4294967296):=by first|rfl|(exfalso;omega)
  exact wj (m s _ (Ch.refl _ _))
 have E:=dF j
 refine cf j<|FR<|rg<|uK<|Ga ([(15,[],[],(fun _ v _=>v=(vi (e % 4294967296)))),(16,[],[],(fun _ v _=>v=(vi d))),(17,[],[0,1],(fun _ v _=>v=(vi ((e % 4294967296) / (2:Int) ^ (d).toNat)))),(18,[],[],(fun _ v _=>v=(vi (e % 4294967296)))),(19,[],[],(fun _ v _=>v=(vi d))),(20,[],[4],(fun _ v _=>v=(vi (32 - d)))),(21,[],[3,4,5],(fun _ v _=>v=(vi ((e % 4294967296)*(2:Int) ^ ((32 - d)).toNat))))]:GV) (fun _ l=>Keep i l) [] GU rfl (by kernel_rfl) (by kernel_rfl) ?_ (fun _ _ h=>h) (fun _ _ _ _ h _ k=>h.trans k) trivial ?_ ?_ ?_
 ·exact ⟨hV,hE,⟨hV,hE,⟨hV,hE,⟨hV,hE,⟨hV,hE,⟨hV,hE,⟨hV,hE,trivial⟩⟩⟩⟩⟩⟩⟩
 ·exact trivial
 ·refine ⟨?_,⟨?_,⟨?_,⟨?_,⟨?_,⟨?_,⟨?_,trivial⟩⟩⟩⟩⟩⟩⟩
  ·intro _ f F _
   rintro _ _ _ _ _ _ _
   refine sw<|mw (vi (e % 4294967296)) ?_
   exact f1
  ·intro _ f G _
   rintro _ _ _ _ _ _ _
   refine sw<|mw (vi d) ?_
   exact f1
  ·intro _ f H _
   rintro _ rfl _ rfl _ _ _ _ _
   refine sw<|Mp (e % 4294967296) d wN rfl rfl rfl rfl rfl (by omega) (by omega) ?_
   have I:=Ns (a:=(e % 4294967296)) (by omega) (d).toNat
   exact f1
  ·intro _ f J _
   rintro _ _ _ _ _ _ _
   refine sw<|mw (vi (e % 4294967296)) ?_
   exact f1
  ·intro _ f K _
   rintro _ _ _ _ _ _ _
   refine sw<|mw (vi d) ?_
   exact f1
  ·intro _ f L _
   rintro _ _ _ _ _ rfl _ _
   refine sw<|ar (32 - d) wN ?_
   exact f1
  ·intro _ f M _
   rintro _ _ _ _ rfl _ rfl _ rfl _
   refine sw<|LD (e % 4294967296) (32 - d) wN rfl rfl rfl rfl rfl (by omega) (by omega) (by omega) (by omega) ?_
   have N:=Qi (a:=(e % 4294967296)) (n:=((32 - d)).toNat) (by omega) (by omega) (by omega)
   exact f1
 ·intro _ f t
  have u:=(Ch.base i).extk t
  rintro _ rfl _ rfl _ rfl
  have O:=Ns (a:=(e % 4294967296)) (by omega) (d).toNat
  rintro _ rfl _ rfl _ rfl _ rfl
  have P:=Qi (a:=(e % 4294967296)) (n:=((32 - d)).toNat) (by omega) (by omega) (by omega)
  refine sw<|NY ((e % 4294967296) / (2:Int) ^ (d).toNat) ((e % 4294967296)*(2:Int) ^ ((32 - d)).toNat) wN rfl rfl (by kernel_rfl) (by omega) (by omega) (by omega) (by omega) ?_
  have Q:=Uj (a:=((e % 4294967296) / (2:Int) ^ (d).toNat)) (b:=((e % 4294967296)*(2:Int) ^ ((32 - d)).toNat)) (by omega) (by omega)
  refine Im (orI ((e % 4294967296) / (2:Int) ^ (d).toNat) ((e % 4294967296)*(2:Int) ^ ((32 - d)).toNat)) 4294967295 4294967296 32 wN rfl rfl (by decide) (by decide) (by decide) (by kernel_rfl) ?_
  refine aw (vi ((orI ((e % 4294967296) / (2:Int) ^ (d).toNat) ((e % 4294967296)*(2:Int) ^ ((32 - d)).toNat)) % 4294967296)) ?_
  refine n3<|rt (vi ((orI ((e % 4294967296) / (2:Int) ^ (d).toNat) ((e % 4294967296)*(2:Int) ^ ((32 - d)).toNat)) % 4294967296)) ?_
  refine ⟨u.keep0,?_⟩
  have w:rot e d=((orI ((e % 4294967296) / (2:Int) ^ (d).toNat) ((e % 4294967296)*(2:Int) ^ ((32 - d)).toNat)) % 4294967296):=by first|rfl|(exfalso;omega)
  rw [w]
  exact rfl

theorem PD (o:World) (ad:Value) (d:List UInt8) (a0:HP o ad d) :Fn Tryz.prog 171 #[ad] o (fun v s=>Keep o s∧TQ s o.heap.size v (schedP d)):=by
 obtain ⟨x,D,rfl,ae,a1⟩:=a0
 refine FI (n:=84) [(vs x d.length D)] Tryz.func171 rfl rfl ?_
 refine sr<|aw (vs none 0 0) ?_
 refine nx<|Gc wN rfl rfl uQ (fun w=>by kernel_rfl) ?_
 intro E J S af
 have T:=(Ch.base o).extk S
 refine aw (vs (some E) 0 0) ?_
 refine n4<|mw (vs x d.length D) ?_
 refine ln wN tD (ae.from0 T) ?_
 refine pu (vb (!(decide ((d.length:Int)=64)))) wN ?_
 refine n2 ?_
 rcases bf (decide ((d.length:Int)=64)) with F|F
 ·have aZ:=dF F
  refine ct (cA not F)<|sr<|mw (vs (some E) 0 0) ?_
  refine aw (vs (some E) 0 0) ?_
  refine n1<|rt (vs (some E) 0 0) ?_
  refine ⟨T.keep0,?_⟩
  have a2:schedP d=[]:=by first|exact Lv (by omega)|exact OL (by omega) (by omega) (by omega)
  rw [a2]
  exact ⟨_,_,rfl,af,(by simp),⟨trivial,trivial⟩⟩
 have ba:=dT F
 refine cf (cA not F)<|y2<|aw (vi 0) ?_
 refine uD<|rg<|uJ ?_
 have ah:([]:List Int)=GQ d 0:=by rfl
 have ai:0=(GQ d 0).length:=by rw [← ah];try (first|rfl|simp only [List.length_set]|simp)
 refine Ge [(0,(vs x d.length D)),(2,(vs none 0 0)),(3,(.slice (some E) (GQ d 0).length 0)),(4,(vi ((0:Nat):Int)))] ⟨rfl,rfl,rfl,(cA (Value.int .i64) (show (0:Int)=((0:Nat):Int) by omega)),trivial⟩ (fun e' s=>∃ (k:Nat) (aj:Env) (i:Option Addr) (j:Nat),e'=pt aj [(0,(vs x d.length D)),(2,(vs none 0 0)),(3,(.slice i (GQ d k).length j)),(4,(vi ((k:Nat):Int)))]∧Ch (fun k=>o.heap.size≤k) o s∧Ch (fun k=>o.heap.size≤k) J s∧k≤16∧(World.ownsRow s o.heap.size 3 1 (.slice i (GQ d k).length j) (GQ d k).length ((GQ d k).map iV)∧(GQ d k).length≤1073741824)) (fun e' _=>(16 - (intOf (e' 4))).toNat) ?_ ?_
 ·exact fun u=>⟨0,u,(some E),0,rfl,T,(Ch.refl (fun k=>o.heap.size≤k) J),(by omega),⟨(by rw [← ai,← ah];exact af),(by rw [← ai];first|exact (by simp)|(simp only [List.length_append,List.length_take,List.length_replicate];omega))⟩⟩
 ·rintro _ G ⟨k,aj,i,j,rfl,V,W,bb,⟨K,a3⟩⟩
  have hsl:=Jj d k
  refine uK<|sr<|mw (vi ((k:Nat):Int)) ?_
  refine pu (vb (decide (((k:Nat):Int) < 16))) wN ?_
  refine n2 ?_
  rcases bt (decide (((k:Nat):Int) < 16)) with H|H
  ·have bc:=dT H
   refine ct H<|FR<|rg<|uK<|uJ<|sr<|mw (vs x d.length D) ?_
   refine mw (vi ((k:Nat):Int)) ?_
   refine ar (4*((k:Nat):Int)) wN ?_
   refine cl wN (Us G _ d (FV (ae.from0 V) a1) (4*((k:Nat):Int)) 4) ?_
   rintro _ X ⟨L,rfl⟩
   refine mw (.tuple #[(vi ((Hp d (4*((k:Nat):Int)) 4).1)),(vi ((Hp d (4*((k:Nat):Int)) 4).2.1)),(vb ((Hp d (4*((k:Nat):Int)) 4).2.2))]) ?_
   refine pu (vi ((Hp d (4*((k:Nat):Int)) 4).1)) wN ?_
   refine pu (vi ((Hp d (4*((k:Nat):Int)) 4).2.1)) wN ?_
   refine pu (vb ((Hp d (4*((k:Nat):Int)) 4).2.2)) wN ?_
   refine aw (vi ((Hp d (4*((k:Nat):Int)) 4).1)) ?_
   refine aw (vi ((Hp d (4*((k:Nat):Int)) 4).2.1)) ?_
   refine aw (vb ((Hp d (4*((k:Nat):Int)) 4).2.2)) ?_
   refine uD<|rg<|uG ?_
   refine mw (vs i (GQ d k).length j) ?_
   refine mw (vi ((Hp d (4*((k:Nat):Int)) 4).1)) ?_
   refine ltI ([(Hp d (4*((k:Nat):Int)) 4).1]:List Int) wN uQ ?_
   intro bd be ak M a4
   have a5:=(gc (gc K L) M)
   refine apI (GQ d k) ([(Hp d (4*((k:Nat):Int)) 4).1]:List Int) wN uQ a5 (Rd.of_own a4) (z4 S W L M) ?_
   intro N O am an a6 bg a7
   have a8:=((V.extk L).extk M).ext an (fun k hk=>nT (Nat.le_refl o.heap.size) (uI K k hk).1)
   refine aw (vs N ((GQ d k)++([(Hp d (4*((k:Nat):Int)) 4).1]:List Int)).length O) ?_
   refine uD<|uB<|rg<|uG ?_
   refine mw (vi ((k:Nat):Int)) ?_
   refine ar (((k:Nat):Int)+1) wN ?_
   refine aw (vi (((k:Nat):Int)+1)) ?_
   refine uD ?_
   have ao:(((GQ d k)++([(Hp d (4*((k:Nat):Int)) 4).1]:List Int)):List Int)=GQ d (k+1):=by exact Oc (by omega) (by omega)
   refine FX (w0:=G) [(0,(vs x d.length D)),(2,(vs none 0 0)),(3,(.slice N (GQ d (k+1)).length O)),(4,(vi (((k+1):Nat):Int)))] ?_ ?_ ?_
   · exact ⟨rfl,rfl,(cA (fun l:List Int=>Value.slice N l.length O) ao),(cA (Value.int .i64) (show ((((k:Nat):Int)+1):Int)=(((k+1):Nat):Int) by omega)),trivial⟩
   · exact fun u=>⟨(k+1),u,N,O,rfl,a8,(((((Ch.refl (fun k=>o.heap.size≤k) J).ext W (fun k hk=>hk)).extk L).extk M).ext an (fun k hk=>nT (Nat.le_refl o.heap.size) (uI K k hk).1)),(by omega),(ao ▸ ⟨a6,a7⟩)⟩
   · show (16 - (((k+1):Nat):Int)).toNat < (16 - ((k:Nat):Int)).toNat;omega
  have bh:=dF H
  refine cf H<|Gn<|uA ?_
  obtain rfl:k=16:=by omega
  refine uA<|wr<|rg<|uK<|sr<|aw (vi 16) ?_
  refine uD<|rg<|uJ ?_
  have ap:((GQ d 16):List Int)=schedN d 0:=by rfl
  refine Ge [(2,(vs none 0 0)),(3,(.slice i (schedN d 0).length j)),(8,(vi (16+((0:Nat):Int))))] ⟨rfl,(cA (fun l:List Int=>Value.slice i l.length j) ap),(cA (Value.int .i64) (show (16:Int)=(16+((0:Nat):Int)) by omega)),trivial⟩ (fun e' s=>∃ (m:Nat) (aq:Env) (i:Option Addr) (j:Nat),e'=pt aq [(2,(vs none 0 0)),(3,(.slice i (schedN d m).length j)),(8,(vi (16+((m:Nat):Int))))]∧Ch (fun k=>o.heap.size≤k) o s∧Ch (fun k=>o.heap.size≤k) G s∧m≤48∧(World.ownsRow s o.heap.size 3 1 (.slice i (schedN d m).length j) (schedN d m).length ((schedN d m).map iV)∧(schedN d m).length≤1073741824)) (fun e' _=>(64 - (intOf (e' 8))).toNat) ?_ ?_
  ·exact fun u=>⟨0,u,i,j,rfl,V,(Ch.refl (fun k=>o.heap.size≤k) G),(by omega),(ap ▸ ⟨K,a3⟩)⟩
  ·rintro _ X ⟨m,aq,i,j,rfl,au,av,bi,⟨t,a9⟩⟩
   have hsl:=IY d m
   obtain ⟨p,Y⟩:∃ z,(schedN d m).getD (((16+((m:Nat):Int)) - 7)).toNat 0=z:=⟨_,rfl⟩
   have bj:0≤p∧p < 4294967296:=Y ▸ Ki (JI d m) (((16+((m:Nat):Int)) - 7)).toNat
   obtain ⟨q,Z⟩:∃ z,(schedN d m).getD (((16+((m:Nat):Int)) - 16)).toNat 0=z:=⟨_,rfl⟩
   have bk:0≤q∧q < 4294967296:=Z ▸ Ki (JI d m) (((16+((m:Nat):Int)) - 16)).toNat
   obtain ⟨f,aa⟩:∃ z,(schedN d m).getD (((16+((m:Nat):Int)) - 15)).toNat 0=z:=⟨_,rfl⟩
   have bl:0≤f∧f < 4294967296:=aa ▸ Ki (JI d m) (((16+((m:Nat):Int)) - 15)).toNat
   obtain ⟨g,ab⟩:∃ z,(schedN d m).getD (((16+((m:Nat):Int)) - 2)).toNat 0=z:=⟨_,rfl⟩
   have bm:0≤g∧g < 4294967296:=ab ▸ Ki (JI d m) (((16+((m:Nat):Int)) - 2)).toNat
   refine uK<|sr<|mw (vi (16+((m:Nat):Int))) ?_
   refine pu (vb (decide ((16+((m:Nat):Int)) < 64))) wN ?_
   refine n2 ?_
   rcases bf (decide ((16+((m:Nat):Int)) < 64)) with I|I
   ·have bn:=dF I
    refine cf I<|Gn<|uA<|uA<|wr<|rg<|sr<|mw (vs i (schedN d m).length j) ?_
    refine aw (vs i (schedN d m).length j) ?_
    refine n3<|rt (vs i (schedN d m).length j) ?_
    refine ⟨au.keep0,?_⟩
    have aA:schedP d=(schedN d m):=by first|exact Lv (by omega)|exact OL (by omega) (by omega) (by omega)
    rw [aA]
    exact ⟨_,_,rfl,t,a9,⟨trivial,trivial⟩⟩
   have bo:=dT I
   refine ct I<|FR<|rg<|uK<|uJ<|sr<|mw (vs i (schedN d m).length j) ?_
   refine mw (vi (16+((m:Nat):Int))) ?_
   refine ar ((16+((m:Nat):Int)) - 15) wN ?_
   refine ix wN ((16+((m:Nat):Int)) - 15) uQ (Rd.of_own t) ?_
   refine GW (iV f) wN rfl rfl rfl rfl tE (Rd.of_own t) (by rw [← aa];exact Px (by simp) (by first|omega|(simp <;> omega))) ?_
   refine aw (vi f) ?_
   refine nx<|mw (vs i (schedN d m).length j) ?_
   refine mw (vi (16+((m:Nat):Int))) ?_
   refine ar ((16+((m:Nat):Int)) - 2) wN ?_
   refine ix wN ((16+((m:Nat):Int)) - 2) uQ (Rd.of_own t) ?_
   refine GW (iV g) wN rfl rfl rfl rfl tE (Rd.of_own t) (by rw [← ab];exact Px (by simp) (by first|omega|(simp <;> omega))) ?_
   refine aw (vi g) ?_
   refine nx<|mw (vi f) ?_
   refine cl wN (Mk X f 7 (by omega) (by omega)) ?_
   rintro _ ak ⟨y,rfl⟩
   have bp:=GM f 7
   refine mw (vi f) ?_
   refine cl wN (Mk ak f 18 (by omega) (by omega)) ?_
   rintro _ am ⟨A,rfl⟩
   have aB:=(au.extk y).extk A
   have bq:=GM f 18
   refine HJ (rot f 7) (rot f 18) wN rfl rfl (by kernel_rfl) (by omega) (by omega) (by omega) (by omega) ?_
   have br:=GD (a:=(rot f 7)) (b:=(rot f 18)) (by omega) (by omega)
   refine mw (vi f) ?_
   refine KV f (3:Int) wN rfl rfl rfl rfl rfl (by omega) (by omega) ?_
   have bu:=Ns (a:=f) (by omega) ((3:Int)).toNat
   refine HJ (FA (rot f 7) (rot f 18)) (f / (2:Int) ^ ((3:Int)).toNat) wN rfl rfl (by kernel_rfl) (by omega) (by omega) (by omega) (by omega) ?_
   have bv:=GD (a:=(FA (rot f 7) (rot f 18))) (b:=(f / (2:Int) ^ ((3:Int)).toNat)) (by omega) (by omega)
   refine aw (vi (FA (FA (rot f 7) (rot f 18)) (f / (2:Int) ^ ((3:Int)).toNat))) ?_
   refine nx<|mw (vi g) ?_
   refine cl wN (Mk am g 17 (by omega) (by omega)) ?_
   rintro _ aC ⟨B,rfl⟩
   have bw:=GM g 17
   refine mw (vi g) ?_
   refine cl wN (Mk aC g 19 (by omega) (by omega)) ?_
   rintro _ ax ⟨C,rfl⟩
   have aD:=(aB.extk B).extk C
   have bz:=GM g 19
   refine HJ (rot g 17) (rot g 19) wN rfl rfl (by kernel_rfl) (by omega) (by omega) (by omega) (by omega) ?_
   have b0:=GD (a:=(rot g 17)) (b:=(rot g 19)) (by omega) (by omega)
   refine mw (vi g) ?_
   refine KV g (10:Int) wN rfl rfl rfl rfl rfl (by omega) (by omega) ?_
   have b1:=Ns (a:=g) (by omega) ((10:Int)).toNat
   refine HJ (FA (rot g 17) (rot g 19)) (g / (2:Int) ^ ((10:Int)).toNat) wN rfl rfl (by kernel_rfl) (by omega) (by omega) (by omega) (by omega) ?_
   have b2:=GD (a:=(FA (rot g 17) (rot g 19))) (b:=(g / (2:Int) ^ ((10:Int)).toNat)) (by omega) (by omega)
   refine aw (vi (FA (FA (rot g 17) (rot g 19)) (g / (2:Int) ^ ((10:Int)).toNat))) ?_
   refine n2<|Ga ([(64,[],[],(fun _ v _=>v=(vs i (schedN d m).length j))),(65,[],[],(fun _ v _=>v=(vs i (schedN d m).length j))),(66,[],[],(fun _ v _=>v=(vi (16+((m:Nat):Int))))),(67,[],[2],(fun _ v _=>v=(vi ((16+((m:Nat):Int)) - 7)))),(68,[],[1,2,3],(fun _ v _=>v=(ve (vs i (schedN d m).length j) ((((16+((m:Nat):Int)) - 7)).toNat*1)))),(69,[],[1,2,3,4],(fun _ v _=>v=(vi p))),(70,[],[],(fun _ v _=>v=(vs i (schedN d m).length j))),(71,[],[],(fun _ v _=>v=(vi (16+((m:Nat):Int))))),(72,[],[7],(fun _ v _=>v=(vi ((16+((m:Nat):Int)) - 16)))),(73,[],[6,7,8],(fun _ v _=>v=(ve (vs i (schedN d m).length j) ((((16+((m:Nat):Int)) - 16)).toNat*1)))),(74,[],[6,7,8,9],(fun _ v _=>v=(vi q))),(75,[],[1,2,3,4,5,6,7,8,9,10],(fun _ v _=>v=(vi (p+q)))),(76,[],[],(fun _ v _=>v=(vi (FA (FA (rot f 7) (rot f 18)) (f / (2:Int) ^ ((3:Int)).toNat))))),(77,[],[1,2,3,4,5,6,7,8,9,10,11,12],(fun _ v _=>v=(vi ((p+q)+(FA (FA (rot f 7) (rot f 18)) (f / (2:Int) ^ ((3:Int)).toNat)))))),(78,[],[],(fun _ v _=>v=(vi (FA (FA (rot g 17) (rot g 19)) (g / (2:Int) ^ ((10:Int)).toNat))))),(79,[],[1,2,3,4,5,6,7,8,9,10,11,12,13,14],(fun _ v _=>v=(vi (((p+q)+(FA (FA (rot f 7) (rot f 18)) (f / (2:Int) ^ ((3:Int)).toNat)))+(FA (FA (rot g 17) (rot g 19)) (g / (2:Int) ^ ((10:Int)).toNat)))))),(80,[],[1,2,3,4,5,6,7,8,9,10,11,12,13,14,15],(fun _ v _=>v=(vi ((((p+q)+(FA (FA (rot f 7) (rot f 18)) (f / (2:Int) ^ ((3:Int)).toNat)))+(FA (FA (rot g 17) (rot g 19)) (g / (2:Int) ^ ((10:Int)).toNat))) % 4294967296)))),(81,[],[1,2,3,4,5,6,7,8,9,10,11,12,13,14,15,16],(fun _ v w=>∃ (x:Option Addr) (ac:Nat),v=.slice x ([((((p+q)+(FA (FA (rot f 7) (rot f 18)) (f / (2:Int) ^ ((3:Int)).toNat)))+(FA (FA (rot g 17) (rot g 19)) (g / (2:Int) ^ ((10:Int)).toNat))) % 4294967296)]:List Int).length ac∧w.ownsRow ax.heap.size 3 1 (.slice x ([((((p+q)+(FA (FA (rot f 7) (rot f 18)) (f / (2:Int) ^ ((3:Int)).toNat)))+(FA (FA (rot g 17) (rot g 19)) (g / (2:Int) ^ ((10:Int)).toNat))) % 4294967296)]:List Int).length ac) ([((((p+q)+(FA (FA (rot f 7) (rot f 18)) (f / (2:Int) ^ ((3:Int)).toNat)))+(FA (FA (rot g 17) (rot g 19)) (g / (2:Int) ^ ((10:Int)).toNat))) % 4294967296)]:List Int).length (([((((p+q)+(FA (FA (rot f 7) (rot f 18)) (f / (2:Int) ^ ((3:Int)).toNat)))+(FA (FA (rot g 17) (rot g 19)) (g / (2:Int) ^ ((10:Int)).toNat))) % 4294967296)]:List Int).map iV)∧([((((p+q)+(FA (FA (rot f 7) (rot f 18)) (f / (2:Int) ^ ((3:Int)).toNat)))+(FA (FA (rot g 17) (rot g 19)) (g / (2:Int) ^ ((10:Int)).toNat))) % 4294967296)]:List Int).length≤1073741824∧Aps [(x,ac)]))]:GV) (fun _ s=>Keep ax s) [] GU rfl (by kernel_rfl) (by kernel_rfl) ?_ (fun _ _ h=>h) (fun _ _ _ _ h _ k=>h.trans k) trivial ?_ ?_ ?_
   ·exact ⟨hV,hE,⟨hV,hE,⟨hV,hE,⟨hV,hE,⟨hV,hE,⟨hV,hE,⟨hV,hE,⟨hV,hE,⟨hV,hE,⟨hV,hE,⟨hV,hE,⟨hV,hE,⟨hV,hE,⟨hV,hE,⟨hV,hE,⟨hV,hE,⟨hV,hE,⟨(fun e v w J h hk=>by obtain ⟨aE,aF,he,aG,aH,hap⟩:=h;exact ⟨aE,aF,he,gc aG hk,aH,hap⟩),hE,trivial⟩⟩⟩⟩⟩⟩⟩⟩⟩⟩⟩⟩⟩⟩⟩⟩⟩⟩
   ·exact trivial
   ·refine ⟨?_,⟨?_,⟨?_,⟨?_,⟨?_,⟨?_,⟨?_,⟨?_,⟨?_,⟨?_,⟨?_,⟨?_,⟨?_,⟨?_,⟨?_,⟨?_,⟨?_,⟨?_,trivial⟩⟩⟩⟩⟩⟩⟩⟩⟩⟩⟩⟩⟩⟩⟩⟩⟩⟩
    ·intro _ r b3 _
     iterate 18 intro _
     refine sw<|mw (vs i (schedN d m).length j) ?_
     exact f1
    ·intro _ r b4 _
     iterate 18 intro _
     refine sw<|mw (vs i (schedN d m).length j) ?_
     exact f1
    ·intro _ r b5 _
     iterate 18 intro _
     refine sw<|mw (vi (16+((m:Nat):Int))) ?_
     exact f1
    ·intro _ r b6 _
     rintro _ _ _ rfl;iterate 15 intro _
     refine sw<|ar ((16+((m:Nat):Int)) - 7) wN ?_
     exact f1
    ·intro _ r aI _
     rintro _ _ rfl _ rfl _ rfl;iterate 14 intro _
     refine sw ?_
     have aJ:=(gc (gc (gc (gc (gc t y) A) B) C) aI)
     refine ix wN ((16+((m:Nat):Int)) - 7) uQ (Rd.of_own aJ) ?_
     exact f1
    ·intro _ r aK _
     rintro _ _ rfl _ rfl _ rfl _ rfl;iterate 13 intro _
     refine sw ?_
     have aL:=(gc (gc (gc (gc (gc t y) A) B) C) aK)
     refine GW (iV p) wN rfl rfl rfl rfl tE (Rd.of_own aL) (by rw [← Y];exact Px (by simp) (by first|omega|(simp <;> omega))) ?_
     exact f1
    ·intro _ r b7 _
     iterate 18 intro _
     refine sw<|mw (vs i (schedN d m).length j) ?_
     exact f1
    ·intro _ r b8 _
     iterate 18 intro _
     refine sw<|mw (vi (16+((m:Nat):Int))) ?_
     exact f1
    ·intro _ r b9 _
     rintro _ _ _ _ _ _ _ _ rfl _ _ _ _ _ _ _ _ _ _
     refine sw<|ar ((16+((m:Nat):Int)) - 16) wN ?_
     exact f1
    ·intro _ r aM _
     rintro _ _ _ _ _ _ _ rfl _ rfl _ rfl _ _ _ _ _ _ _ _ _
     refine sw ?_
     have aN:=(gc (gc (gc (gc (gc t y) A) B) C) aM)
     refine ix wN ((16+((m:Nat):Int)) - 16) uQ (Rd.of_own aN) ?_
     exact f1
    ·intro _ r aO _
     rintro _ _ _ _ _ _ _ rfl _ rfl _ rfl _ rfl _ _ _ _ _ _ _ _
     refine sw ?_
     have aP:=(gc (gc (gc (gc (gc t y) A) B) C) aO)
     refine GW (iV q) wN rfl rfl rfl rfl tE (Rd.of_own aP) (by rw [← Z];exact Px (by simp) (by first|omega|(simp <;> omega))) ?_
     exact f1
    ·intro _ r bA _
     rintro _
     iterate 10 rintro _ rfl
     intro _ _ _ _ _ _ _
     refine sw<|ar (p+q) wN ?_
     exact f1
    ·intro _ r bB _
     iterate 18 intro _
     refine sw<|mw (vi (FA (FA (rot f 7) (rot f 18)) (f / (2:Int) ^ ((3:Int)).toNat))) ?_
     exact f1
    ·intro _ r bC _
     rintro _
     iterate 12 rintro _ rfl
     intro _ _ _ _ _
     refine sw<|ar ((p+q)+(FA (FA (rot f 7) (rot f 18)) (f / (2:Int) ^ ((3:Int)).toNat))) wN ?_
     exact f1
    ·intro _ r bD _
     iterate 18 intro _
     refine sw<|mw (vi (FA (FA (rot g 17) (rot g 19)) (g / (2:Int) ^ ((10:Int)).toNat))) ?_
     exact f1
    ·intro _ r bE _
     rintro _
     iterate 14 rintro _ rfl
     intro _ _ _
     refine sw<|ar (((p+q)+(FA (FA (rot f 7) (rot f 18)) (f / (2:Int) ^ ((3:Int)).toNat)))+(FA (FA (rot g 17) (rot g 19)) (g / (2:Int) ^ ((10:Int)).toNat))) wN ?_
     exact f1
    ·intro _ r bF _
     rintro _
     iterate 15 rintro _ rfl
     intro _ _
     refine sw<|Im (((p+q)+(FA (FA (rot f 7) (rot f 18)) (f / (2:Int) ^ ((3:Int)).toNat)))+(FA (FA (rot g 17) (rot g 19)) (g / (2:Int) ^ ((10:Int)).toNat))) 4294967295 4294967296 32 wN rfl rfl (by decide) (by decide) (by decide) (by kernel_rfl) ?_
     exact f1
    ·intro _ r aQ _
     rintro _
     iterate 16 rintro _ rfl
     intro _
     refine sw<|ltI ([((((p+q)+(FA (FA (rot f 7) (rot f 18)) (f / (2:Int) ^ ((3:Int)).toNat)))+(FA (FA (rot g 17) (rot g 19)) (g / (2:Int) ^ ((10:Int)).toNat))) % 4294967296)]:List Int) wN uQ ?_
     intro bG bH aR aS aT
     exact FY aS ⟨_,_,rfl,(tA aT aQ.size),(by simp),⟨trivial,trivial⟩⟩
   ·intro _ r P
    iterate 17 rintro _ rfl
    rintro _ ⟨bI,bJ,rfl,aU,bK,-⟩
    refine sw ?_
    have aV:=(gc (gc (gc (gc (gc t y) A) B) C) P)
    refine apI (schedN d m) ([((((p+q)+(FA (FA (rot f 7) (rot f 18)) (f / (2:Int) ^ ((3:Int)).toNat)))+(FA (FA (rot g 17) (rot g 19)) (g / (2:Int) ^ ((10:Int)).toNat))) % 4294967296)]:List Int) wN uQ aV (Rd.of_own aU) (z8 S W av y A B C P) ?_
    intro Q R aR ay aW bL aX
    have aY:=(aD.extk P).ext ay (fun k hk=>nT (Nat.le_refl o.heap.size) (uI t k hk).1)
    refine aw (vs Q ((schedN d m)++([((((p+q)+(FA (FA (rot f 7) (rot f 18)) (f / (2:Int) ^ ((3:Int)).toNat)))+(FA (FA (rot g 17) (rot g 19)) (g / (2:Int) ^ ((10:Int)).toNat))) % 4294967296)]:List Int)).length R) ?_
    refine uD<|uB<|rg<|uG ?_
    refine mw (vi (16+((m:Nat):Int))) ?_
    refine ar ((16+((m:Nat):Int))+1) wN ?_
    refine aw (vi ((16+((m:Nat):Int))+1)) ?_
    refine uD ?_
    have az:(((schedN d m)++([((((p+q)+(FA (FA (rot f 7) (rot f 18)) (f / (2:Int) ^ ((3:Int)).toNat)))+(FA (FA (rot g 17) (rot g 19)) (g / (2:Int) ^ ((10:Int)).toNat))) % 4294967296)]:List Int)):List Int)=schedN d (m+1):=by subst Y Z aa ab;exact Pt
    refine FX (w0:=X) [(2,(vs none 0 0)),(3,(.slice Q (schedN d (m+1)).length R)),(8,(vi (16+(((m+1):Nat):Int))))] ?_ ?_ ?_
    · exact ⟨rfl,(cA (fun l:List Int=>Value.slice Q l.length R) az),(cA (Value.int .i64) (show (((16+((m:Nat):Int))+1):Int)=(16+(((m+1):Nat):Int)) by omega)),trivial⟩
    · exact fun u=>⟨(m+1),u,Q,R,rfl,aY,((((((((Ch.refl (fun k=>o.heap.size≤k) G).ext av (fun k hk=>hk)).extk y).extk A).extk B).extk C).extk P).ext ay (fun k hk=>nT (Nat.le_refl o.heap.size) (uI t k hk).1)),(by omega),(az ▸ ⟨aW,aX⟩)⟩
    · show (64 - (16+(((m+1):Nat):Int))).toNat < (64 - (16+((m:Nat):Int))).toNat;omega

theorem PE (G:World) (a0:Value) (j:List Int) (aN:RC G a0 j) (a1:Value) (p:List UInt8) (aO:HP G a1 p) :Fn Tryz.prog 166 #[a0,a1] G (fun v L=>Keep G L∧TQ L G.heap.size v (GP j p)):=by
 obtain ⟨B,C,rfl,F,ap⟩:=aN
 obtain ⟨ah,ai,rfl,a2,aP⟩:=aO
 refine FI (n:=156) [(vs B j.length C),(vs ah p.length ai)] Tryz.func166 rfl rfl ?_
 refine sr<|aw (vs none 0 0) ?_
 refine nx<|Gc wN rfl rfl uQ (fun w=>by kernel_rfl) ?_
 intro cj ck a3 aQ
 have a4:=(Ch.base G).extk a3
 refine mw (vs B j.length C) ?_
 refine TJ j wN uQ aQ (F.from0 a4) a3.size ?_
 intro H I a5 aR X cm
 have aq:=a4.extk aR
 refine aw (vs H j.length I) ?_
 refine n4<|jT1 [(0,(vs B j.length C)),(1,(vs ah p.length ai)),(4,(vs none 0 0)),(5,(vs H j.length I))] (GP j p=j) ?_ fun a6=>?_
 ·intro aS a7 a8 cn
  have aT:=aq.extk a8
  refine sr<|mw (vs H j.length I) ?_
  refine aw (vs H j.length I) ?_
  refine n1 ?_
  have aU:=(gc X a8)
  refine rt (vs H j.length I) ?_
  refine ⟨aT.keep0,?_⟩
  rw [aS]
  exact ⟨_,_,rfl,aU,ap,⟨trivial,trivial⟩⟩
 refine mw (vs B j.length C) ?_
 refine cl wN (QM a5 _ j (Lq (F.from0 aq) ap)) ?_
 rintro _ a7 ⟨Y,rfl⟩
 have a9:=aq.extk Y
 refine pu (vb (!(ws8 j))) wN ?_
 refine mw (vb (!(ws8 j))) ?_
 rcases bf (ws8 j) with N|N
 ·iterate 3 refine sk (cA not N) ?_
  refine pk (vb true) wN (cA not N) ?_
  refine n2<|ct T1 ?_
  have aV:GP j p=j:=by first|exact Jb (by first|assumption|exact ‹ws8 j=false›)|exact Ja (by omega)|exact IZ (by first|assumption|exact ‹ws8 j=true›) (by omega) (by omega)
  exact wj (a6 aV _ Y)
 have co:=UP N
 refine mv (vs ah p.length ai) (wS (cA not N)) ?_
 refine ln (wS (cA not N)) tD (a2.from0 a9) ?_
 refine pu (vb (!(decide ((p.length:Int)=64)))) (wS (cA not N)) ?_
 refine pf (vb (!(decide ((p.length:Int)=64)))) wN (cA not N) ?_
 refine n2 ?_
 rcases bf (decide ((p.length:Int)=64)) with aa|aa
 ·have cp:=dF aa
  refine ct (cA not aa) ?_
  have aW:GP j p=j:=by first|exact Jb (by first|assumption|exact ‹ws8 j=false›)|exact Ja (by omega)|exact IZ (by first|assumption|exact ‹ws8 j=true›) (by omega) (by omega)
  exact wj (a6 aW _ Y)
 have cq:=dT aa
 refine cf (cA not aa)<|y1<|cl wN (UY a7 ) ?_
 rintro _ au ⟨aj,⟨R,S,rfl,ak,_⟩⟩
 have aA:=a9.extk aj
 refine aw (vs R (kw).length S) ?_
 refine nx<|mw (vs ah p.length ai) ?_
 refine cl wN (PD au _ p (FV (a2.from0 aA) aP)) ?_
 rintro _ aB ⟨O,⟨T,V,rfl,am,_⟩⟩
 have J:=aA.extk O
 have cr:=Ms p
 refine aw (vs T (schedP p).length V) ?_
 refine uD<|rg<|uK<|IM ([(36,[],[],(fun _ v _=>v=(vs B j.length C))),(37,[],[0],(fun _ v _=>v=(ve (vs B j.length C) ((0:Int).toNat*1)))),(38,[],[0,1],(fun _ v _=>v=(vi (j.getD 0 0)))),(39,[],[],(fun _ v _=>v=(vs B j.length C))),(40,[],[3],(fun _ v _=>v=(ve (vs B j.length C) ((1:Int).toNat*1)))),(41,[],[3,4],(fun _ v _=>v=(vi (j.getD 1 0)))),(42,[],[],(fun _ v _=>v=(vs B j.length C))),(43,[],[6],(fun _ v _=>v=(ve (vs B j.length C) ((2:Int).toNat*1)))),(44,[],[6,7],(fun _ v _=>v=(vi (j.getD 2 0)))),(45,[],[],(fun _ v _=>v=(vs B j.length C))),(46,[],[9],(fun _ v _=>v=(ve (vs B j.length C) ((3:Int).toNat*1)))),(47,[],[9,10],(fun _ v _=>v=(vi (j.getD 3 0)))),(48,[],[],(fun _ v _=>v=(vs B j.length C))),(49,[],[12],(fun _ v _=>v=(ve (vs B j.length C) ((4:Int).toNat*1)))),(50,[],[12,13],(fun _ v _=>v=(vi (j.getD 4 0)))),(51,[],[],(fun _ v _=>v=(vs B j.length C))),(52,[],[15],(fun _ v _=>v=(ve (vs B j.length C) ((5:Int).toNat*1)))),(53,[],[15,16],(fun _ v _=>v=(vi (j.getD 5 0)))),(54,[],[],(fun _ v _=>v=(vs B j.length C))),(55,[],[18],(fun _ v _=>v=(ve (vs B j.length C) ((6:Int).toNat*1)))),(56,[],[18,19],(fun _ v _=>v=(vi (j.getD 6 0)))),(57,[],[],(fun _ v _=>v=(vs B j.length C))),(58,[],[21],(fun _ v _=>v=(ve (vs B j.length C) ((7:Int).toNat*1)))),(59,[],[21,22],(fun _ v _=>v=(vi (j.getD 7 0)))),(8,[],[0,1,2],(fun _ v _=>v=(vi (j.getD 0 0)))),(9,[],[0,1,2,3,4,5,24],(fun _ v _=>v=(vi (j.getD 1 0)))),(10,[],[0,1,2,3,4,5,6,7,8,24,25],(fun _ v _=>v=(vi (j.getD 2 0)))),(11,[],[0,1,2,3,4,5,6,7,8,9,10,11,24,25,26],(fun _ v _=>v=(vi (j.getD 3 0)))),(12,[],[0,1,2,3,4,5,6,7,8,9,10,11,12,13,14,24,25,26,27],(fun _ v _=>v=(vi (j.getD 4 0)))),(13,[],[0,1,2,3,4,5,6,7,8,9,10,11,12,13,14,15,16,17,24,25,26,27,28],(fun _ v _=>v=(vi (j.getD 5 0)))),(14,[],[0,1,2,3,4,5,6,7,8,9,10,11,12,13,14,15,16,17,18,19,20,24,25,26,27,28,29],(fun _ v _=>v=(vi (j.getD 6 0))))]:GV) GU rfl (by kernel_rfl) (by kernel_rfl) ?_ ?_ ?_
 ·exact ⟨hV,hE,⟨hV,hE,⟨hV,hE,⟨hV,hE,⟨hV,hE,⟨hV,hE,⟨hV,hE,⟨hV,hE,⟨hV,hE,⟨hV,hE,⟨hV,hE,⟨hV,hE,⟨hV,hE,⟨hV,hE,⟨hV,hE,⟨hV,hE,⟨hV,hE,⟨hV,hE,⟨hV,hE,⟨hV,hE,⟨hV,hE,⟨hV,hE,⟨hV,hE,⟨hV,hE,⟨hV,hE,⟨hV,hE,⟨hV,hE,⟨hV,hE,⟨hV,hE,⟨hV,hE,⟨hV,hE,trivial⟩⟩⟩⟩⟩⟩⟩⟩⟩⟩⟩⟩⟩⟩⟩⟩⟩⟩⟩⟩⟩⟩⟩⟩⟩⟩⟩⟩⟩⟩⟩
 ·refine ⟨?_,⟨?_,⟨?_,⟨?_,⟨?_,⟨?_,⟨?_,⟨?_,⟨?_,⟨?_,⟨?_,⟨?_,⟨?_,⟨?_,⟨?_,⟨?_,⟨?_,⟨?_,⟨?_,⟨?_,⟨?_,⟨?_,⟨?_,⟨?_,⟨?_,⟨?_,⟨?_,⟨?_,⟨?_,⟨?_,⟨?_,trivial⟩⟩⟩⟩⟩⟩⟩⟩⟩⟩⟩⟩⟩⟩⟩⟩⟩⟩⟩⟩⟩⟩⟩⟩⟩⟩⟩⟩⟩⟩⟩
  ·intro A cs
   iterate 31 intro _
   refine sw<|mw (vs B j.length C) ?_
   exact f2
  ·intro A aX
   have aY:=J.extk aX
   rintro _ rfl;iterate 30 intro _
   refine sw<|ix wN 0 uQ (F.from0 aY) ?_
   exact f2
  ·intro A aZ
   have ba:=J.extk aZ
   rintro _ rfl _ rfl;iterate 29 intro _
   refine sw<|ei (x:=j) 0 wN tE (F.from0 ba) ?_
   exact f2
  ·intro A cu
   iterate 31 intro _
   refine sw<|mw (vs B j.length C) ?_
   exact f2
  ·intro A bb
   have bc:=J.extk bb
   rintro _ _ _ _ rfl;iterate 27 intro _
   refine sw<|ix wN 1 uQ (F.from0 bc) ?_
   exact f2
  ·intro A bd
   have be:=J.extk bd
   rintro _ _ _ _ rfl _ rfl;iterate 26 intro _
   refine sw<|ei (x:=j) 1 wN tE (F.from0 be) ?_
   exact f2
  ·intro A cv
   iterate 31 intro _
   refine sw<|mw (vs B j.length C) ?_
   exact f2
  ·intro A bg
   have bh:=J.extk bg
   rintro _ _ _ _ _ _ _ rfl;iterate 24 intro _
   refine sw<|ix wN 2 uQ (F.from0 bh) ?_
   exact f2
  ·intro A bi
   have bj:=J.extk bi
   rintro _ _ _ _ _ _ _ rfl _ rfl;iterate 23 intro _
   refine sw<|ei (x:=j) 2 wN tE (F.from0 bj) ?_
   exact f2
  ·intro A cw
   iterate 31 intro _
   refine sw<|mw (vs B j.length C) ?_
   exact f2
  ·intro A bk
   have bl:=J.extk bk
   rintro _ _ _ _ _ _ _ _ _ _ rfl;iterate 21 intro _
   refine sw<|ix wN 3 uQ (F.from0 bl) ?_
   exact f2
  ·intro A bm
   have bn:=J.extk bm
   rintro _ _ _ _ _ _ _ _ _ _ rfl _ rfl;iterate 20 intro _
   refine sw<|ei (x:=j) 3 wN tE (F.from0 bn) ?_
   exact f2
  ·intro A cx
   iterate 31 intro _
   refine sw<|mw (vs B j.length C) ?_
   exact f2
  ·intro A bo
   have bp:=J.extk bo
   (iterate 13 intro _);rintro rfl;iterate 18 intro _
   refine sw<|ix wN 4 uQ (F.from0 bp) ?_
   exact f2
  ·intro A bq
   have br:=J.extk bq
   (iterate 13 intro _);rintro rfl _ rfl;iterate 17 intro _
   refine sw<|ei (x:=j) 4 wN tE (F.from0 br) ?_
   exact f2
  ·intro A cy
   iterate 31 intro _
   refine sw<|mw (vs B j.length C) ?_
   exact f2
  ·intro A bu
   have bv:=J.extk bu
   (iterate 16 intro _);rintro rfl;iterate 15 intro _
   refine sw<|ix wN 5 uQ (F.from0 bv) ?_
   exact f2
  ·intro A bw
   have bz:=J.extk bw
   (iterate 16 intro _);rintro rfl _ rfl;iterate 14 intro _
   refine sw<|ei (x:=j) 5 wN tE (F.from0 bz) ?_
   exact f2
  ·intro A cz
   iterate 31 intro _
   refine sw<|mw (vs B j.length C) ?_
   exact f2
  ·intro A b0
   have b1:=J.extk b0
   (iterate 19 intro _);rintro rfl _ _ _ _ _ _ _ _ _ _ _ _
   refine sw<|ix wN 6 uQ (F.from0 b1) ?_
   exact f2
  ·intro A b2
   have b3:=J.extk b2
   (iterate 19 intro _);rintro rfl _ rfl _ _ _ _ _ _ _ _ _ _ _
   refine sw<|ei (x:=j) 6 wN tE (F.from0 b3) ?_
   exact f2
  ·intro A c0
   iterate 31 intro _
   refine sw<|mw (vs B j.length C) ?_
   exact f2
  ·intro A b4
   have b5:=J.extk b4
   (iterate 22 intro _);rintro rfl _ _ _ _ _ _ _ _ _
   refine sw<|ix wN 7 uQ (F.from0 b5) ?_
   exact f2
  ·intro A b6
   have b7:=J.extk b6
   (iterate 22 intro _);rintro rfl _ rfl _ _ _ _ _ _ _ _
   refine sw<|ei (x:=j) 7 wN tE (F.from0 b7) ?_
   exact f2
  ·intro A c1
   rintro _ rfl _ rfl _ rfl;iterate 28 intro _
   refine sw<|aw (vi (j.getD 0 0)) ?_
   exact f2
  ·intro A c2
   rintro _ rfl _ rfl _ rfl _ rfl _ rfl _ rfl;(iterate 19 intro _);rintro rfl _ _ _ _ _ _
   refine sw<|aw (vi (j.getD 1 0)) ?_
   exact f2
  ·intro A c3
   rintro _ rfl _ rfl _ rfl _ rfl _ rfl _ rfl _ rfl _ rfl _ rfl;(iterate 16 intro _);rintro rfl _ rfl _ _ _ _ _
   refine sw<|aw (vi (j.getD 2 0)) ?_
   exact f2
  ·intro A c4
   iterate 12 rintro _ rfl
   rintro _ _ _ _ _ _ _ _ _ _ _ _ _ rfl _ rfl _ rfl _ _ _ _
   refine sw<|aw (vi (j.getD 3 0)) ?_
   exact f2
  ·intro A c5
   iterate 15 rintro _ rfl
   rintro _ _ _ _ _ _ _ _ _ _ rfl _ rfl _ rfl _ rfl _ _ _
   refine sw<|aw (vi (j.getD 4 0)) ?_
   exact f2
  ·intro A c6
   iterate 18 rintro _ rfl
   rintro _ _ _ _ _ _ _ rfl _ rfl _ rfl _ rfl _ rfl _ _
   refine sw<|aw (vi (j.getD 5 0)) ?_
   exact f2
  ·intro A c7
   iterate 21 rintro _ rfl
   rintro _ _ _ _ rfl _ rfl _ rfl _ rfl _ rfl _ rfl _
   refine sw<|aw (vi (j.getD 6 0)) ?_
   exact f2
 ·intro A M
  have b8:=J.extk M
  iterate 31 rintro _ rfl
  refine sw<|aw (vi (j.getD 7 0)) ?_
  refine n4<|aw (vi 0) ?_
  refine uD<|rg<|uJ<|Ge [(0,(vs B j.length C)),(4,(vs none 0 0)),(5,(vs H j.length I)),(6,(vs R (kw).length S)),(7,(vs T (schedP p).length V)),(8,(vi ((Gu (schedP p) (GL j) 0).a))),(9,(vi ((Gu (schedP p) (GL j) 0).b))),(10,(vi ((Gu (schedP p) (GL j) 0).c))),(11,(vi ((Gu (schedP p) (GL j) 0).d))),(12,(vi ((Gu (schedP p) (GL j) 0).e))),(13,(vi ((Gu (schedP p) (GL j) 0).f))),(14,(vi ((Gu (schedP p) (GL j) 0).g))),(15,(vi ((Gu (schedP p) (GL j) 0).z))),(16,(vi ((0:Nat):Int)))] ⟨rfl,rfl,rfl,rfl,rfl,(cA (Value.int .i64) (show ((j.getD 0 0):Int)=(Gu (schedP p) (GL j) 0).a by rfl)),(cA (Value.int .i64) (show ((j.getD 1 0):Int)=(Gu (schedP p) (GL j) 0).b by rfl)),(cA (Value.int .i64) (show ((j.getD 2 0):Int)=(Gu (schedP p) (GL j) 0).c by rfl)),(cA (Value.int .i64) (show ((j.getD 3 0):Int)=(Gu (schedP p) (GL j) 0).d by rfl)),(cA (Value.int .i64) (show ((j.getD 4 0):Int)=(Gu (schedP p) (GL j) 0).e by rfl)),(cA (Value.int .i64) (show ((j.getD 5 0):Int)=(Gu (schedP p) (GL j) 0).f by rfl)),(cA (Value.int .i64) (show ((j.getD 6 0):Int)=(Gu (schedP p) (GL j) 0).g by rfl)),(cA (Value.int .i64) (show ((j.getD 7 0):Int)=(Gu (schedP p) (GL j) 0).z by rfl)),(cA (Value.int .i64) (show (0:Int)=((0:Nat):Int) by omega)),trivial⟩ (fun e' L=>∃ (k:Nat) (o:Int) (s:Int) (t:Int) (D:Int) (i:Int) (q:Int) (r:Int) (y:Int) (aC:Env),e'=pt aC [(0,(vs B j.length C)),(4,(vs none 0 0)),(5,(vs H j.length I)),(6,(vs R (kw).length S)),(7,(vs T (schedP p).length V)),(8,(vi o)),(9,(vi s)),(10,(vi t)),(11,(vi D)),(12,(vi i)),(13,(vi q)),(14,(vi r)),(15,(vi y)),(16,(vi ((k:Nat):Int)))]∧Ch (fun k=>G.heap.size≤k) G L∧Ch (fun k=>A.heap.size≤k) A L∧k≤64∧o=(Gu (schedP p) (GL j) k).a∧s=(Gu (schedP p) (GL j) k).b∧t=(Gu (schedP p) (GL j) k).c∧D=(Gu (schedP p) (GL j) k).d∧i=(Gu (schedP p) (GL j) k).e∧q=(Gu (schedP p) (GL j) k).f∧r=(Gu (schedP p) (GL j) k).g∧y=(Gu (schedP p) (GL j) k).z) (fun e' _=>(64 - (intOf (e' 16))).toNat) ?_ ?_
  ·exact fun u=>⟨0,(Gu (schedP p) (GL j) 0).a,(Gu (schedP p) (GL j) 0).b,(Gu (schedP p) (GL j) 0).c,(Gu (schedP p) (GL j) 0).d,(Gu (schedP p) (GL j) 0).e,(Gu (schedP p) (GL j) 0).f,(Gu (schedP p) (GL j) 0).g,(Gu (schedP p) (GL j) 0).z,u,rfl,b8,(Ch.refl (fun k=>A.heap.size≤k) A),(by omega),(by first|rfl|assumption),(by first|rfl|assumption),(by first|rfl|assumption),(by first|rfl|assumption),(by first|rfl|assumption),(by first|rfl|assumption),(by first|rfl|assumption),(by first|rfl|assumption)⟩
  ·rintro _ av ⟨k,o,s,t,D,i,q,r,y,aC,rfl,aD,W,c8,hi_a,hi_b,hi_c,hi_d,hi_e,hi_f,hi_g,hi_z⟩
   obtain ⟨zw,hzw⟩:∃ z,(schedP p).getD k 0=z:=⟨_,rfl⟩
   have hwd:0≤zw∧zw < 4294967296:=hzw ▸ Ki (OK p) k
   obtain ⟨zk,hzk⟩:∃ z,kw.getD k 0=z:=⟨_,rfl⟩
   have hkw:0≤zk∧zk < 4294967296:=hzk ▸ Ki UW k
   have hkl:kw.length=64:=rfl
   have hok:=LW (w:=schedP p) (MN (IT (by first|assumption|exact ‹ws8 j=true›)).1) k
   unfold S8.ok at hok
   rw [← hi_a,← hi_b,← hi_c,← hi_d,← hi_e,← hi_f,← hi_g,← hi_z] at hok
   refine uK<|sr<|mw (vi ((k:Nat):Int)) ?_
   refine pu (vb (decide (((k:Nat):Int) < 64))) wN ?_
   refine n2 ?_
   rcases bf (decide (((k:Nat):Int) < 64)) with ab|ab
   ·have c9:=dF ab
    refine cf ab<|Gn<|uA ?_
    obtain rfl:k=64:=by omega
    refine uA<|wr<|rg<|sr<|mw (vi o) ?_
    refine mw (vi s) ?_
    refine mw (vi t) ?_
    refine mw (vi D) ?_
    refine mw (vi i) ?_
    refine mw (vi q) ?_
    refine mw (vi r) ?_
    refine mw (vi y) ?_
    refine ltI ([o,s,t,D,i,q,r,y]:List Int) wN uQ ?_
    intro P Q E aE aF
    have b9:=aD.extk aE
    refine aw (vs P ([o,s,t,D,i,q,r,y]:List Int).length Q) ?_
    refine n4<|aw (vi 0) ?_
    refine uD<|rg<|uJ ?_
    have bA:=(gc (tC (gc (gc (gc (gc X Y) aj) O) M) W (fun g hg hlt hk=>by have ac:=(uI X g hg).2;have ad:a5.heap.size≤A.heap.size:=(z4 Y aj O M);have ae:A.heap.size≤g:=hk;omega)) aE)
    have bB:(j:List Int)=(Kr j (S8.list (Gu (schedP p) (GL j) 64))).take 0++j.drop 0:=by first|rfl|simp
    have bC:(([o,s,t,D,i,q,r,y]:List Int):List Int)=([o,s,t,D,i,q,r,y]:List Int):=by first|rfl|simp
    refine Ge [(0,(vs B j.length C)),(4,(vs none 0 0)),(5,(vs H j.length I)),(19,(vs P ([o,s,t,D,i,q,r,y]:List Int).length Q)),(20,(vi ((0:Nat):Int)))] ⟨rfl,rfl,rfl,rfl,(cA (Value.int .i64) (show (0:Int)=((0:Nat):Int) by omega)),trivial⟩ (fun e' L=>∃ (m:Nat) (aG:Env),e'=pt aG [(0,(vs B j.length C)),(4,(vs none 0 0)),(5,(vs H j.length I)),(19,(vs P ([o,s,t,D,i,q,r,y]:List Int).length Q)),(20,(vi ((m:Nat):Int)))]∧Ch (fun k=>G.heap.size≤k) G L∧Ch (fun k=>G.heap.size≤k) E L∧m≤8∧World.ownsRow L G.heap.size 3 1 (.slice H j.length I) j.length (((Kr j (S8.list (Gu (schedP p) (GL j) 64))).take m++j.drop m).map iV)∧World.ownsRow L av.heap.size 3 1 (.slice P ([o,s,t,D,i,q,r,y]:List Int).length Q) ([o,s,t,D,i,q,r,y]:List Int).length ((([o,s,t,D,i,q,r,y]:List Int)).map iV)) (fun e' _=>(8 - (intOf (e' 20))).toNat) ?_ ?_
    ·exact fun u=>⟨0,u,rfl,b9,(Ch.refl (fun k=>G.heap.size≤k) E),(by omega),(by rw [← bB];exact bA),(by rw [← bC];exact aF)⟩
    ·rintro _ Z ⟨m,aG,rfl,an,bD,cC,ax,ay⟩
     have hlL:([o,s,t,D,i,q,r,y]:List Int).length=8:=rfl
     have hll:(Kr j (S8.list (Gu (schedP p) (GL j) 64))).length=8:=Ni (by omega) rfl
     have cD:(j.length:Int)=8:=(IT (by first|assumption|exact ‹ws8 j=true›)).2
     have cE:=Ki (IT (by first|assumption|exact ‹ws8 j=true›)).1 m
     have hle:([o,s,t,D,i,q,r,y]:List Int)=(S8.list (Gu (schedP p) (GL j) 64)):=by rw [hi_a,hi_b,hi_c,hi_d,hi_e,hi_f,hi_g,hi_z];rfl
     have cF:0≤([o,s,t,D,i,q,r,y]:List Int).getD m 0∧([o,s,t,D,i,q,r,y]:List Int).getD m 0 < 4294967296:=hle ▸ Ki (Uf (LW (w:=schedP p) (MN (IT (by first|assumption|exact ‹ws8 j=true›)).1) 64)) m
     refine uK<|sr<|mw (vi ((m:Nat):Int)) ?_
     refine pu (vb (decide (((m:Nat):Int) < 8))) wN ?_
     refine n2 ?_
     rcases bf (decide (((m:Nat):Int) < 8)) with af|af
     ·have cG:=dF af
      refine cf af<|Gn<|uA<|uA<|wr<|rg<|sr<|mw (vs H j.length I) ?_
      refine aw (vs H j.length I) ?_
      refine n3<|rt (vs H j.length I) ?_
      refine ⟨an.keep0,?_⟩
      have bE:GP j p=((Kr j (S8.list (Gu (schedP p) (GL j) 64))).take m++j.drop m):=by first|exact Jb (by first|assumption|exact ‹ws8 j=false›)|exact Ja (by omega)|exact IZ (by first|assumption|exact ‹ws8 j=true›) (by omega) (by omega)
      rw [bE]
      have aH:j.length=(((Kr j (S8.list (Gu (schedP p) (GL j) 64))).take m++j.drop m)).length:=by simp only [List.length_append,List.length_take,List.length_drop];omega
      rw [aH] at ax ⊢
      exact ⟨_,_,rfl,ax,(by rw [← aH];exact ap),⟨trivial,trivial⟩⟩
     have cH:=dT af
     refine ct af<|FR<|rg<|uK<|uJ<|IM ([(142,[],[],(fun _ v _=>v=(vs H j.length I))),(143,[],[],(fun _ v _=>v=(vi ((m:Nat):Int)))),(144,[],[],(fun _ v _=>v=(vs B j.length C))),(145,[],[],(fun _ v _=>v=(vi ((m:Nat):Int)))),(146,[],[2,3],(fun _ v _=>v=(ve (vs B j.length C) ((((m:Nat):Int)).toNat*1)))),(147,[],[2,3,4],(fun _ v _=>v=(vi (j.getD m 0)))),(148,[],[],(fun _ v _=>v=(vs P ([o,s,t,D,i,q,r,y]:List Int).length Q))),(149,[],[],(fun _ v _=>v=(vi ((m:Nat):Int)))),(150,[],[6,7],(fun _ v _=>v=(ve (vs P ([o,s,t,D,i,q,r,y]:List Int).length Q) ((((m:Nat):Int)).toNat*1)))),(151,[],[6,7,8],(fun _ v _=>v=(vi ((([o,s,t,D,i,q,r,y]:List Int)).getD m 0)))),(152,[],[2,3,4,5,6,7,8,9],(fun _ v _=>v=(vi ((j.getD m 0)+((([o,s,t,D,i,q,r,y]:List Int)).getD m 0))))),(153,[],[2,3,4,5,6,7,8,9,10],(fun _ v _=>v=(vi (((j.getD m 0)+((([o,s,t,D,i,q,r,y]:List Int)).getD m 0)) % 4294967296))))]:GV) GU rfl (by kernel_rfl) (by kernel_rfl) ?_ ?_ ?_
     ·exact ⟨hV,hE,⟨hV,hE,⟨hV,hE,⟨hV,hE,⟨hV,hE,⟨hV,hE,⟨hV,hE,⟨hV,hE,⟨hV,hE,⟨hV,hE,⟨hV,hE,⟨hV,hE,trivial⟩⟩⟩⟩⟩⟩⟩⟩⟩⟩⟩⟩
     ·refine ⟨?_,⟨?_,⟨?_,⟨?_,⟨?_,⟨?_,⟨?_,⟨?_,⟨?_,⟨?_,⟨?_,⟨?_,trivial⟩⟩⟩⟩⟩⟩⟩⟩⟩⟩⟩⟩
      ·intro K cI
       rintro _ _ _ _ _ _ _ _ _ _ _ _
       refine sw<|mw (vs H j.length I) ?_
       exact f2
      ·intro K cJ
       rintro _ _ _ _ _ _ _ _ _ _ _ _
       refine sw<|mw (vi ((m:Nat):Int)) ?_
       exact f2
      ·intro K cK
       rintro _ _ _ _ _ _ _ _ _ _ _ _
       refine sw<|mw (vs B j.length C) ?_
       exact f2
      ·intro K cL
       rintro _ _ _ _ _ _ _ _ _ _ _ _
       refine sw<|mw (vi ((m:Nat):Int)) ?_
       exact f2
      ·intro K bF
       have bG:=an.extk bF
       rintro _ _ _ rfl _ rfl _ _ _ _ _ _ _ _
       refine sw<|ix wN ((m:Nat):Int) uQ (F.from0 bG) ?_
       exact f2
      ·intro K bH
       have bI:=an.extk bH
       rintro _ _ _ rfl _ rfl _ rfl _ _ _ _ _ _ _
       refine sw<|ei (x:=j) m wN tE (F.from0 bI) ?_
       exact f2
      ·intro K cM
       rintro _ _ _ _ _ _ _ _ _ _ _ _
       refine sw<|mw (vs P ([o,s,t,D,i,q,r,y]:List Int).length Q) ?_
       exact f2
      ·intro K cN
       rintro _ _ _ _ _ _ _ _ _ _ _ _
       refine sw<|mw (vi ((m:Nat):Int)) ?_
       exact f2
      ·intro K bJ
       rintro _ _ _ _ _ _ _ rfl _ rfl _ _ _ _
       refine sw ?_
       have bK:=(gc ay bJ)
       refine ix wN ((m:Nat):Int) uQ (Rd.of_own bK) ?_
       exact f2
      ·intro K bL
       rintro _ _ _ _ _ _ _ rfl _ rfl _ rfl _ _ _
       refine sw ?_
       have bM:=(gc ay bL)
       refine ei (x:=(([o,s,t,D,i,q,r,y]:List Int))) m wN tE (Rd.of_own bM) ?_
       exact f2
      ·intro K cO
       rintro _ _
       iterate 8 rintro _ rfl
       intro _ _
       refine sw<|ar ((j.getD m 0)+((([o,s,t,D,i,q,r,y]:List Int)).getD m 0)) wN ?_
       exact f2
      ·intro K cP
       rintro _ _
       iterate 9 rintro _ rfl
       intro _
       refine sw<|Im ((j.getD m 0)+((([o,s,t,D,i,q,r,y]:List Int)).getD m 0)) 4294967295 4294967296 32 wN rfl rfl (by decide) (by decide) (by decide) (by kernel_rfl) ?_
       exact f2
     ·intro K ao
      iterate 12 rintro _ rfl
      refine sw ?_
      have aI:=(gc ax ao)
      refine ix wN ((m:Nat):Int) uQ (Rd.of_own aI) ?_
      refine Il ((Kr j (S8.list (Gu (schedP p) (GL j) 64))).take m++j.drop m) (m) ((((j.getD m 0)+((([o,s,t,D,i,q,r,y]:List Int)).getD m 0)) % 4294967296)) wN rfl rfl rfl (by simp) rfl GI aI (by first|omega|(simp only [List.length_append,List.length_take,List.length_drop];omega)) ?_
      intro bN az bO
      have bP:=(an.extk ao).ext az (fun k hk=>nT (Nat.le_refl G.heap.size) (uI X k hk).1)
      refine uD<|uB<|rg<|uG ?_
      refine mw (vi ((m:Nat):Int)) ?_
      refine ar (((m:Nat):Int)+1) wN ?_
      refine aw (vi (((m:Nat):Int)+1)) ?_
      refine uD ?_
      have bQ:((((Kr j (S8.list (Gu (schedP p) (GL j) 64))).take m++j.drop m).set m (((j.getD m 0)+((([o,s,t,D,i,q,r,y]:List Int)).getD m 0)) % 4294967296)):List Int)=(Kr j (S8.list (Gu (schedP p) (GL j) 64))).take (m+1)++j.drop (m+1):=by first|rfl|(rw [hle];exact KS (l:=(S8.list (Gu (schedP p) (GL j) 64))) (by omega) (by show j.length=8;omega))
      have bR:=(tC (gc ay ao) az (fun g hg hlt hk=>by have ac:=(uI aF g hg).1;have ad:=(uI X g hk).2;have ae:=(z5 Y aj O M W);omega))
      have bS:((([o,s,t,D,i,q,r,y]:List Int)):List Int)=([o,s,t,D,i,q,r,y]:List Int):=by first|rfl|(rw [hle];exact KS (l:=(S8.list (Gu (schedP p) (GL j) 64))) (by omega) (by show j.length=8;omega))
      refine FX (w0:=Z) [(0,(vs B j.length C)),(4,(vs none 0 0)),(5,(vs H j.length I)),(19,(vs P ([o,s,t,D,i,q,r,y]:List Int).length Q)),(20,(vi (((m+1):Nat):Int)))] ?_ ?_ ?_
      · exact ⟨rfl,rfl,rfl,rfl,(cA (Value.int .i64) (show ((((m:Nat):Int)+1):Int)=(((m+1):Nat):Int) by omega)),trivial⟩
      · exact fun u=>⟨(m+1),u,rfl,bP,((((Ch.refl (fun k=>G.heap.size≤k) E).ext bD (fun k hk=>hk)).extk ao).ext az (fun k hk=>nT (Nat.le_refl G.heap.size) (uI X k hk).1)),(by omega),(by rw [← bQ];exact bO),(by rw [← bS];exact bR)⟩
      · show (8 - (((m+1):Nat):Int)).toNat < (8 - ((m:Nat):Int)).toNat;omega
   have cQ:=dT ab
   refine ct ab<|FR<|rg<|uK<|uJ<|uK<|Ga ([(64,[],[],(fun _ v _=>v=(vi y))),(65,[],[],(fun _ v _=>v=(vi i))),(66,[],[1],(fun _ v w=>v=.int .i64 (rot i 6))),(67,[],[],(fun _ v _=>v=(vi i))),(68,[],[1,2,3],(fun _ v w=>v=.int .i64 (rot i 11))),(69,[],[1,2,3,4],(fun _ v _=>v=(vi (FA (rot i 6) (rot i 11))))),(70,[],[],(fun _ v _=>v=(vi i))),(71,[],[1,2,3,4,6],(fun _ v w=>v=.int .i64 (rot i 25))),(72,[],[1,2,3,4,5,6,7],(fun _ v _=>v=(vi (FA (FA (rot i 6) (rot i 11)) (rot i 25))))),(73,[],[0,1,2,3,4,5,6,7,8],(fun _ v _=>v=(vi (y+(FA (FA (rot i 6) (rot i 11)) (rot i 25)))))),(74,[],[],(fun _ v _=>v=(vi i))),(75,[],[],(fun _ v _=>v=(vi q))),(76,[],[10,11],(fun _ v _=>v=(vi (Gy i q)))),(77,[],[],(fun _ v _=>v=(vi i))),(78,[],[13],(fun _ v _=>v=(vi (FA i 4294967295)))),(79,[],[],(fun _ v _=>v=(vi r))),(80,[],[13,14,15],(fun _ v _=>v=(vi (Gy (FA i 4294967295) r)))),(81,[],[10,11,12,13,14,15,16],(fun _ v _=>v=(vi (FA (Gy i q) (Gy (FA i 4294967295) r))))),(82,[],[0,1,2,3,4,5,6,7,8,9,10,11,12,13,14,15,16,17],(fun _ v _=>v=(vi ((y+(FA (FA (rot i 6) (rot i 11)) (rot i 25)))+(FA (Gy i q) (Gy (FA i 4294967295) r)))))),(83,[],[],(fun _ v _=>v=(vs R (kw).length S))),(84,[],[],(fun _ v _=>v=(vi ((k:Nat):Int)))),(85,[],[19,20],(fun _ v _=>v=(ve (vs R (kw).length S) ((((k:Nat):Int)).toNat*1)))),(86,[],[19,20,21],(fun _ v _=>v=(vi zk))),(87,[],[0,1,2,3,4,5,6,7,8,9,10,11,12,13,14,15,16,17,18,19,20,21,22],(fun _ v _=>v=(vi (((y+(FA (FA (rot i 6) (rot i 11)) (rot i 25)))+(FA (Gy i q) (Gy (FA i 4294967295) r)))+zk)))),(88,[],[],(fun _ v _=>v=(vs T (schedP p).length V))),(89,[],[],(fun _ v _=>v=(vi ((k:Nat):Int)))),(90,[],[24,25],(fun _ v _=>v=(ve (vs T (schedP p).length V) ((((k:Nat):Int)).toNat*1)))),(91,[],[24,25,26],(fun _ v _=>v=(vi zw)))]:GV) (fun _ L=>Keep av L) [] GU rfl (by kernel_rfl) (by kernel_rfl) ?_ (fun _ _ h=>h) (fun _ _ _ _ h _ k=>h.trans k) trivial ?_ ?_ ?_
   ·exact ⟨hV,hE,⟨hV,hE,⟨hV,hE,⟨hV,hE,⟨hV,hE,⟨hV,hE,⟨hV,hE,⟨hV,hE,⟨hV,hE,⟨hV,hE,⟨hV,hE,⟨hV,hE,⟨hV,hE,⟨hV,hE,⟨hV,hE,⟨hV,hE,⟨hV,hE,⟨hV,hE,⟨hV,hE,⟨hV,hE,⟨hV,hE,⟨hV,hE,⟨hV,hE,⟨hV,hE,⟨hV,hE,⟨hV,hE,⟨hV,hE,⟨hV,hE,trivial⟩⟩⟩⟩⟩⟩⟩⟩⟩⟩⟩⟩⟩⟩⟩⟩⟩⟩⟩⟩⟩⟩⟩⟩⟩⟩⟩⟩
   ·exact trivial
   ·refine ⟨?_,⟨?_,⟨?_,⟨?_,⟨?_,⟨?_,⟨?_,⟨?_,⟨?_,⟨?_,⟨?_,⟨?_,⟨?_,⟨?_,⟨?_,⟨?_,⟨?_,⟨?_,⟨?_,⟨?_,⟨?_,⟨?_,⟨?_,⟨?_,⟨?_,⟨?_,⟨?_,⟨?_,trivial⟩⟩⟩⟩⟩⟩⟩⟩⟩⟩⟩⟩⟩⟩⟩⟩⟩⟩⟩⟩⟩⟩⟩⟩⟩⟩⟩⟩
    ·intro _ E cR _
     iterate 28 intro _
     refine sw<|mw (vi y) ?_
     exact f1
    ·intro _ E cS _
     iterate 28 intro _
     refine sw<|mw (vi i) ?_
     exact f1
    ·intro _ E cT _
     rintro _ _ rfl;iterate 26 intro _
     refine sw<|cl wN (Mk E i 6 (by omega) (by omega)) ?_
     rintro _ Z ⟨bT,rfl⟩
     have cU:=GM i 6
     exact FY bT rfl
    ·intro _ E cV _
     iterate 28 intro _
     refine sw<|mw (vi i) ?_
     exact f1
    ·intro _ E cW _
     rintro _ _ rfl _ rfl
     have cX:=GM i 6
     rintro _ rfl;iterate 24 intro _
     refine sw<|cl wN (Mk E i 11 (by omega) (by omega)) ?_
     rintro _ Z ⟨bU,rfl⟩
     have cY:=GM i 11
     exact FY bU rfl
    ·intro _ E cZ _
     rintro _ _ rfl _ rfl
     have da:=GM i 6
     rintro _ rfl _ rfl
     have db:=GM i 11
     iterate 23 intro _
     refine sw<|HJ (rot i 6) (rot i 11) wN rfl rfl (by kernel_rfl) (by omega) (by omega) (by omega) (by omega) ?_
     have dc:=GD (a:=(rot i 6)) (b:=(rot i 11)) (by omega) (by omega)
     exact f1
    ·intro _ E dd _
     iterate 28 intro _
     refine sw<|mw (vi i) ?_
     exact f1
    ·intro _ E de _
     rintro _ _ rfl _ rfl
     have df:=GM i 6
     rintro _ rfl _ rfl
     have dg:=GM i 11
     rintro _ _ rfl;iterate 21 intro _
     refine sw<|cl wN (Mk E i 25 (by omega) (by omega)) ?_
     rintro _ Z ⟨bW,rfl⟩
     have dh:=GM i 25
     exact FY bW rfl
    ·intro _ E di _
     rintro _ _ rfl _ rfl
     have dj:=GM i 6
     rintro _ rfl _ rfl
     have dk:=GM i 11
     rintro _ rfl
     have dl:=GD (a:=(rot i 6)) (b:=(rot i 11)) (by omega) (by omega)
     rintro _ rfl _ rfl
     have dm:=GM i 25
     iterate 20 intro _
     refine sw<|HJ (FA (rot i 6) (rot i 11)) (rot i 25) wN rfl rfl (by kernel_rfl) (by omega) (by omega) (by omega) (by omega) ?_
     have dn:=GD (a:=(FA (rot i 6) (rot i 11))) (b:=(rot i 25)) (by omega) (by omega)
     exact f1
    ·intro _ E dp _
     rintro _ rfl _ rfl _ rfl
     have dq:=GM i 6
     rintro _ rfl _ rfl
     have dr:=GM i 11
     rintro _ rfl
     have ds:=GD (a:=(rot i 6)) (b:=(rot i 11)) (by omega) (by omega)
     rintro _ rfl _ rfl
     have dt:=GM i 25
     rintro _ rfl
     have du:=GD (a:=(FA (rot i 6) (rot i 11))) (b:=(rot i 25)) (by omega) (by omega)
     iterate 19 intro _
     refine sw<|ar (y+(FA (FA (rot i 6) (rot i 11)) (rot i 25))) wN ?_
     exact f1
    ·intro _ E dv _
     iterate 28 intro _
     refine sw<|mw (vi i) ?_
     exact f1
    ·intro _ E dw _
     iterate 28 intro _
     refine sw<|mw (vi q) ?_
     exact f1
    ·intro _ E dx _
     rintro _ _ _ _ _ _ _ _ _ _ _ rfl _ rfl;iterate 16 intro _
     refine sw<|Ju i q wN rfl rfl (by kernel_rfl) (by omega) (by omega) (by omega) (by omega) ?_
     have dy:=Iy (a:=i) (b:=q) (by omega)
     exact f1
    ·intro _ E dz _
     iterate 28 intro _
     refine sw<|mw (vi i) ?_
     exact f1
    ·intro _ E d0 _
     (iterate 14 intro _);rintro rfl;iterate 14 intro _
     refine sw<|HJ i 4294967295 wN rfl rfl (by kernel_rfl) (by omega) (by omega) (by omega) (by omega) ?_
     have d1:=GD (a:=i) (b:=4294967295) (by omega) (by omega)
     exact f1
    ·intro _ E d2 _
     iterate 28 intro _
     refine sw<|mw (vi r) ?_
     exact f1
    ·intro _ E d3 _
     (iterate 14 intro _);rintro rfl _ rfl
     have d4:=GD (a:=i) (b:=4294967295) (by omega) (by omega)
     rintro _ rfl _ _ _ _ _ _ _ _ _ _ _ _
     refine sw<|Ju (FA i 4294967295) r wN rfl rfl (by kernel_rfl) (by omega) (by omega) (by omega) (by omega) ?_
     have d5:=Iy (a:=(FA i 4294967295)) (b:=r) (by omega)
     exact f1
    ·intro _ E d6 _
     rintro _ _ _ _ _ _ _ _ _ _ _ rfl _ rfl _ rfl
     have d7:=Iy (a:=i) (b:=q) (by omega)
     rintro _ rfl _ rfl
     have d8:=GD (a:=i) (b:=4294967295) (by omega) (by omega)
     rintro _ rfl _ rfl
     have d9:=Iy (a:=(FA i 4294967295)) (b:=r) (by omega)
     rintro _ _ _ _ _ _ _ _ _ _ _
     refine sw<|HJ (Gy i q) (Gy (FA i 4294967295) r) wN rfl rfl (by kernel_rfl) (by omega) (by omega) (by omega) (by omega) ?_
     have dA:=GD (a:=(Gy i q)) (b:=(Gy (FA i 4294967295) r)) (by omega) (by omega)
     exact f1
    ·intro _ E dB _
     rintro _ rfl _ rfl _ rfl
     have dC:=GM i 6
     rintro _ rfl _ rfl
     have dD:=GM i 11
     rintro _ rfl
     have dE:=GD (a:=(rot i 6)) (b:=(rot i 11)) (by omega) (by omega)
     rintro _ rfl _ rfl
     have dG:=GM i 25
     rintro _ rfl
     have dH:=GD (a:=(FA (rot i 6) (rot i 11))) (b:=(rot i 25)) (by omega) (by omega)
     rintro _ rfl _ rfl _ rfl _ rfl
     have dI:=Iy (a:=i) (b:=q) (by omega)
     rintro _ rfl _ rfl
     have dJ:=GD (a:=i) (b:=4294967295) (by omega) (by omega)
     rintro _ rfl _ rfl
     have dK:=Iy (a:=(FA i 4294967295)) (b:=r) (by omega)
     rintro _ rfl
     have dL:=GD (a:=(Gy i q)) (b:=(Gy (FA i 4294967295) r)) (by omega) (by omega)
     rintro _ _ _ _ _ _ _ _ _ _
     refine sw<|ar ((y+(FA (FA (rot i 6) (rot i 11)) (rot i 25)))+(FA (Gy i q) (Gy (FA i 4294967295) r))) wN ?_
     exact f1
    ·intro _ E dM _
     iterate 28 intro _
     refine sw<|mw (vs R (kw).length S) ?_
     exact f1
    ·intro _ E dN _
     iterate 28 intro _
     refine sw<|mw (vi ((k:Nat):Int)) ?_
     exact f1
    ·intro _ E bX _
     (iterate 20 intro _);rintro rfl _ rfl _ _ _ _ _ _ _
     refine sw ?_
     have bY:=(gc (tC (gc (gc ak O) M) W (fun g hg hlt hk=>by have ac:=(uI ak g hg).2;have ad:au.heap.size≤A.heap.size:=(z2 O M);have ae:A.heap.size≤g:=hk;omega)) bX)
     refine ix wN ((k:Nat):Int) uQ (Rd.of_own bY) ?_
     exact f1
    ·intro _ E bZ _
     (iterate 20 intro _);rintro rfl _ rfl _ rfl _ _ _ _ _ _
     refine sw ?_
     have ca:=(gc (tC (gc (gc ak O) M) W (fun g hg hlt hk=>by have ac:=(uI ak g hg).2;have ad:au.heap.size≤A.heap.size:=(z2 O M);have ae:A.heap.size≤g:=hk;omega)) bZ)
     refine GW (iV zk) wN rfl rfl rfl rfl tE (Rd.of_own ca) (by rw [← hzk];exact Px (by simp) (by first|omega|(simp <;> omega))) ?_
     exact f1
    ·intro _ E dO _
     rintro _ rfl _ rfl _ rfl
     have dP:=GM i 6
     rintro _ rfl _ rfl
     have dQ:=GM i 11
     rintro _ rfl
     have dR:=GD (a:=(rot i 6)) (b:=(rot i 11)) (by omega) (by omega)
     rintro _ rfl _ rfl
     have dS:=GM i 25
     rintro _ rfl
     have dU:=GD (a:=(FA (rot i 6) (rot i 11))) (b:=(rot i 25)) (by omega) (by omega)
     rintro _ rfl _ rfl _ rfl _ rfl
     have dV:=Iy (a:=i) (b:=q) (by omega)
     rintro _ rfl _ rfl
     have dW:=GD (a:=i) (b:=4294967295) (by omega) (by omega)
     rintro _ rfl _ rfl
     have dX:=Iy (a:=(FA i 4294967295)) (b:=r) (by omega)
     rintro _ rfl
     have dY:=GD (a:=(Gy i q)) (b:=(Gy (FA i 4294967295) r)) (by omega) (by omega)
     rintro _ rfl _ rfl _ rfl _ rfl _ rfl _ _ _ _ _
     refine sw<|ar (((y+(FA (FA (rot i 6) (rot i 11)) (rot i 25)))+(FA (Gy i q) (Gy (FA i 4294967295) r)))+zk) wN ?_
     exact f1
    ·intro _ E dZ _
     iterate 28 intro _
     refine sw<|mw (vs T (schedP p).length V) ?_
     exact f1
    ·intro _ E ea _
     iterate 28 intro _
     refine sw<|mw (vi ((k:Nat):Int)) ?_
     exact f1
    ·intro _ E cb _
     (iterate 25 intro _);rintro rfl _ rfl _ _
     refine sw ?_
     have cc:=(gc (tC (gc am M) W (fun g hg hlt hk=>by have ac:=(uI am g hg).2;have ad:aB.heap.size≤A.heap.size:=M.size;have ae:A.heap.size≤g:=hk;omega)) cb)
     refine ix wN ((k:Nat):Int) uQ (Rd.of_own cc) ?_
     exact f1
    ·intro _ E cd _
     (iterate 25 intro _);rintro rfl _ rfl _ rfl _
     refine sw ?_
     have ce:=(gc (tC (gc am M) W (fun g hg hlt hk=>by have ac:=(uI am g hg).2;have ad:aB.heap.size≤A.heap.size:=M.size;have ae:A.heap.size≤g:=hk;omega)) cd)
     refine GW (iV zw) wN rfl rfl rfl rfl tE (Rd.of_own ce) (by rw [← hzw];exact Px (by simp) (by first|omega|(simp <;> omega))) ?_
     exact f1
   ·intro _ E aJ
    rintro _ rfl _ rfl _ rfl
    have ec:=GM i 6
    rintro _ rfl _ rfl
    have ed:=GM i 11
    rintro _ rfl
    have ee:=GD (a:=(rot i 6)) (b:=(rot i 11)) (by omega) (by omega)
    rintro _ rfl _ rfl
    have ef:=GM i 25
    rintro _ rfl
    have eg:=GD (a:=(FA (rot i 6) (rot i 11))) (b:=(rot i 25)) (by omega) (by omega)
    rintro _ rfl _ rfl _ rfl _ rfl
    have eh:=Iy (a:=i) (b:=q) (by omega)
    rintro _ rfl _ rfl
    have ej:=GD (a:=i) (b:=4294967295) (by omega) (by omega)
    rintro _ rfl _ rfl
    have ek:=Iy (a:=(FA i 4294967295)) (b:=r) (by omega)
    rintro _ rfl
    have em:=GD (a:=(Gy i q)) (b:=(Gy (FA i 4294967295) r)) (by omega) (by omega)
    iterate 10 rintro _ rfl
    refine sw<|ar ((((y+(FA (FA (rot i 6) (rot i 11)) (rot i 25)))+(FA (Gy i q) (Gy (FA i 4294967295) r)))+zk)+zw) wN ?_
    refine Im ((((y+(FA (FA (rot i 6) (rot i 11)) (rot i 25)))+(FA (Gy i q) (Gy (FA i 4294967295) r)))+zk)+zw) 4294967295 4294967296 32 wN rfl rfl (by decide) (by decide) (by decide) (by kernel_rfl) ?_
    refine aw (vi (((((y+(FA (FA (rot i 6) (rot i 11)) (rot i 25)))+(FA (Gy i q) (Gy (FA i 4294967295) r)))+zk)+zw) % 4294967296)) ?_
    refine nx<|mw (vi o) ?_
    refine cl wN (Mk E o 2 (by omega) (by omega)) ?_
    rintro _ Z ⟨aK,rfl⟩
    have cg:=(aD.extk aJ).extk aK
    have en:=GM o 2
    refine mw (vi o) ?_
    refine cl wN (Mk Z o 13 (by omega) (by omega)) ?_
    rintro _ K ⟨aL,rfl⟩
    have eo:=GM o 13
    refine HJ (rot o 2) (rot o 13) wN rfl rfl (by kernel_rfl) (by omega) (by omega) (by omega) (by omega) ?_
    have ep:=GD (a:=(rot o 2)) (b:=(rot o 13)) (by omega) (by omega)
    refine mw (vi o) ?_
    refine cl wN (Mk K o 22 (by omega) (by omega)) ?_
    rintro _ bN ⟨aM,rfl⟩
    have ci:=(cg.extk aL).extk aM
    have er:=GM o 22
    refine HJ (FA (rot o 2) (rot o 13)) (rot o 22) wN rfl rfl (by kernel_rfl) (by omega) (by omega) (by omega) (by omega) ?_
    have es:=GD (a:=(FA (rot o 2) (rot o 13))) (b:=(rot o 22)) (by omega) (by omega)
    refine mw (vi o) ?_
    refine mw (vi s) ?_
    refine Ju o s wN rfl rfl (by kernel_rfl) (by omega) (by omega) (by omega) (by omega) ?_
    have et:=Iy (a:=o) (b:=s) (by omega)
    refine mw (vi o) ?_
    refine mw (vi t) ?_
    refine Ju o t wN rfl rfl (by kernel_rfl) (by omega) (by omega) (by omega) (by omega) ?_
    have eu:=Iy (a:=o) (b:=t) (by omega)
    refine HJ (Gy o s) (Gy o t) wN rfl rfl (by kernel_rfl) (by omega) (by omega) (by omega) (by omega) ?_
    have ew:=GD (a:=(Gy o s)) (b:=(Gy o t)) (by omega) (by omega)
    refine mw (vi s) ?_
    refine mw (vi t) ?_
    refine Ju s t wN rfl rfl (by kernel_rfl) (by omega) (by omega) (by omega) (by omega) ?_
    have ex:=Iy (a:=s) (b:=t) (by omega)
    refine HJ (FA (Gy o s) (Gy o t)) (Gy s t) wN rfl rfl (by kernel_rfl) (by omega) (by omega) (by omega) (by omega) ?_
    have ey:=GD (a:=(FA (Gy o s) (Gy o t))) (b:=(Gy s t)) (by omega) (by omega)
    refine ar ((FA (FA (rot o 2) (rot o 13)) (rot o 22))+(FA (FA (Gy o s) (Gy o t)) (Gy s t))) wN ?_
    refine Im ((FA (FA (rot o 2) (rot o 13)) (rot o 22))+(FA (FA (Gy o s) (Gy o t)) (Gy s t))) 4294967295 4294967296 32 wN rfl rfl (by decide) (by decide) (by decide) (by kernel_rfl) ?_
    refine aw (vi (((FA (FA (rot o 2) (rot o 13)) (rot o 22))+(FA (FA (Gy o s) (Gy o t)) (Gy s t))) % 4294967296)) ?_
    refine nx<|mw (vi r) ?_
    refine aw (vi r) ?_
    refine nx<|mw (vi q) ?_
    refine aw (vi q) ?_
    refine nx<|mw (vi i) ?_
    refine aw (vi i) ?_
    refine nx<|mw (vi D) ?_
    refine mw (vi (((((y+(FA (FA (rot i 6) (rot i 11)) (rot i 25)))+(FA (Gy i q) (Gy (FA i 4294967295) r)))+zk)+zw) % 4294967296)) ?_
    refine ar (D+(((((y+(FA (FA (rot i 6) (rot i 11)) (rot i 25)))+(FA (Gy i q) (Gy (FA i 4294967295) r)))+zk)+zw) % 4294967296)) wN ?_
    refine Im (D+(((((y+(FA (FA (rot i 6) (rot i 11)) (rot i 25)))+(FA (Gy i q) (Gy (FA i 4294967295) r)))+zk)+zw) % 4294967296)) 4294967295 4294967296 32 wN rfl rfl (by decide) (by decide) (by decide) (by kernel_rfl) ?_
    refine aw (vi ((D+(((((y+(FA (FA (rot i 6) (rot i 11)) (rot i 25)))+(FA (Gy i q) (Gy (FA i 4294967295) r)))+zk)+zw) % 4294967296)) % 4294967296)) ?_
    refine nx<|mw (vi t) ?_
    refine aw (vi t) ?_
    refine nx<|mw (vi s) ?_
    refine aw (vi s) ?_
    refine nx<|mw (vi o) ?_
    refine aw (vi o) ?_
    refine uD<|rg<|uG ?_
    refine mw (vi (((((y+(FA (FA (rot i 6) (rot i 11)) (rot i 25)))+(FA (Gy i q) (Gy (FA i 4294967295) r)))+zk)+zw) % 4294967296)) ?_
    refine mw (vi (((FA (FA (rot o 2) (rot o 13)) (rot o 22))+(FA (FA (Gy o s) (Gy o t)) (Gy s t))) % 4294967296)) ?_
    refine ar ((((((y+(FA (FA (rot i 6) (rot i 11)) (rot i 25)))+(FA (Gy i q) (Gy (FA i 4294967295) r)))+zk)+zw) % 4294967296)+(((FA (FA (rot o 2) (rot o 13)) (rot o 22))+(FA (FA (Gy o s) (Gy o t)) (Gy s t))) % 4294967296)) wN ?_
    refine Im ((((((y+(FA (FA (rot i 6) (rot i 11)) (rot i 25)))+(FA (Gy i q) (Gy (FA i 4294967295) r)))+zk)+zw) % 4294967296)+(((FA (FA (rot o 2) (rot o 13)) (rot o 22))+(FA (FA (Gy o s) (Gy o t)) (Gy s t))) % 4294967296)) 4294967295 4294967296 32 wN rfl rfl (by decide) (by decide) (by decide) (by kernel_rfl) ?_
    refine aw (vi (((((((y+(FA (FA (rot i 6) (rot i 11)) (rot i 25)))+(FA (Gy i q) (Gy (FA i 4294967295) r)))+zk)+zw) % 4294967296)+(((FA (FA (rot o 2) (rot o 13)) (rot o 22))+(FA (FA (Gy o s) (Gy o t)) (Gy s t))) % 4294967296)) % 4294967296)) ?_
    refine uD<|uB<|rg<|uG ?_
    refine mw (vi ((k:Nat):Int)) ?_
    refine ar (((k:Nat):Int)+1) wN ?_
    refine aw (vi (((k:Nat):Int)+1)) ?_
    refine uD<|FX (w0:=av) [(0,(vs B j.length C)),(4,(vs none 0 0)),(5,(vs H j.length I)),(6,(vs R (kw).length S)),(7,(vs T (schedP p).length V)),(8,(vi ((Gu (schedP p) (GL j) (k+1)).a))),(9,(vi ((Gu (schedP p) (GL j) (k+1)).b))),(10,(vi ((Gu (schedP p) (GL j) (k+1)).c))),(11,(vi ((Gu (schedP p) (GL j) (k+1)).d))),(12,(vi ((Gu (schedP p) (GL j) (k+1)).e))),(13,(vi ((Gu (schedP p) (GL j) (k+1)).f))),(14,(vi ((Gu (schedP p) (GL j) (k+1)).g))),(15,(vi ((Gu (schedP p) (GL j) (k+1)).z))),(16,(vi (((k+1):Nat):Int)))] ?_ ?_ ?_
    · exact ⟨rfl,rfl,rfl,rfl,rfl,(cA (Value.int .i64) (show ((((((((y+(FA (FA (rot i 6) (rot i 11)) (rot i 25)))+(FA (Gy i q) (Gy (FA i 4294967295) r)))+zk)+zw) % 4294967296)+(((FA (FA (rot o 2) (rot o 13)) (rot o 22))+(FA (FA (Gy o s) (Gy o t)) (Gy s t))) % 4294967296)) % 4294967296):Int)=(Gu (schedP p) (GL j) (k+1)).a by subst hzw hzk hi_a hi_b hi_c hi_d hi_e hi_f hi_g hi_z;exact Uv (by omega) rfl rfl)),(cA (Value.int .i64) (show (o:Int)=(Gu (schedP p) (GL j) (k+1)).b by rw [hi_a];rfl)),(cA (Value.int .i64) (show (s:Int)=(Gu (schedP p) (GL j) (k+1)).c by rw [hi_b];rfl)),(cA (Value.int .i64) (show (t:Int)=(Gu (schedP p) (GL j) (k+1)).d by rw [hi_c];rfl)),(cA (Value.int .i64) (show (((D+(((((y+(FA (FA (rot i 6) (rot i 11)) (rot i 25)))+(FA (Gy i q) (Gy (FA i 4294967295) r)))+zk)+zw) % 4294967296)) % 4294967296):Int)=(Gu (schedP p) (GL j) (k+1)).e by subst hzw hzk hi_a hi_b hi_c hi_d hi_e hi_f hi_g hi_z;exact Uu (by omega) rfl)),(cA (Value.int .i64) (show (i:Int)=(Gu (schedP p) (GL j) (k+1)).f by rw [hi_e];rfl)),(cA (Value.int .i64) (show (q:Int)=(Gu (schedP p) (GL j) (k+1)).g by rw [hi_f];rfl)),(cA (Value.int .i64) (show (r:Int)=(Gu (schedP p) (GL j) (k+1)).z by rw [hi_g];rfl)),(cA (Value.int .i64) (show ((((k:Nat):Int)+1):Int)=(((k+1):Nat):Int) by omega)),trivial⟩
    · exact fun u=>⟨(k+1),(Gu (schedP p) (GL j) (k+1)).a,(Gu (schedP p) (GL j) (k+1)).b,(Gu (schedP p) (GL j) (k+1)).c,(Gu (schedP p) (GL j) (k+1)).d,(Gu (schedP p) (GL j) (k+1)).e,(Gu (schedP p) (GL j) (k+1)).f,(Gu (schedP p) (GL j) (k+1)).g,(Gu (schedP p) (GL j) (k+1)).z,u,rfl,ci,((((((Ch.refl (fun k=>A.heap.size≤k) A).ext W (fun k hk=>hk)).extk aJ).extk aK).extk aL).extk aM),(by omega),(by first|rfl|assumption),(by first|rfl|assumption),(by first|rfl|assumption),(by first|rfl|assumption),(by first|rfl|assumption),(by first|rfl|assumption),(by first|rfl|assumption),(by first|rfl|assumption)⟩
    · show (64 - (((k+1):Nat):Int)).toNat < (64 - ((k:Nat):Int)).toNat;omega

theorem Tx (b:World) (r:Value) (a:List Int) (I:RC b r a) (P:a.length=8):Fn Tryz.prog 167 #[r] b (fun v f=>Keep b f∧JF f b.heap.size v (GN a)):=by
 obtain ⟨g,h,rfl,s,Q⟩:=I
 refine FI (n:=17) [(vs g a.length h)] Tryz.func167 rfl rfl ?_
 refine sr<|aw (vs none 0 0) ?_
 refine nx<|Gc wN rfl rfl tD (fun w=>by kernel_rfl) ?_
 intro p q t J
 have K:=(Ch.base b).extk t
 refine aw (vs (some p) 0 0) ?_
 refine n4<|aw (vi 0) ?_
 refine uD<|rg<|uJ ?_
 have y:([]:List UInt8)=GN (a.take 0):=by rfl
 have A:0=(GN (a.take 0)).length:=by rw [← y];try (first|rfl|simp only [List.length_set]|simp)
 refine Ge [(0,(vs g a.length h)),(2,(vs none 0 0)),(3,(.slice (some p) (GN (a.take 0)).length 0)),(4,(vi ((0:Nat):Int)))] ⟨rfl,rfl,rfl,(cA (Value.int .i64) (show (0:Int)=((0:Nat):Int) by omega)),trivial⟩ (fun e' f=>∃ (k:Nat) (B:Env) (d:Option Addr) (e:Nat),e'=pt B [(0,(vs g a.length h)),(2,(vs none 0 0)),(3,(.slice d (GN (a.take k)).length e)),(4,(vi ((k:Nat):Int)))]∧Ch (fun k=>b.heap.size≤k) b f∧Ch (fun k=>b.heap.size≤k) q f∧k≤a.length∧(World.ownsRow f b.heap.size 5 1 (.slice d (GN (a.take k)).length e) (GN (a.take k)).length ((GN (a.take k)).map bV)∧(GN (a.take k)).length≤1073741824)) (fun e' _=>a.length - ((intOf (e' 4))).toNat) ?_ ?_
 ·exact fun u=>⟨0,u,(some p),0,rfl,K,(Ch.refl (fun k=>b.heap.size≤k) q),(by omega),⟨(by rw [← A,← y];exact J),(by rw [← A];first|exact (by simp)|(simp only [List.length_append,List.length_take,List.length_replicate];omega))⟩⟩
 ·rintro _ C ⟨k,B,d,e,rfl,j,D,R,⟨E,F⟩⟩
  have hwl:=Kt (a.take k)
  have htl:(a.take k).length=min k a.length:=List.length_take
  refine uK<|sr<|mw (vi ((k:Nat):Int)) ?_
  refine pu (vb (decide (((k:Nat):Int) < 8))) wN ?_
  refine n2 ?_
  rcases bf (decide (((k:Nat):Int) < 8)) with i|i
  ·have S:=dF i
   refine cf i<|Gn<|uA<|uA<|wr<|rg<|sr<|mw (vs d (GN (a.take k)).length e) ?_
   refine aw (vs d (GN (a.take k)).length e) ?_
   refine n3<|rt (vs d (GN (a.take k)).length e) ?_
   refine ⟨j.keep0,?_⟩
   have L:GN a=(GN (a.take k)):=by exact Nn (by omega)
   rw [L]
   exact ⟨_,_,rfl,E,F,⟨trivial,trivial⟩⟩
  have T:=dT i
  refine ct i<|FR<|rg<|uK<|uJ<|uG ?_
  refine mw (vs d (GN (a.take k)).length e) ?_
  refine mw (vs g a.length h) ?_
  refine mw (vi ((k:Nat):Int)) ?_
  refine ix wN ((k:Nat):Int) uQ (s.from0 j) ?_
  refine ei (x:=a) k wN tE (s.from0 j) ?_
  refine cl wN (MC C _ (GN (a.take k)) (FV (Rd.of_own E) F) (a.getD k 0) 4 (by first|omega|(simp;done)|(simp;omega)|(simp only [List.length_append,List.length_cons,List.length_nil] at *;omega))) ?_
  rintro _ V ⟨G,⟨m,o,rfl,M,N,W⟩⟩
  have O:=j.extk G
  have X:=Iq (GN (a.take k)) (a.getD k 0) 4
  refine aw (vs m (HE (GN (a.take k)) (a.getD k 0) 4).length o) ?_
  refine uD<|uB<|rg<|uG ?_
  refine mw (vi ((k:Nat):Int)) ?_
  refine ar (((k:Nat):Int)+1) wN ?_
  refine aw (vi (((k:Nat):Int)+1)) ?_
  refine uD ?_
  have H:((HE (GN (a.take k)) (a.getD k 0) 4):List UInt8)=GN (a.take (k+1)):=by exact Mo (by omega)
  refine FX (w0:=C) [(0,(vs g a.length h)),(2,(vs none 0 0)),(3,(.slice m (GN (a.take (k+1))).length o)),(4,(vi (((k+1):Nat):Int)))] ?_ ?_ ?_
  · exact ⟨rfl,rfl,(cA (fun l:List UInt8=>Value.slice m l.length o) H),(cA (Value.int .i64) (show ((((k:Nat):Int)+1):Int)=(((k+1):Nat):Int) by omega)),trivial⟩
  · exact fun u=>⟨(k+1),u,m,o,rfl,O,(((Ch.refl (fun k=>b.heap.size≤k) q).ext D (fun k hk=>hk)).extk G),(by omega),(H ▸ ⟨(tA M (z2 t D)),N⟩)⟩
  · show a.length - ((((k+1):Nat):Int)).toNat < a.length - (((k:Nat):Int)).toNat;omega

theorem TC (b:World) (I:Value) (a:List UInt8) (Z:HP b I a) :Fn Tryz.prog 155 #[I] b (fun v e=>Keep b e∧JF e b.heap.size v (sha a)):=by
 obtain ⟨p,q,rfl,D,a5⟩:=Z
 refine FI (n:=33) [(vs p a.length q)] Tryz.func155 rfl rfl ?_
 refine sr<|aw (vs none 0 0) ?_
 refine n4<|mw (vs p a.length q) ?_
 refine ln wN tD D ?_
 refine pu (vb (decide (1048576 < (a.length:Int)))) wN ?_
 refine n2 ?_
 rcases bt (decide (1048576 < (a.length:Int))) with i|i
 ·have a6:=dT i
  refine ct i<|sr<|Gc wN rfl rfl tD (fun w=>by kernel_rfl) ?_
  intro J aa ab ac
  have ad:=(Ch.base b).extk ab
  refine aw (vs (some J) 0 0) ?_
  refine n1<|rt (vs (some J) 0 0) ?_
  refine ⟨ad.keep0,?_⟩
  have ae:sha a=[]:=by first|exact RO (by omega)|exact Uc (by omega) (by omega) (by omega)
  rw [ae]
  exact ⟨_,_,rfl,ac,(by simp),⟨trivial,trivial⟩⟩
 have a7:=dF i
 refine cf i<|y1<|Gc wN rfl rfl tD (fun w=>by kernel_rfl) ?_
 intro a8 aa r af
 have K:=(Ch.base b).extk r
 refine mw (vs p a.length q) ?_
 refine ap0 a wN tD af (D.from0 K) r.size ?_
 intro a9 aA ah E L aB
 have M:=K.extk E
 refine mw (vs p a.length q) ?_
 refine ln wN tD (D.from0 M) ?_
 refine cl wN (Va ah (a.length:Int)) ?_
 rintro _ aC ⟨s,⟨aD,aE,rfl,ai,_⟩⟩
 have aF:=IC (a.length:Int)
 have aj:=(gc L s)
 refine apB a (Hk (a.length:Int)) wN tD aj (Rd.of_own ai) (z3 r E s) ?_
 intro f h d N O aG ak
 have am:=(M.extk s).ext N (fun k hk=>nT (Nat.le_refl b.heap.size) (uI L k hk).1)
 refine aw (vs f (a++(Hk (a.length:Int))).length h) ?_
 refine nx<|cl wN (TB d ) ?_
 rintro _ F ⟨t,⟨x,y,rfl,an,ao,aH⟩⟩
 have ap:=am.extk t
 refine aw (vs x (k0).length y) ?_
 refine n4<|aw (vi 0) ?_
 refine uD<|rg<|uJ ?_
 have P:((k0):List Int)=Hf k0 (a++(Hk (a.length:Int))) 0:=by rfl
 refine Ge [(2,(vs none 0 0)),(3,(vs f (a++(Hk (a.length:Int))).length h)),(4,(.slice x (Hf k0 (a++(Hk (a.length:Int))) 0).length y)),(5,(vi (64*((0:Nat):Int))))] ⟨rfl,rfl,(cA (fun l:List Int=>Value.slice x l.length y) P),(cA (Value.int .i64) (show (0:Int)=(64*((0:Nat):Int)) by omega)),trivial⟩ (fun e' e=>∃ (k:Nat) (Q:Env) (j:Option Addr) (m:Nat),e'=pt Q [(2,(vs none 0 0)),(3,(vs f (a++(Hk (a.length:Int))).length h)),(4,(.slice j (Hf k0 (a++(Hk (a.length:Int))) k).length m)),(5,(vi (64*((k:Nat):Int))))]∧Ch (fun k=>b.heap.size≤k) b e∧Ch (fun k=>d.heap.size≤k) F e∧64*k≤(a++(Hk (a.length:Int))).length∧(World.ownsRow e d.heap.size 3 1 (.slice j (Hf k0 (a++(Hk (a.length:Int))) k).length m) (Hf k0 (a++(Hk (a.length:Int))) k).length ((Hf k0 (a++(Hk (a.length:Int))) k).map iV)∧(Hf k0 (a++(Hk (a.length:Int))) k).length≤1073741824)) (fun e' _=>(a++Hk (a.length:Int)).length - ((intOf (e' 5))).toNat) ?_ ?_
 ·exact fun u=>⟨0,u,x,y,rfl,ap,(Ch.refl (fun k=>d.heap.size≤k) F),(by omega),(P ▸ ⟨an,ao⟩)⟩
 ·rintro _ G ⟨k,Q,j,m,rfl,R,A,aI,⟨S,T⟩⟩
  have hal:=Ud a (by omega)
  refine uK<|sr<|mw (vi (64*((k:Nat):Int))) ?_
  refine mw (vs f (a++(Hk (a.length:Int))).length h) ?_
  have H:=(tC (gc O t) A (fun g hg hlt hk=>by have aJ:=(uI O g hg).2;have aK:d.heap.size≤d.heap.size:=(Nat.le_refl d.heap.size);have aL:d.heap.size≤g:=hk;omega))
  refine ln wN tD (Rd.of_own H) ?_
  refine pu (vb (decide ((64*((k:Nat):Int)) < ((a++(Hk (a.length:Int))).length:Int)))) wN ?_
  refine n2 ?_
  rcases bf (decide ((64*((k:Nat):Int)) < ((a++(Hk (a.length:Int))).length:Int))) with o|o
  ·have aM:=dF o
   refine cf o<|Gn<|uA<|uA<|wr<|rg<|sr<|mw (vs j (Hf k0 (a++(Hk (a.length:Int))) k).length m) ?_
   refine cl wN (Tx G _ (Hf k0 (a++(Hk (a.length:Int))) k) (Lq (Rd.of_own S) T) (by first|omega|exact KK UM _|exact LV (by first|assumption|exact (Ly (by assumption)).1))) ?_
   rintro _ aq ⟨au,⟨V,W,rfl,av,ax,aN⟩⟩
   have ay:=R.extk au
   refine aw (vs V (GN (Hf k0 (a++(Hk (a.length:Int))) k)).length W) ?_
   refine n3<|rt (vs V (GN (Hf k0 (a++(Hk (a.length:Int))) k)).length W) ?_
   refine ⟨ay.keep0,?_⟩
   have az:sha a=(GN (Hf k0 (a++(Hk (a.length:Int))) k)):=by first|exact RO (by omega)|exact Uc (by omega) (by omega) (by omega)
   rw [az]
   exact ⟨_,_,rfl,(tA av (z6 r E s N t A)),ax,⟨trivial,trivial⟩⟩
  have aO:=dT o
  refine ct o<|FR<|rg<|uK<|uJ<|uG ?_
  refine mw (vs j (Hf k0 (a++(Hk (a.length:Int))) k).length m) ?_
  refine mw (vs f (a++(Hk (a.length:Int))).length h) ?_
  refine mw (vi (64*((k:Nat):Int))) ?_
  refine mw (vi (64*((k:Nat):Int))) ?_
  refine ar ((64*((k:Nat):Int))+64) wN ?_
  refine slv (((a++(Hk (a.length:Int))).drop (((64*((k:Nat):Int))).toNat)).take (((((64*((k:Nat):Int))+64)).toNat) - (((64*((k:Nat):Int))).toNat))) (((64*((k:Nat):Int))).toNat) ((((64*((k:Nat):Int))+64)).toNat) wN tD (Rd.of_own H) (by first|omega|(simp <;> omega)) (by first|omega|(simp <;> omega)) (by first|rfl|(simp;done)|(rw [List.take_of_length_le (by first|(simp;done)|(simp;omega))])) rfl rfl rfl rfl (.inr ⟨_,_,_,rfl,rfl,by omega⟩) (.inr ⟨_,_,_,rfl,rfl,by omega⟩) ?_
  have a0:(((64*((k:Nat):Int))).toNat)≤((((64*((k:Nat):Int))+64)).toNat):=(by first|omega|(simp <;> omega))
  have a1:((((64*((k:Nat):Int))+64)).toNat)≤(a++(Hk (a.length:Int))).length:=(by first|omega|(simp <;> omega))
  refine cl wN (PE G _ (Hf k0 (a++(Hk (a.length:Int))) k) (Lq (Rd.of_own S) T) _ (((a++(Hk (a.length:Int))).drop (((64*((k:Nat):Int))).toNat)).take (((((64*((k:Nat):Int))+64)).toNat) - (((64*((k:Nat):Int))).toNat))) (FV (Rd.subV (x':=(((a++(Hk (a.length:Int))).drop (((64*((k:Nat):Int))).toNat)).take (((((64*((k:Nat):Int))+64)).toNat) - (((64*((k:Nat):Int))).toNat)))) (Rd.of_own H) a0 a1 (by first|rfl|(simp;done)|(rw [List.take_of_length_le (by first|(simp;done)|(simp;omega))]))) (nT (by simp only [List.length_take,List.length_drop];omega) ak))) ?_
  rintro _ aq ⟨X,⟨B,C,rfl,a2,a3,aP⟩⟩
  have a4:=R.extk X
  refine aw (vs B (GP (Hf k0 (a++(Hk (a.length:Int))) k) (((a++(Hk (a.length:Int))).drop (((64*((k:Nat):Int))).toNat)).take (((((64*((k:Nat):Int))+64)).toNat) - (((64*((k:Nat):Int))).toNat)))).length C) ?_
  refine uD<|uB<|rg<|uG ?_
  refine mw (vi (64*((k:Nat):Int))) ?_
  refine ar ((64*((k:Nat):Int))+64) wN ?_
  refine aw (vi ((64*((k:Nat):Int))+64)) ?_
  refine uD ?_
  have Y:((GP (Hf k0 (a++(Hk (a.length:Int))) k) (((a++(Hk (a.length:Int))).drop (((64*((k:Nat):Int))).toNat)).take (((((64*((k:Nat):Int))+64)).toNat) - (((64*((k:Nat):Int))).toNat)))):List Int)=Hf k0 (a++(Hk (a.length:Int))) (k+1):=by exact Pz
  refine FX (w0:=G) [(2,(vs none 0 0)),(3,(vs f (a++(Hk (a.length:Int))).length h)),(4,(.slice B (Hf k0 (a++(Hk (a.length:Int))) (k+1)).length C)),(5,(vi (64*(((k+1):Nat):Int))))] ?_ ?_ ?_
  · exact ⟨rfl,rfl,(cA (fun l:List Int=>Value.slice B l.length C) Y),(cA (Value.int .i64) (show (((64*((k:Nat):Int))+64):Int)=(64*(((k+1):Nat):Int)) by omega)),trivial⟩
  · exact fun u=>⟨(k+1),u,B,C,rfl,a4,(((Ch.refl (fun k=>d.heap.size≤k) F).ext A (fun k hk=>hk)).extk X),(by omega),(Y ▸ ⟨(tA a2 (z2 t A)),a3⟩)⟩
  · show (a++Hk (a.length:Int)).length - ((64*(((k+1):Nat):Int))).toNat < (a++Hk (a.length:Int)).length - ((64*((k:Nat):Int))).toNat;omega

theorem PG (b:World) (M:Value) (a:List UInt8) (af:HP b M a) :Fn Tryz.prog 154 #[M] b (fun v f=>Keep b f∧JF f b.heap.size v (uF a)):=by
 obtain ⟨h,i,rfl,y,N⟩:=af
 refine FI (n:=23) [(vs h a.length i)] Tryz.func154 rfl rfl ?_
 refine sr<|aw (vs none 0 0) ?_
 refine n4<|mw (vs h a.length i) ?_
 refine ln wN tD y ?_
 refine pu (vb (decide (1048576 < (a.length:Int)))) wN ?_
 refine n2 ?_
 rcases bt (decide (1048576 < (a.length:Int))) with m|m
 ·have aB:=dT m
  refine ct m<|sr<|Gc wN rfl rfl tD (fun w=>by kernel_rfl) ?_
  intro O ah ai aj
  have ak:=(Ch.base b).extk ai
  refine aw (vs (some O) 0 0) ?_
  refine n1<|rt (vs (some O) 0 0) ?_
  refine ⟨ak.keep0,?_⟩
  have am:uF a=[]:=by first|exact Je (by omega)|exact Jd (by omega) (by omega) (by omega) (by simp only [List.length_append,List.length_replicate] at *;omega)|exact Jc (by omega) (by omega) (by simp only [List.length_append,List.length_replicate] at *;omega)
  rw [am]
  exact ⟨_,_,rfl,aj,(by simp),⟨trivial,trivial⟩⟩
 have aC:=dF m
 refine cf m<|y1<|Gc wN rfl rfl tD (fun w=>by kernel_rfl) ?_
 intro aD ah o an
 have P:=(Ch.base b).extk o
 refine mw (vs h a.length i) ?_
 refine ap0 a wN tD an (y.from0 P) o.size ?_
 intro A B g C ao aE
 have D:=P.extk C
 refine aw (vs A a.length B) ?_
 refine n4<|mw (vs h a.length i) ?_
 refine ln wN tD (y.from0 D) ?_
 refine pu (vb (decide (64 < (a.length:Int)))) wN ?_
 refine n2 ?_
 rcases bf (decide (64 < (a.length:Int))) with p|p
 ·have aF:=dF p
  refine cf p<|FR<|rg<|uK<|uJ ?_
  have Q:(a:List UInt8)=a++List.replicate 0 (0:UInt8):=by simp
  refine Ge [(2,(vs none 0 0)),(3,(.slice A (a++List.replicate 0 (0:UInt8)).length B))] ⟨rfl,(cA (fun l:List UInt8=>Value.slice A l.length B) Q),trivial⟩ (fun e' f=>∃ (j:Nat) (R:Env) (d:Option Addr) (e:Nat),e'=pt R [(2,(vs none 0 0)),(3,(.slice d (a++List.replicate j (0:UInt8)).length e))]∧Ch (fun k=>b.heap.size≤k) b f∧Ch (fun k=>b.heap.size≤k) g f∧a.length+j≤64∧(World.ownsRow f b.heap.size 5 1 (.slice d (a++List.replicate j (0:UInt8)).length e) (a++List.replicate j (0:UInt8)).length ((a++List.replicate j (0:UInt8)).map bV)∧(a++List.replicate j (0:UInt8)).length≤1073741824)) (fun e' _=>64 - (lenOf (e' 3))) ?_ ?_
  ·exact fun u=>⟨0,u,A,B,rfl,D,(Ch.refl (fun k=>b.heap.size≤k) g),(by omega),(Q ▸ ⟨ao,N⟩)⟩
  ·rintro _ q ⟨j,R,d,e,rfl,S,T,aG,⟨r,ap⟩⟩
   have hol:(a++List.replicate j (0:UInt8)).length=a.length+j:=by rw [List.length_append,List.length_replicate]
   refine uK<|sr<|mw (vs d (a++List.replicate j (0:UInt8)).length e) ?_
   refine ln wN tD (Rd.of_own r) ?_
   refine pu (vb (decide (((a++List.replicate j (0:UInt8)).length:Int) < 64))) wN ?_
   refine n2 ?_
   rcases bf (decide (((a++List.replicate j (0:UInt8)).length:Int) < 64)) with s|s
   ·have aH:=dF s
    refine cf s<|Gn<|uA<|uA<|wr<|rg<|sr<|mw (vs d (a++List.replicate j (0:UInt8)).length e) ?_
    refine aw (vs d (a++List.replicate j (0:UInt8)).length e) ?_
    refine n3<|rt (vs d (a++List.replicate j (0:UInt8)).length e) ?_
    refine ⟨S.keep0,?_⟩
    have aq:uF a=(a++List.replicate j (0:UInt8)):=by first|exact Je (by omega)|exact Jd (by omega) (by omega) (by omega) (by simp only [List.length_append,List.length_replicate] at *;omega)|exact Jc (by omega) (by omega) (by simp only [List.length_append,List.length_replicate] at *;omega)
    rw [aq]
    exact ⟨_,_,rfl,r,ap,⟨trivial,trivial⟩⟩
   have aI:=dT s
   refine ct s<|FR<|rg<|uJ<|uG ?_
   refine mw (vs d (a++List.replicate j (0:UInt8)).length e) ?_
   refine ltB ([0]:List UInt8) wN tD ?_
   intro aJ aK V E au
   have av:=(gc r E)
   refine apB (a++List.replicate j (0:UInt8)) ([0]:List UInt8) wN tD av (Rd.of_own au) (z4 o C T E) ?_
   intro F G ax W ay aL az
   have a0:=(S.extk E).ext W (fun k hk=>nT (Nat.le_refl b.heap.size) (uI r k hk).1)
   refine aw (vs F ((a++List.replicate j (0:UInt8))++([0]:List UInt8)).length G) ?_
   refine uD<|uB ?_
   have X:(((a++List.replicate j (0:UInt8))++([0]:List UInt8)):List UInt8)=a++List.replicate (j+1) (0:UInt8):=by rw [List.replicate_succ',List.append_assoc]
   refine FX (w0:=q) [(2,(vs none 0 0)),(3,(.slice F (a++List.replicate (j+1) (0:UInt8)).length G))] ?_ ?_ ?_
   · exact ⟨rfl,(cA (fun l:List UInt8=>Value.slice F l.length G) X),trivial⟩
   · exact fun u=>⟨(j+1),u,F,G,rfl,a0,((((Ch.refl (fun k=>b.heap.size≤k) g).ext T (fun k hk=>hk)).extk E).ext W (fun k hk=>nT (Nat.le_refl b.heap.size) (uI r k hk).1)),(by omega),(X ▸ ⟨ay,az⟩)⟩
   · show 64 - (a++List.replicate (j+1) (0:UInt8)).length < 64 - (a++List.replicate j (0:UInt8)).length;simp only [List.length_append,List.length_replicate];omega
 have aM:=dT p
 refine ct p<|uG ?_
 refine mw (vs h a.length i) ?_
 refine cl wN (TC g _ a (FV (y.from0 D) N)) ?_
 rintro _ q ⟨Y,⟨H,I,rfl,a1,a2,aN⟩⟩
 have a3:=D.extk Y
 have aO:=Kz a
 refine aw (vs H (sha a).length I) ?_
 refine uD<|rg<|uK<|uJ ?_
 have Z:((sha a):List UInt8)=(sha a)++List.replicate 0 (0:UInt8):=by simp
 refine Ge [(2,(vs none 0 0)),(3,(.slice H ((sha a)++List.replicate 0 (0:UInt8)).length I))] ⟨rfl,(cA (fun l:List UInt8=>Value.slice H l.length I) Z),trivial⟩ (fun e' f=>∃ (j:Nat) (aa:Env) (d:Option Addr) (e:Nat),e'=pt aa [(2,(vs none 0 0)),(3,(.slice d ((sha a)++List.replicate j (0:UInt8)).length e))]∧Ch (fun k=>b.heap.size≤k) b f∧Ch (fun k=>g.heap.size≤k) q f∧(sha a).length+j≤64∧(World.ownsRow f g.heap.size 5 1 (.slice d ((sha a)++List.replicate j (0:UInt8)).length e) ((sha a)++List.replicate j (0:UInt8)).length (((sha a)++List.replicate j (0:UInt8)).map bV)∧((sha a)++List.replicate j (0:UInt8)).length≤1073741824)) (fun e' _=>64 - (lenOf (e' 3))) ?_ ?_
 ·exact fun u=>⟨0,u,H,I,rfl,a3,(Ch.refl (fun k=>g.heap.size≤k) q),(by omega),(Z ▸ ⟨a1,a2⟩)⟩
 ·rintro _ V ⟨j,aa,d,e,rfl,ab,ac,aP,⟨t,a4⟩⟩
  have hol:((sha a)++List.replicate j (0:UInt8)).length=(sha a).length+j:=by rw [List.length_append,List.length_replicate]
  refine uK<|sr<|mw (vs d ((sha a)++List.replicate j (0:UInt8)).length e) ?_
  refine ln wN tD (Rd.of_own t) ?_
  refine pu (vb (decide ((((sha a)++List.replicate j (0:UInt8)).length:Int) < 64))) wN ?_
  refine n2 ?_
  rcases bf (decide ((((sha a)++List.replicate j (0:UInt8)).length:Int) < 64)) with x|x
  ·have aQ:=dF x
   refine cf x<|Gn<|uA<|uA<|wr<|rg<|sr<|mw (vs d ((sha a)++List.replicate j (0:UInt8)).length e) ?_
   refine aw (vs d ((sha a)++List.replicate j (0:UInt8)).length e) ?_
   refine n3<|rt (vs d ((sha a)++List.replicate j (0:UInt8)).length e) ?_
   refine ⟨ab.keep0,?_⟩
   have a5:uF a=((sha a)++List.replicate j (0:UInt8)):=by first|exact Je (by omega)|exact Jd (by omega) (by omega) (by omega) (by simp only [List.length_append,List.length_replicate] at *;omega)|exact Jc (by omega) (by omega) (by simp only [List.length_append,List.length_replicate] at *;omega)
   rw [a5]
   exact ⟨_,_,rfl,(tA t (z2 o C)),a4,⟨trivial,trivial⟩⟩
  have aR:=dT x
  refine ct x<|FR<|rg<|uJ<|uG ?_
  refine mw (vs d ((sha a)++List.replicate j (0:UInt8)).length e) ?_
  refine ltB ([0]:List UInt8) wN tD ?_
  intro aS aT ax J a6
  have a7:=(gc t J)
  refine apB ((sha a)++List.replicate j (0:UInt8)) ([0]:List UInt8) wN tD a7 (Rd.of_own a6) (z3 Y ac J) ?_
  intro K L aU ad a8 aV a9
  have aA:=(ab.extk J).ext ad (fun k hk=>nT (z2 o C) (uI t k hk).1)
  refine aw (vs K (((sha a)++List.replicate j (0:UInt8))++([0]:List UInt8)).length L) ?_
  refine uD<|uB ?_
  have ae:((((sha a)++List.replicate j (0:UInt8))++([0]:List UInt8)):List UInt8)=(sha a)++List.replicate (j+1) (0:UInt8):=by rw [List.replicate_succ',List.append_assoc]
  refine FX (w0:=V) [(2,(vs none 0 0)),(3,(.slice K ((sha a)++List.replicate (j+1) (0:UInt8)).length L))] ?_ ?_ ?_
  · exact ⟨rfl,(cA (fun l:List UInt8=>Value.slice K l.length L) ae),trivial⟩
  · exact fun u=>⟨(j+1),u,K,L,rfl,aA,((((Ch.refl (fun k=>g.heap.size≤k) q).ext ac (fun k hk=>hk)).extk J).ext ad (fun k hk=>nT (Nat.le_refl g.heap.size) (uI t k hk).1)),(by omega),(ae ▸ ⟨a8,a9⟩)⟩
  · show 64 - ((sha a)++List.replicate (j+1) (0:UInt8)).length < 64 - ((sha a)++List.replicate j (0:UInt8)).length;simp only [List.length_append,List.length_replicate];omega

theorem SS (d:World) (ac:Value) (a:List UInt8) (a8:HP d ac a) (ad:Value) (b:List UInt8) (a9:HP d ad b) :Fn Tryz.prog 145 #[ac,ad] d (fun v m=>Keep d m∧JF m d.heap.size v (Iu a b)):=by
 obtain ⟨L,M,rfl,ae,aA⟩:=a8
 obtain ⟨o,p,rfl,af,bw⟩:=a9
 refine FI (n:=49) [(vs L a.length M),(vs o b.length p)] Tryz.func145 rfl rfl ?_
 refine sr<|aw (vs none 0 0) ?_
 refine n4<|jT1 [(0,(vs L a.length M)),(1,(vs o b.length p)),(4,(vs none 0 0))] (Iu a b=[]) ?_ fun ah=>?_
 ·intro aB e ai bz
  refine sr<|Gc wN rfl rfl tD (fun w=>by kernel_rfl) ?_
  intro aj T aC aD
  have aE:=((Ch.base d).extk ai).extk aC
  refine aw (vs (some aj) 0 0) ?_
  refine n1<|rt (vs (some aj) 0 0) ?_
  refine ⟨aE.keep0,?_⟩
  rw [aB]
  exact ⟨_,_,rfl,(tA aD ai.size),(by simp),⟨trivial,trivial⟩⟩
 refine mw (vs L a.length M) ?_
 refine ln wN tD ae ?_
 refine pu (vb (decide (1048576 < (a.length:Int)))) wN ?_
 refine mw (vb (decide (1048576 < (a.length:Int)))) ?_
 rcases bt (decide (1048576 < (a.length:Int))) with f|f
 ·have b0:=dT f
  iterate 3 refine sk f ?_
  refine pk (vb true) wN f ?_
  refine n2<|ct T1 ?_
  have aF:Iu a b=[]:=by first|exact Mz (by omega)|exact My (by omega) (by omega)|exact QB (by omega) (by omega)
  exact wj (ah aF _ (Ch.refl _ _))
 have b1:=dF f
 refine mv (vs o b.length p) (wS f) ?_
 refine ln (wS f) tD af ?_
 refine pu (vb (decide (1048512 < (b.length:Int)))) (wS f) ?_
 refine pf (vb (decide (1048512 < (b.length:Int)))) wN f ?_
 refine n2 ?_
 rcases bt (decide (1048512 < (b.length:Int))) with E|E
 ·have b2:=dT E
  refine ct E ?_
  have aG:Iu a b=[]:=by first|exact Mz (by omega)|exact My (by omega) (by omega)|exact QB (by omega) (by omega)
  exact wj (ah aG _ (Ch.refl _ _))
 have b3:=dF E
 refine cf E<|y1<|mw (vs L a.length M) ?_
 refine cl wN (PG d _ a (FV ae aA)) ?_
 rintro _ e ⟨s,⟨t,y,rfl,V,_⟩⟩
 have b4:=Ko a
 refine aw (vs t (uF a).length y) ?_
 refine nx<|Gc wN rfl rfl tD (fun w=>by kernel_rfl) ?_
 intro W T h ak
 refine aw (vs (some W) 0 0) ?_
 refine nx<|Gc wN rfl rfl tD (fun w=>by kernel_rfl) ?_
 intro X Y j am
 have aH:=(((Ch.base d).extk s).extk h).extk j
 refine aw (vs (some X) 0 0) ?_
 refine n4<|aw (vi 0) ?_
 refine uD<|rg<|uJ ?_
 have aI:=(gc ak j)
 have an:([]:List UInt8)=Gw ((uF a).take 0) 54:=by rfl
 have ao:0=(Gw ((uF a).take 0) 54).length:=by rw [← an];try (first|rfl|simp only [List.length_set]|simp)
 have ap:([]:List UInt8)=Gw ((uF a).take 0) 92:=by rfl
 have aq:0=(Gw ((uF a).take 0) 92).length:=by rw [← ap];try (first|rfl|simp only [List.length_set]|simp)
 refine Ge [(1,(vs o b.length p)),(4,(vs none 0 0)),(5,(vs t (uF a).length y)),(6,(.slice (some W) (Gw ((uF a).take 0) 54).length 0)),(7,(.slice (some X) (Gw ((uF a).take 0) 92).length 0)),(8,(vi ((0:Nat):Int)))] ⟨rfl,rfl,rfl,rfl,rfl,(cA (Value.int .i64) (show (0:Int)=((0:Nat):Int) by omega)),trivial⟩ (fun e' m=>∃ (i:Nat) (au:Env) (A:Option Addr) (F:Nat) (B:Option Addr) (G:Nat),e'=pt au [(1,(vs o b.length p)),(4,(vs none 0 0)),(5,(vs t (uF a).length y)),(6,(.slice A (Gw ((uF a).take i) 54).length F)),(7,(.slice B (Gw ((uF a).take i) 92).length G)),(8,(vi ((i:Nat):Int)))]∧Ch (fun k=>d.heap.size≤k) d m∧Ch (fun k=>e.heap.size≤k) Y m∧i≤64∧(World.ownsRow m e.heap.size 5 1 (.slice A (Gw ((uF a).take i) 54).length F) (Gw ((uF a).take i) 54).length ((Gw ((uF a).take i) 54).map bV)∧(Gw ((uF a).take i) 54).length≤1073741824)∧(World.ownsRow m T.heap.size 5 1 (.slice B (Gw ((uF a).take i) 92).length G) (Gw ((uF a).take i) 92).length ((Gw ((uF a).take i) 92).map bV)∧(Gw ((uF a).take i) 92).length≤1073741824)∧NeS A B) (fun e' _=>(64 - (intOf (e' 8))).toNat) ?_ ?_
 ·exact fun u=>⟨0,u,(some W),0,(some X),0,rfl,aH,(Ch.refl (fun k=>e.heap.size≤k) Y),(by omega),⟨(by rw [← ao,← an];exact aI),(by rw [← ao];first|exact (by simp)|(simp only [List.length_append,List.length_take,List.length_replicate];omega))⟩,⟨(by rw [← aq,← ap];exact am),(by rw [← aq];first|exact (by simp)|(simp only [List.length_append,List.length_take,List.length_replicate];omega))⟩,(NeS.lt ak am (Nat.le_refl T.heap.size))⟩
 ·rintro _ aJ ⟨i,au,A,F,B,G,rfl,Z,q,b5,⟨C,b6⟩,⟨D,b7⟩,N⟩
  have b8:=Gz ((uF a).take i) 54
  have b9:=Gz ((uF a).take i) 92
  have htl:((uF a).take i).length=min i (uF a).length:=List.length_take
  refine uK<|sr<|mw (vi ((i:Nat):Int)) ?_
  refine pu (vb (decide (((i:Nat):Int) < 64))) wN ?_
  refine n2 ?_
  rcases bf (decide (((i:Nat):Int) < 64)) with H|H
  ·have bA:=dF H
   refine cf H<|Gn<|uA ?_
   obtain rfl:i=64:=by omega
   refine uA<|wr<|rg<|sr<|mw (vs B (Gw ((uF a).take 64) 92).length G) ?_
   refine mw (vs A (Gw ((uF a).take 64) 54).length F) ?_
   refine mw (vs o b.length p) ?_
   refine apB (Gw ((uF a).take 64) 54) b wN tD C (af.from0 Z) (z3 h j q) ?_
   intro bB bC av O ax aK aL
   have aM:=Z.ext O (fun k hk=>nT s.size (uI C k hk).1)
   have aN:=NeS.app N aK D
   refine cl wN (TC av _ ((Gw ((uF a).take 64) 54)++b) (FV (Rd.of_own ax) aL)) ?_
   rintro _ aO ⟨I,⟨bD,bE,rfl,aP,_⟩⟩
   have bF:=Kz ((Gw ((uF a).take 64) 54)++b)
   have aQ:=(gc (tC D O (fun g hg hlt hk=>NeS.no (NeS.symm N) hg hk)) I)
   refine apB (Gw ((uF a).take 64) 92) (sha ((Gw ((uF a).take 64) 54)++b)) wN tD aQ (Rd.of_own aP) (z4 j q O I) ?_
   intro bG bH ay az aR aS aT
   have aU:=(aM.extk I).ext az (fun k hk=>nT (z2 s h) (uI D k hk).1)
   have aV:=(gc ax I)
   have bI:=NeS.app (NeS.symm aN) aS aV
   refine cl wN (TC ay _ ((Gw ((uF a).take 64) 92)++(sha ((Gw ((uF a).take 64) 54)++b))) (FV (Rd.of_own aR) aT)) ?_
   rintro _ aW ⟨aX,⟨a0,a1,rfl,aY,aZ,bJ⟩⟩
   have ba:=aU.extk aX
   have bK:=Kz ((Gw ((uF a).take 64) 92)++(sha ((Gw ((uF a).take 64) 54)++b)))
   refine aw (vs a0 (sha ((Gw ((uF a).take 64) 92)++(sha ((Gw ((uF a).take 64) 54)++b)))).length a1) ?_
   refine n3<|rt (vs a0 (sha ((Gw ((uF a).take 64) 92)++(sha ((Gw ((uF a).take 64) 54)++b)))).length a1) ?_
   refine ⟨ba.keep0,?_⟩
   have bb:Iu a b=(sha ((Gw ((uF a).take 64) 92)++(sha ((Gw ((uF a).take 64) 54)++b)))):=by first|exact Mz (by omega)|exact My (by omega) (by omega)|exact QB (by omega) (by omega)
   rw [bb]
   exact ⟨_,_,rfl,(tA aY (z7 s h j q O I az)),aZ,⟨trivial,trivial⟩⟩
  have bL:=dT H
  refine ct H<|FR<|rg<|uK<|uJ<|sr<|mw (vs A (Gw ((uF a).take i) 54).length F) ?_
  refine mw (vs t (uF a).length y) ?_
  refine mw (vi ((i:Nat):Int)) ?_
  have aa:=(tC (gc (gc V h) j) q (fun g hg hlt hk=>by have bc:=(uI V g hg).2;have bd:e.heap.size≤e.heap.size:=(Nat.le_refl e.heap.size);have be:e.heap.size≤g:=hk;omega))
  refine ix wN ((i:Nat):Int) tD (Rd.of_own aa) ?_
  refine eb (x:=(uF a)) i wN HI (Rd.of_own aa) ?_
  refine Kj ((uF a).getD i 0) 54 wN rfl rfl (by kernel_rfl) ?_
  refine ltB ([(((uF a).getD i 0)^^^54)]:List UInt8) wN tD ?_
  intro bM bN av r bg
  have bh:=(gc C r)
  refine apB (Gw ((uF a).take i) 54) ([(((uF a).getD i 0)^^^54)]:List UInt8) wN tD bh (Rd.of_own bg) (z4 h j q r) ?_
  intro P Q aO J bi bj bk
  have bl:=(Z.extk r).ext J (fun k hk=>nT s.size (uI C k hk).1)
  have a2:=(gc D r)
  have a3:=NeS.app N bj a2
  refine aw (vs P ((Gw ((uF a).take i) 54)++([(((uF a).getD i 0)^^^54)]:List UInt8)).length Q) ?_
  refine uD<|rg<|uG ?_
  refine mw (vs B (Gw ((uF a).take i) 92).length G) ?_
  refine mw (vs t (uF a).length y) ?_
  refine mw (vi ((i:Nat):Int)) ?_
  have a4:=(tC (gc aa r) J (fun g hg hlt hk=>by have bc:=(uI V g hg).2;have bd:=(uI C g hk).1;have be:=(Nat.le_refl e.heap.size);omega))
  refine ix wN ((i:Nat):Int) tD (Rd.of_own a4) ?_
  refine eb (x:=(uF a)) i wN HI (Rd.of_own a4) ?_
  refine Kj ((uF a).getD i 0) 92 wN rfl rfl (by kernel_rfl) ?_
  refine ltB ([(((uF a).getD i 0)^^^92)]:List UInt8) wN tD ?_
  intro bO bP ay K bm
  have bn:=(gc (tC a2 J (fun g hg hlt hk=>NeS.no (NeS.symm N) hg hk)) K)
  refine apB (Gw ((uF a).take i) 92) ([(((uF a).getD i 0)^^^92)]:List UInt8) wN tD bn (Rd.of_own bm) (z5 j q r J K) ?_
  intro R S aW ab bo bp bq
  have br:=(bl.extk K).ext ab (fun k hk=>nT (z2 s h) (uI D k hk).1)
  have a5:=(gc bi K)
  have bu:=NeS.app (NeS.symm a3) bp a5
  refine aw (vs R ((Gw ((uF a).take i) 92)++([(((uF a).getD i 0)^^^92)]:List UInt8)).length S) ?_
  refine uD<|uB<|rg<|uG ?_
  refine mw (vi ((i:Nat):Int)) ?_
  refine ar (((i:Nat):Int)+1) wN ?_
  refine aw (vi (((i:Nat):Int)+1)) ?_
  refine uD ?_
  have bv:=(tC a5 ab (fun g hg hlt hk=>NeS.no a3 hg hk))
  have a6:(((Gw ((uF a).take i) 54)++([(((uF a).getD i 0)^^^54)]:List UInt8)):List UInt8)=Gw ((uF a).take (i+1)) 54:=by exact NA (by omega)
  have a7:(((Gw ((uF a).take i) 92)++([(((uF a).getD i 0)^^^92)]:List UInt8)):List UInt8)=Gw ((uF a).take (i+1)) 92:=by exact NA (by omega)
  refine FX (w0:=aJ) [(1,(vs o b.length p)),(4,(vs none 0 0)),(5,(vs t (uF a).length y)),(6,(.slice P (Gw ((uF a).take (i+1)) 54).length Q)),(7,(.slice R (Gw ((uF a).take (i+1)) 92).length S)),(8,(vi (((i+1):Nat):Int)))] ?_ ?_ ?_
  · exact ⟨rfl,rfl,rfl,(cA (fun l:List UInt8=>Value.slice P l.length Q) a6),(cA (fun l:List UInt8=>Value.slice R l.length S) a7),(cA (Value.int .i64) (show ((((i:Nat):Int)+1):Int)=(((i+1):Nat):Int) by omega)),trivial⟩
  · exact fun u=>⟨(i+1),u,P,Q,R,S,rfl,br,((((((Ch.refl (fun k=>e.heap.size≤k) Y).ext q (fun k hk=>hk)).extk r).ext J (fun k hk=>nT (Nat.le_refl e.heap.size) (uI C k hk).1)).extk K).ext ab (fun k hk=>nT h.size (uI D k hk).1)),(by omega),(a6 ▸ ⟨bv,bk⟩),(a7 ▸ ⟨bo,bq⟩),(NeS.symm bu)⟩
  · show (64 - (((i+1):Nat):Int)).toNat < (64 - ((i:Nat):Int)).toNat;omega

theorem UZ (d:World) (j:Value) (a:List UInt8) (A:HP d j a) (k:Value) (b:List UInt8) (B:HP d k b) :Fn Tryz.prog 112 #[j,k] d (fun v l=>Keep d l∧JF l d.heap.size v (JQ a b)):=by
 obtain ⟨m,o,rfl,C,D⟩:=A
 obtain ⟨p,q,rfl,E,F⟩:=B
 refine FI (n:=17) [(vs m a.length o),(vs p b.length q)] Tryz.func112 rfl rfl ?_
 refine sr<|aw (vs none 0 0) ?_
 refine nx<|mw (vs m a.length o) ?_
 refine mw (vs p b.length q) ?_
 refine cl wN (SS d _ a (FV C D) _ b (FV E F)) ?_
 rintro _ T ⟨f,⟨g,h,rfl,r,G,V⟩⟩
 have s:=(Ch.base d).extk f
 have W:=Km a b
 refine aw (vs g (Iu a b).length h) ?_
 refine n4<|mw (vs g (Iu a b).length h) ?_
 refine ln wN tD (Rd.of_own r) ?_
 refine pu (vb (decide (((Iu a b).length:Int) < 16))) wN ?_
 refine n2 ?_
 rcases bt (decide (((Iu a b).length:Int) < 16)) with e|e
 ·have X:=dT e
  refine ct e<|sr<|Gc wN rfl rfl tD (fun w=>by kernel_rfl) ?_
  intro t H I J
  have K:=s.extk I
  refine aw (vs (some t) 0 0) ?_
  refine n1<|rt (vs (some t) 0 0) ?_
  refine ⟨K.keep0,?_⟩
  have L:JQ a b=[]:=by first|exact OI (by omega)|rfl
  rw [L]
  exact ⟨_,_,rfl,(tA J f.size),(by simp),⟨trivial,trivial⟩⟩
 have Y:=dF e
 refine cf e<|y1<|Gc wN rfl rfl tD (fun w=>by kernel_rfl) ?_
 intro Z H i M
 refine mw (vs g (Iu a b).length h) ?_
 have u:=(gc r i)
 refine slv ((Iu a b).take 16) 0 16 wN tD (Rd.of_own u) (by first|omega|(simp <;> omega)) (by first|omega|(simp <;> omega)) (by first|rfl|(simp;done)|(rw [List.take_of_length_le (by first|(simp;done)|(simp;omega))])) rfl rfl rfl rfl (.inl ⟨rfl,rfl⟩) (.inr ⟨_,_,_,rfl,rfl,by omega⟩) ?_
 have N:0≤16:=(by first|omega|(simp <;> omega))
 have O:16≤(Iu a b).length:=(by first|omega|(simp <;> omega))
 refine ap0 ((Iu a b).take 16) wN tD M (Rd.subV (x':=((Iu a b).take 16)) (Rd.of_own u) N O (by first|rfl|(simp;done)|(rw [List.take_of_length_le (by first|(simp;done)|(simp;omega))]))) i.size ?_
 intro x y aa P Q ab
 have R:=(s.extk i).extk P
 refine aw (vs x ((Iu a b).take 16).length y) ?_
 refine n3<|rt (vs x ((Iu a b).take 16).length y) ?_
 refine ⟨R.keep0,?_⟩
 have S:JQ a b=((Iu a b).take 16):=by first|exact OI (by omega)|rfl
 rw [S]
 exact ⟨_,_,rfl,(tA Q f.size),(nT (by simp only [List.length_take,List.length_drop];omega) G),⟨trivial,trivial⟩⟩

theorem Ut (f:World) (w:Value) (d:List UInt8) (D:HP f w d) (y:Value) (e:List UInt8) (E:HP f y e) :Fn Tryz.prog 144 #[w,y] f (fun v o=>Keep f o∧O_3 o f.heap.size v (Ij d e)):=by
 obtain ⟨i,j,rfl,s,R⟩:=D
 obtain ⟨l,m,rfl,t,S⟩:=E
 refine FI (n:=31) [(vs i d.length j),(vs l e.length m)] Tryz.func144 rfl rfl ?_
 refine sr<|aw (vi 0) ?_
 refine n4<|mw (vs i d.length j) ?_
 refine ln wN tD s ?_
 refine mw (vs l e.length m) ?_
 refine ln wN tD t ?_
 refine pu (vb (!(decide ((d.length:Int)=(e.length:Int))))) wN ?_
 refine n2 ?_
 rcases bf (decide ((d.length:Int)=(e.length:Int))) with q|q
 ·have T:=dF q
  refine ct (cA not q)<|sr<|aw (vi (-1)) ?_
  refine n1<|rt (vi (-1)) ?_
  refine ⟨Ch.refl _ _,?_⟩
  have F:Ij d e=(-1):=by first|exact LS (by omega)|exact LR (by omega) (by omega) (by omega)
  rw [F]
  exact rfl
 have V:=dT q
 refine cf (cA not q)<|y1<|aw (vi 0) ?_
 refine n4<|aw (vi 0) ?_
 refine uD<|rg<|uJ<|Ge [(0,(vs i d.length j)),(1,(vs l e.length m)),(4,(vi 0)),(5,(vi (orX d e 0))),(6,(vi ((0:Nat):Int)))] ⟨rfl,rfl,rfl,(cA (Value.int .i64) (show (0:Int)=(orX d e 0) by rfl)),(cA (Value.int .i64) (show (0:Int)=((0:Nat):Int) by omega)),trivial⟩ (fun e' o=>∃ (k:Nat) (A:Env),e'=pt A [(0,(vs i d.length j)),(1,(vs l e.length m)),(4,(vi 0)),(5,(vi (orX d e k))),(6,(vi ((k:Nat):Int)))]∧Ch (fun k=>f.heap.size≤k) f o∧Ch (fun k=>f.heap.size≤k) f o∧k≤d.length) (fun e' _=>d.length - ((intOf (e' 6))).toNat) ?_ ?_
 ·exact fun u=>⟨0,u,rfl,(Ch.base f),(Ch.refl (fun k=>f.heap.size≤k) f),(by omega)⟩
 ·rintro _ B ⟨k,A,rfl,p,G,W⟩
  have hob:=Ui d e k
  have X:(d.getD k 0^^^e.getD k 0).toNat < 256:=UInt8.toNat_lt _
  refine uK<|sr<|mw (vi ((k:Nat):Int)) ?_
  refine mw (vs i d.length j) ?_
  refine ln wN tD (s.from0 p) ?_
  refine pu (vb (decide (((k:Nat):Int) < (d.length:Int)))) wN ?_
  refine n2 ?_
  rcases bf (decide (((k:Nat):Int) < (d.length:Int))) with r|r
  ·have Y:=dF r
   refine cf r<|Gn<|uA<|uA<|wr<|rg<|sr<|mw (vi (orX d e k)) ?_
   refine aw (vi (orX d e k)) ?_
   refine n3<|rt (vi (orX d e k)) ?_
   refine ⟨p.keep0,?_⟩
   have H:Ij d e=(orX d e k):=by first|exact LS (by omega)|exact LR (by omega) (by omega) (by omega)
   rw [H]
   exact rfl
  have Z:=dT r
  refine ct r<|FR<|rg<|uK<|uJ<|Ga ([(18,[],[],(fun _ v _=>v=(vi (orX d e k)))),(19,[],[],(fun _ v _=>v=(vs i d.length j))),(20,[],[],(fun _ v _=>v=(vi ((k:Nat):Int)))),(21,[],[1,2],(fun _ v _=>v=(ve (vs i d.length j) ((((k:Nat):Int)).toNat*1)))),(22,[],[1,2,3],(fun _ v _=>v=(v8 ((d.getD k 0).toNat:Int)))),(23,[],[],(fun _ v _=>v=(vs l e.length m))),(24,[],[],(fun _ v _=>v=(vi ((k:Nat):Int)))),(25,[],[5,6],(fun _ v _=>v=(ve (vs l e.length m) ((((k:Nat):Int)).toNat*1)))),(26,[],[5,6,7],(fun _ v _=>v=(v8 ((e.getD k 0).toNat:Int)))),(27,[],[1,2,3,4,5,6,7,8],(fun _ v _=>v=(v8 (((d.getD k 0)^^^(e.getD k 0)).toNat:Int)))),(28,[],[1,2,3,4,5,6,7,8,9],(fun _ v _=>v=(vi (((d.getD k 0)^^^(e.getD k 0)).toNat:Int))))]:GV) (fun _ o=>Keep B o) [] GU rfl (by kernel_rfl) (by kernel_rfl) ?_ (fun _ _ h=>h) (fun _ _ _ _ h _ k=>h.trans k) trivial ?_ ?_ ?_
  ·exact ⟨hV,hE,⟨hV,hE,⟨hV,hE,⟨hV,hE,⟨hV,hE,⟨hV,hE,⟨hV,hE,⟨hV,hE,⟨hV,hE,⟨hV,hE,⟨hV,hE,trivial⟩⟩⟩⟩⟩⟩⟩⟩⟩⟩⟩
  ·exact trivial
  ·refine ⟨?_,⟨?_,⟨?_,⟨?_,⟨?_,⟨?_,⟨?_,⟨?_,⟨?_,⟨?_,⟨?_,trivial⟩⟩⟩⟩⟩⟩⟩⟩⟩⟩⟩
   ·intro _ g aa _
    rintro _ _ _ _ _ _ _ _ _ _ _
    refine sw<|mw (vi (orX d e k)) ?_
    exact f1
   ·intro _ g ab _
    rintro _ _ _ _ _ _ _ _ _ _ _
    refine sw<|mw (vs i d.length j) ?_
    exact f1
   ·intro _ g ac _
    rintro _ _ _ _ _ _ _ _ _ _ _
    refine sw<|mw (vi ((k:Nat):Int)) ?_
    exact f1
   ·intro _ g I _
    have J:=p.extk I
    rintro _ _ rfl _ rfl _ _ _ _ _ _ _ _
    refine sw<|ix wN ((k:Nat):Int) tD (s.from0 J) ?_
    exact f1
   ·intro _ g K _
    have L:=p.extk K
    rintro _ _ rfl _ rfl _ rfl _ _ _ _ _ _ _
    refine sw<|eb (x:=d) k wN HI (s.from0 L) ?_
    exact f1
   ·intro _ g ad _
    rintro _ _ _ _ _ _ _ _ _ _ _
    refine sw<|mw (vs l e.length m) ?_
    exact f1
   ·intro _ g ae _
    rintro _ _ _ _ _ _ _ _ _ _ _
    refine sw<|mw (vi ((k:Nat):Int)) ?_
    exact f1
   ·intro _ g M _
    have N:=p.extk M
    rintro _ _ _ _ _ _ rfl _ rfl _ _ _ _
    refine sw<|ix wN ((k:Nat):Int) tD (t.from0 N) ?_
    exact f1
   ·intro _ g O _
    have P:=p.extk O
    rintro _ _ _ _ _ _ rfl _ rfl _ rfl _ _ _
    refine sw<|eb (x:=e) k wN HI (t.from0 P) ?_
    exact f1
   ·intro _ g af _
    rintro _
    iterate 8 rintro _ rfl
    intro _ _
    refine sw<|Kj (d.getD k 0) (e.getD k 0) wN rfl rfl (by kernel_rfl) ?_
    exact f1
   ·intro _ g ah _
    rintro _
    iterate 9 rintro _ rfl
    intro _
    refine sw<|ar (((d.getD k 0)^^^(e.getD k 0)).toNat:Int) wN ?_
    exact f1
  ·intro _ g C
   have Q:=p.extk C
   iterate 11 rintro _ rfl
   refine sw<|NY (orX d e k) (((d.getD k 0)^^^(e.getD k 0)).toNat:Int) wN rfl rfl (by kernel_rfl) (by omega) (by omega) (by omega) (by omega) ?_
   have ai:=MP (a:=(orX d e k)) (b:=(((d.getD k 0)^^^(e.getD k 0)).toNat:Int)) (by omega) (by omega)
   refine aw (vi (orI (orX d e k) (((d.getD k 0)^^^(e.getD k 0)).toNat:Int))) ?_
   refine uD<|uB<|rg<|uG ?_
   refine mw (vi ((k:Nat):Int)) ?_
   refine ar (((k:Nat):Int)+1) wN ?_
   refine aw (vi (((k:Nat):Int)+1)) ?_
   refine uD<|FX (w0:=B) [(0,(vs i d.length j)),(1,(vs l e.length m)),(4,(vi 0)),(5,(vi (orX d e (k+1)))),(6,(vi (((k+1):Nat):Int)))] ?_ ?_ ?_
   · exact ⟨rfl,rfl,rfl,(cA (Value.int .i64) (show ((orI (orX d e k) (((d.getD k 0)^^^(e.getD k 0)).toNat:Int)):Int)=(orX d e (k+1)) by rfl)),(cA (Value.int .i64) (show ((((k:Nat):Int)+1):Int)=(((k+1):Nat):Int) by omega)),trivial⟩
   · exact fun u=>⟨(k+1),u,rfl,Q,(((Ch.refl (fun k=>f.heap.size≤k) f).ext G (fun k hk=>hk)).extk C),(by omega)⟩
   · show d.length - ((((k+1):Nat):Int)).toNat < d.length - (((k:Nat):Int)).toNat;omega

def II (a:List UInt8) (b:List UInt8):(Bool):=bif (decide ((a.length:Int)=16)) then (decide ((Ij a b)=0)) else (false)
theorem QS (e:World) (h:Value) (a:List UInt8) (o:HP e h a) (i:Value) (d:List UInt8) (p:HP e i d) :Fn Tryz.prog 111 #[h,i] e (fun v j=>Keep e j∧O_4 j e.heap.size v (II a d)):=by
 obtain ⟨f,g,rfl,k,q⟩:=o
 obtain ⟨l,m,rfl,r,s⟩:=p
 refine FI (n:=14) [(vs f a.length g),(vs l d.length m)] Tryz.func111 rfl rfl ?_
 refine sr<|aw (vb false) ?_
 refine nx<|mw (vs f a.length g) ?_
 refine ln wN tD k ?_
 refine pu (vb (decide ((a.length:Int)=16))) wN ?_
 refine mw (vb (decide ((a.length:Int)=16))) ?_
 rcases bf (decide ((a.length:Int)=16)) with b|b
 ·have w:=dF b
  iterate 4 refine sk b ?_
  refine pf (vb false) wN b ?_
  refine aw (vb false) ?_
  refine n3<|rt (vb false) ?_
  refine ⟨Ch.refl _ _,?_⟩
  simp only [II,b,cond_true,cond_false]
  exact rfl
 have x:=dT b
 refine mv (vs f a.length g) (wS b) ?_
 refine mv (vs l d.length m) (wS b) ?_
 refine cl (wS b) (Ut e _ a (FV k q) _ d (FV r s)) ?_
 rintro _ y ⟨t,rfl⟩
 have u:=(Ch.base e).extk t
 refine pu (vb (decide ((Ij a d)=0))) (wS b) ?_
 refine pk (vb (decide ((Ij a d)=0))) wN b ?_
 refine aw (vb (decide ((Ij a d)=0))) ?_
 refine n3<|rt (vb (decide ((Ij a d)=0))) ?_
 refine ⟨u.keep0,?_⟩
 simp only [II,b,cond_true,cond_false]
 exact rfl

theorem QU (f:World) (p:Value) (d:List UInt8) (H:HP f p d) (q:Value) (a:List UInt8) (I:HP f q a) (b:Int) :Fn Tryz.prog 156 #[p,q,(vi b)] f (fun v r=>Keep f r∧JF r f.heap.size v (Jl d a b)):=by
 obtain ⟨l,m,rfl,J,K⟩:=H
 obtain ⟨i,j,rfl,s,ah⟩:=I
 refine FI (n:=23) [(vs l d.length m),(vs i a.length j),(vi b)] Tryz.func156 rfl rfl ?_
 refine sr<|aw (vs none 0 0) ?_
 refine n4<|jT1 [(0,(vs l d.length m)),(1,(vs i a.length j)),(2,(vi b)),(6,(vs none 0 0))] (Jl d a b=[]) ?_ fun t=>?_
 ·intro L M u ai
  refine sr<|Gc wN rfl rfl tD (fun w=>by kernel_rfl) ?_
  intro x N O P
  have Q:=((Ch.base f).extk u).extk O
  refine aw (vs (some x) 0 0) ?_
  refine n1<|rt (vs (some x) 0 0) ?_
  refine ⟨Q.keep0,?_⟩
  rw [L]
  exact ⟨_,_,rfl,(tA P u.size),(by simp),⟨trivial,trivial⟩⟩
 refine mw (vi b) ?_
 refine cl wN (HO f b 0 6) ?_
 rintro _ M ⟨g,rfl⟩
 have y:=(Ch.base f).extk g
 refine pu (vb (!(FP b 0 6))) wN ?_
 refine mw (vb (!(FP b 0 6))) ?_
 rcases bf (FP b 0 6) with e|e
 ·have aj:=Gp e
  iterate 3 refine sk (cA not e) ?_
  refine pk (vb true) wN (cA not e) ?_
  refine n2<|ct T1 ?_
  have R:Jl d a b=[]:=by first|exact Kq (by omega)|exact Kp (by omega) (by omega) (by omega) (by simp [uN])
  exact wj (t R _ g)
 have ak:=FZ e
 refine mv (vs i a.length j) (wS (cA not e)) ?_
 refine ln (wS (cA not e)) tD (s.from0 y) ?_
 refine pu (vb (decide (100 < (a.length:Int)))) (wS (cA not e)) ?_
 refine pf (vb (decide (100 < (a.length:Int)))) wN (cA not e) ?_
 refine n2 ?_
 rcases bt (decide (100 < (a.length:Int))) with h|h
 ·have am:=dT h
  refine ct h ?_
  have S:Jl d a b=[]:=by first|exact Kq (by omega)|exact Kp (by omega) (by omega) (by omega) (by simp [uN])
  exact wj (t S _ g)
 have an:=dF h
 refine cf h<|y1<|mw (vs l d.length m) ?_
 refine ltB ([115]:List UInt8) wN tD ?_
 intro ao ap N o A
 have B:=y.extk o
 refine mw (vs i a.length j) ?_
 refine apB ([115]:List UInt8) a wN tD A (s.from0 B) o.size ?_
 intro aq au T C V av W
 have X:=B.ext C (fun k hk=>nT g.size (uI A k hk).1)
 refine mw (vi b) ?_
 refine cl wN (MC T _ (([115]:List UInt8)++a) (FV (Rd.of_own V) W) b 4 (by first|omega|(simp;done)|(simp;omega)|(simp only [List.length_append,List.length_cons,List.length_nil] at *;omega))) ?_
 rintro _ Y ⟨D,⟨ax,ay,rfl,Z,aa,az⟩⟩
 have E:=X.extk D
 have a0:=Iq (([115]:List UInt8)++a) b 4
 refine cl wN (SS Y _ d (FV (J.from0 E) K) _ (HE (([115]:List UInt8)++a) b 4) (FV (Rd.of_own Z) aa)) ?_
 rintro _ a1 ⟨ab,⟨F,G,rfl,ac,ad,a2⟩⟩
 have ae:=E.extk ab
 have a3:=Km d (HE (([115]:List UInt8)++a) b 4)
 refine aw (vs F (Iu d (HE (([115]:List UInt8)++a) b 4)).length G) ?_
 refine n3<|rt (vs F (Iu d (HE (([115]:List UInt8)++a) b 4)).length G) ?_
 refine ⟨ae.keep0,?_⟩
 have af:Jl d a b=(Iu d (HE (([115]:List UInt8)++a) b 4)):=by first|exact Kq (by omega)|exact Kp (by omega) (by omega) (by omega) (by simp [uN])
 rw [af]
 exact ⟨_,_,rfl,(tA ac (z4 g o C D)),ad,⟨trivial,trivial⟩⟩
end Go.Proofs.YtacoceibbheccaaGreat.K
