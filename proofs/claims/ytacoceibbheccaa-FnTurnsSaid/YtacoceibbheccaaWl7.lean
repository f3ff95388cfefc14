import Derived.Test.YtacoceibbheccaaCore
import Derived.Test.YtacoceibbheccaaProg
import Derived.Test.YtacoceibbheccaaHeld
import Derived.Test.YtacoceibbheccaaFun
import Derived.Test.YtacoceibbheccaaFunZ
import Derived.Test.YtacoceibbheccaaSqz
import Derived.Test.YtacoceibbheccaaHash
import Derived.Test.YtacoceibbheccaaCur
import Derived.Test.YtacoceibbheccaaDrawW
import Derived.Test.YtacoceibbheccaaAead
import Derived.Test.YtacoceibbheccaaWl6
namespace Go.Proofs.Ytacoceibbheccaa.K
open Go.RowKit
set_option linter.unusedVariables false
set_option linter.unusedSimpArgs false
set_option maxRecDepth 100000
set_option maxHeartbeats 4000000
def l_at (a:List UInt8) (b:Int):(Int):=bif (decide (b < (a.length:Int))) then (((a.getD (b).toNat 0).toNat:Int)) else ((((b*31)+((a.length:Int)*7)) % 256))
theorem clat (e:World) (i:Value) (b:List UInt8) (k:R_22 e i b) (a:Int) (l:0≤a∧a≤1000):Fn Try.prog 14 #[i,(vi a)] e (fun v j=>Keep e j∧O_3 j e.heap.size v (l_at b a)):=by
 obtain ⟨f,g,rfl,h,m⟩:=k
 refine fn_ofS (n:=21) [(vs f b.length g),(vi a)] Try.func14 rfl rfl ?_
 have o:(b.getD a.toNat 0).toNat < 256:=UInt8.toNat_lt _
 refine sr ?_
 refine aw (vi 0) ?_
 refine n4 ?_
 refine mw (vi a) ?_
 refine mw (vs f b.length g) ?_
 refine ln wN slTy_22 h ?_
 refine pu (vb (decide (a < (b.length:Int)))) wN ?_
 refine n2 ?_
 rcases bt (decide (a < (b.length:Int))) with d|d
 ·have p:=dT d
  refine ct d ?_
  refine sr ?_
  refine mw (vs f b.length g) ?_
  refine mw (vi a) ?_
  refine ix wN a slTy_22 h ?_
  refine eb (x:=b) ((a).toNat) wN isAgg_5 h ?_
  refine ar ((b.getD (a).toNat 0).toNat:Int) wN ?_
  refine aw (vi ((b.getD (a).toNat 0).toNat:Int)) ?_
  refine n1 ?_
  refine rt (vi ((b.getD (a).toNat 0).toNat:Int)) ?_
  refine ⟨Ch.refl _ _,?_⟩
  simp only [l_at,d,cond_true,cond_false]
  exact rfl
 have q:=dF d
 refine cf d ?_
 refine y1 ?_
 refine mw (vi a) ?_
 refine ar (a*31) wN ?_
 refine mw (vs f b.length g) ?_
 refine ln wN slTy_22 h ?_
 refine ar ((b.length:Int)*7) wN ?_
 refine ar ((a*31)+((b.length:Int)*7)) wN ?_
 refine wl_rem ((a*31)+((b.length:Int)*7)) 256 wN rfl rfl (by kernel_rfl) (by first|omega|assumption) ?_
 refine aw (vi (((a*31)+((b.length:Int)*7)) % 256)) ?_
 refine n3 ?_
 refine rt (vi (((a*31)+((b.length:Int)*7)) % 256)) ?_
 refine ⟨Ch.refl _ _,?_⟩
 simp only [l_at,d,cond_true,cond_false]
 exact rfl
theorem at_b (x:List UInt8) (i:Int):0≤l_at x i∧l_at x i≤255:=by
  have a:(x.getD i.toNat 0).toNat < 256:=UInt8.toNat_lt _
  simp only [l_at,cond_eq_ite]
  split <;> omega

def i_Oldest (a:PChan):(Int):=bif (i_ChanOk a) then (bif a.HasOld then (a.Old.N) else (a.Cur.N)) else ((-1))
theorem ciOldest (e:World) (x:Value) (a:PChan) (C:R_30 e x a) :Fn Try.prog 20 #[x] e (fun v y=>Keep e y∧O_3 y e.heap.size v (i_Oldest a)):=by
 obtain ⟨h,i,j,k,l,m,o,p,q,r,s,t,rfl,D,E,F,G,H,I,J,K,L,M,O,P⟩:=C
 refine fn_ofS (n:=14) [(va (L_30 a h i j k l m o p q r s t))] Try.func20 rfl rfl ?_
 refine sr ?_
 refine bx (L_30 a h i j k l m o p q r s t) wN ?_
 intro f Q S T R A
 have b:=(Ch.base e).extk R
 refine aw (vi 0) ?_
 refine n4 ?_
 refine lN (L_30 a h i j k l m o p q r s t) wN isAgg_30 sizeOf_30 A ?_
 refine cl wN (ciChanOk Q _ a (mR_30 (D.from0 b) E (F.from0 b) G (H.from0 b) I (J.from0 b) K (L.from0 b) M (O.from0 b) P)) ?_
 rintro _ V ⟨B,rfl⟩
 have u:=b.extk B
 refine pu (vb (!(i_ChanOk a))) wN ?_
 refine n2 ?_
 rcases bf (i_ChanOk a) with d|d
 ·refine ct (cA not d) ?_
  refine sr ?_
  refine aw (vi (-1)) ?_
  refine n1 ?_
  refine rt (vi (-1)) ?_
  refine ⟨u.keep0,?_⟩
  simp only [i_Oldest,d,cond_true,cond_false]
  exact rfl
 have W:=impl_ChanOk_t d
 refine cf (cA not d) ?_
 refine y2 ?_
 refine pu (vp f 12) wN ?_
 have w:=(A.kp B)
 refine ld (vb a.HasOld) wN isAgg_4 w ?_
 refine n2 ?_
 rcases bt a.HasOld with g|g
 ·refine ct g ?_
  refine sr ?_
  refine pu (vp f 7) wN ?_
  refine pu (vp f 7) wN ?_
  refine ld (vi a.Old.N) wN isAgg_3 w ?_
  refine aw (vi a.Old.N) ?_
  refine n1 ?_
  refine rt (vi a.Old.N) ?_
  refine ⟨u.keep0,?_⟩
  simp only [i_Oldest,d,g,cond_true,cond_false]
  exact rfl
 refine cf g ?_
 refine y1 ?_
 refine pu (vp f 2) wN ?_
 refine pu (vp f 2) wN ?_
 refine ld (vi a.Cur.N) wN isAgg_3 w ?_
 refine aw (vi a.Cur.N) ?_
 refine n3 ?_
 refine rt (vi a.Cur.N) ?_
 refine ⟨u.keep0,?_⟩
 simp only [i_Oldest,d,g,cond_true,cond_false]
 exact rfl
end Go.Proofs.Ytacoceibbheccaa.K
