import Derived.Test.YtacoceibbheccaaCore
import Derived.Test.YtacoceibbheccaaProg
import Derived.Test.YtacoceibbheccaaHeld
import Derived.Test.YtacoceibbheccaaFun
import Derived.Test.YtacoceibbheccaaFunZ
import Derived.Test.YtacoceibbheccaaSqz
import Derived.Test.YtacoceibbheccaaHash
import Derived.Test.YtacoceibbheccaaCur
import Derived.Test.YtacoceibbheccaaDrawW
import Derived.Test.YtacoceibbheccaaCurZ
import Derived.Test.YtacoceibbheccaaAead
import Derived.Test.YtacoceibbheccaaWm1
namespace Go.Proofs.Ytacoceibbheccaa.K
open Go.RowKit
set_option linter.unusedVariables false
set_option linter.unusedSimpArgs false
set_option maxRecDepth 100000
set_option maxHeartbeats 4000000
theorem shaI (b:List UInt8) (h:b.length≤1048576):i_HashEnd (i_HashAdd i_HashNew b)=sha b:=by
  have a:i_HashOk i_HashNew=true:=rfl
  have hA:i_HashAdd i_HashNew b={H:=(compAll k0 b).1,Held:=(compAll k0 b).2,N:=(b.length:Int):PHash}:=by
    have d:decide (1048576 - i_HashNew.N < (b.length:Int))=false:=decide_eq_false (by show ¬ (1048576 - 0 < (b.length:Int));omega)
    simp only [i_HashAdd,a,d,cond_true,cond_false]
    simp [i_HashNew,joinB,i_clone]
  have hO:i_HashOk {H:=(compAll k0 b).1,Held:=(compAll k0 b).2,N:=(b.length:Int):PHash}=true:=by
    have hw:areW (compAll k0 b).1 8=true:=foldK_w k0_w _
    have hl:(compAll k0 b).2.length=b.length - 64*(b.length / 64):=List.length_drop
    simp only [i_HashOk,hw,hl,i_within,cond_true,cond_eq_ite]
    (repeat' split) <;> first|rfl|(exfalso;simp_all;done)|(rw [decide_eq_true_eq];omega)|(exfalso;simp at *;omega)
  rw [hA,sha_parts h]
  have hp:padP (b.length:Int)=pad b.length:=padP_eq (by omega) (by omega)
  simp only [i_HashEnd,hO,cond_true,hp]
  simp [joinB]
theorem ciSha (b:World) (g:Value) (a:List UInt8) (p:R_22 b g a) :Fn Try.prog 36 #[g] b (fun v h=>Keep b h∧O_22 h b.heap.size v (sha a)):=by
 obtain ⟨e,f,rfl,i,q⟩:=p
 refine fn_ofS (n:=10) [(vs e a.length f)] Try.func36 rfl rfl ?_
 refine sr ?_
 refine aw (vs none 0 0) ?_
 refine n4 ?_
 refine mw (vs e a.length f) ?_
 refine ln wN slTy_22 i ?_
 refine pu (vb (decide (1048576 < (a.length:Int)))) wN ?_
 refine n2 ?_
 rcases bt (decide (1048576 < (a.length:Int))) with d|d
 ·have J:=dT d
  refine ct d ?_
  refine sr ?_
  refine aw (vs none 0 0) ?_
  refine n1 ?_
  refine rt (vs none 0 0) ?_
  refine ⟨Ch.refl _ _,?_⟩
  have r:sha a=[]:=by first|exact sha_f (by omega)|exact (shaI a (by omega)).symm
  rw [r]
  exact ⟨_,_,rfl,(by first|exact own_nil _ _ _ _|exact OLv.nil _ _ _ _),(by simp),⟨trivial,trivial⟩⟩
 have K:=dF d
 refine cf d ?_
 refine y1 ?_
 refine cl wN (ciHashNew b ) ?_
 rintro _ s ⟨j,⟨L,M,N,O,rfl,t,u,w,x,P⟩⟩
 have k:=(Ch.base b).extk j
 refine mw (vs e a.length f) ?_
 refine cl wN (ciHashAdd s _ (i_HashNew) (mR_91 (Rd.of_own t) u (Rd.of_own w) x) _ a (mR_22 (i.from0 k) q)) ?_
 rintro _ y ⟨l,⟨Q,R,S,T,rfl,A,B,C,D,V⟩⟩
 refine cl wN (ciHashEnd y _ (i_HashAdd (i_HashNew) a) (mR_91 (Rd.of_own A) B (Rd.of_own C) D)) ?_
 rintro _ W ⟨E,⟨m,o,rfl,F,G,X⟩⟩
 have H:=(k.extk l).extk E
 refine aw (vs m (i_HashEnd (i_HashAdd (i_HashNew) a)).length o) ?_
 refine n3 ?_
 refine rt (vs m (i_HashEnd (i_HashAdd (i_HashNew) a)).length o) ?_
 refine ⟨H.keep0,?_⟩
 have I:sha a=(i_HashEnd (i_HashAdd (i_HashNew) a)):=by first|exact sha_f (by omega)|exact (shaI a (by omega)).symm
 rw [I]
 exact ⟨_,_,rfl,(own_lo F (z2 j l)),G,⟨trivial,trivial⟩⟩

def i_isRole (a:Int):(Bool):=bif (decide (a=0)) then (true) else (decide (a=1))
theorem ciisRole (d:World) (a:Int) :Fn Try.prog 41 #[(vi a)] d (fun v e=>Keep d e∧O_4 e d.heap.size v (i_isRole a)):=by
 refine fn_ofS (n:=9) [(vi a)] Try.func41 rfl rfl ?_
 refine sr ?_
 refine aw (vb false) ?_
 refine nx ?_
 refine mw (vi a) ?_
 refine pu (vb (decide (a=0))) wN ?_
 refine mw (vb (decide (a=0))) ?_
 rcases bt (decide (a=0)) with b|b
 ·have f:=dT b
  iterate 2 refine sk b ?_
  refine pk (vb true) wN b ?_
  refine aw (vb true) ?_
  refine n3 ?_
  refine rt (vb true) ?_
  refine ⟨Ch.refl _ _,?_⟩
  simp only [i_isRole,b,cond_true,cond_false]
  exact rfl
 have g:=dF b
 refine mv (vi a) (wS b) ?_
 refine pu (vb (decide (a=1))) (wS b) ?_
 refine pf (vb (decide (a=1))) wN b ?_
 refine aw (vb (decide (a=1))) ?_
 refine n3 ?_
 refine rt (vb (decide (a=1))) ?_
 refine ⟨Ch.refl _ _,?_⟩
 simp only [i_isRole,b,cond_true,cond_false]
 exact rfl
theorem isRole_t {n:Int} (h:i_isRole n=true):n=0∨n=1:=by
  by_cases h0:n=0
  · exact .inl h0
  · simp [i_isRole,h0] at h;exact .inr h
theorem isRole_f {n:Int} (h:i_isRole n=false):¬ n=0∧¬ n=1:=by
  by_cases h0:n=0 <;> by_cases h1:n=1 <;> simp [i_isRole,h0,h1] at h
  exact ⟨h0,h1⟩

def i_isNonce (a:List UInt8):(Bool):=decide ((a.length:Int)=12)
theorem ciisNonce (b:World) (d:Value) (a:List UInt8) (h:R_22 b d a) :Fn Try.prog 42 #[d] b (fun v e=>Keep b e∧O_4 e b.heap.size v (i_isNonce a)):=by
 obtain ⟨f,g,rfl,i,k⟩:=h
 refine fn_ofS (n:=6) [(vs f a.length g)] Try.func42 rfl rfl ?_
 refine sr ?_
 refine aw (vb false) ?_
 refine nx ?_
 refine mw (vs f a.length g) ?_
 refine ln wN slTy_22 i ?_
 refine pu (vb (decide ((a.length:Int)=12))) wN ?_
 refine aw (vb (decide ((a.length:Int)=12))) ?_
 refine n3 ?_
 refine rt (vb (decide ((a.length:Int)=12))) ?_
 refine ⟨Ch.refl _ _,?_⟩
 have j:i_isNonce a=decide ((a.length:Int)=12):=by rfl
 rw [j]
 exact rfl
theorem isNonce_t {b:List UInt8} (h:i_isNonce b=true):(b.length:Int)=12:=dT h
theorem isNonce_f {b:List UInt8} (h:i_isNonce b=false):¬ (b.length:Int)=12:=dF h

theorem zero_26:∀ w,(zeroValue 26).run Try.prog w=.ok (va [(vi 0),(vs none 0 0)]) w:=fun w=>by kernel_rfl
theorem sizeOf_26:∀ w,(sizeOf 26).run Try.prog w=.ok 2 w:=fun w=>by kernel_rfl
theorem isAgg_26:∀ w,(isAgg 26).run Try.prog w=.ok true w:=fun w=>by kernel_rfl
def O_26 (w:World) (lo:Nat) (v:Value) (x:(PWin)):Prop:=∃ (a:Option Addr) (b:Nat),v=.agg #[.int .i64 x.Top,.slice a x.Bits.length b]∧w.ownsRow lo 3 1 (.slice a x.Bits.length b) x.Bits.length (x.Bits.map iV)∧x.Bits.length≤1073741824∧Aps [(a,b)]
def i_WinNew :(PWin):={Top:=(-1),Bits:=(List.replicate 32 (0:Int)):PWin}
theorem ciWinNew (a:World)  :Fn Try.prog 53 #[] a (fun v e=>Keep a e∧O_26 e a.heap.size v (i_WinNew)):=by
 refine fn_ofS (n:=3) [] Try.func53 rfl rfl ?_
 refine sr ?_
 refine al [(vi 0),(vs none 0 0)] wN zero_26 ?_
 intro t u j l f m
 refine nx ?_
 refine wl_makeI (32) wN rfl rfl rfl slTy_24 32 rfl (by omega) (by first|(simp only [List.length_append,List.length_cons,List.length_nil,List.length_replicate,List.length_take,List.length_drop];omega)|omega) (by first|(simp only [List.length_append,List.length_cons,List.length_nil,List.length_replicate,List.length_take,List.length_drop];omega)|omega) ?_
 intro b d w g h
 refine pu (va [(vi (-1)),(vs b (List.replicate 32 (0:Int)).length d)]) wN ?_
 have o:=(m.kp g)
 refine sv [(vi (-1)),(vs b (List.replicate 32 (0:Int)).length d)] wN sizeOf_26 o ?_
 intro x i p y
 have q:=(((Ch.base a).extk f).extk g).ext i (fun k hk=>by subst hk;exact j)
 refine n3 ?_
 have r:=(own_ch h i (ne1 h (l)))
 refine ret_1 (.inl rfl) (va [(vi (-1)),(vs b (List.replicate 32 (0:Int)).length d)]) rfl (rv_c [(vi (-1)),(vs b (List.replicate 32 (0:Int)).length d)] rfl p isAgg_26 sizeOf_26) ?_
 refine ⟨q.keep0,?_⟩
 have s:i_WinNew={Top:=(-1),Bits:=(List.replicate 32 (0:Int)):PWin}:=by rfl
 rw [s]
 exact ⟨_,_,rfl,(own_lo r f.size),(by rw [List.length_replicate];first|assumption|omega),⟨trivial,trivial⟩⟩

abbrev Z_28:List Value:=[(vi 0),(vs none 0 0),(vi 0),(vi 0),(vs none 0 0)]
theorem zero_28:∀ w,(zeroValue 28).run Try.prog w=.ok (va Z_28) w:=fun w=>by kernel_rfl
theorem sizeOf_28:∀ w,(sizeOf 28).run Try.prog w=.ok 5 w:=fun w=>by kernel_rfl
theorem isAgg_28:∀ w,(isAgg 28).run Try.prog w=.ok true w:=fun w=>by kernel_rfl
def O_28 (w:World) (lo:Nat) (v:Value) (x:(PEp)):Prop:=∃ (a:Option Addr) (b:Nat) (d:Option Addr) (e:Nat),v=.agg #[.int .i64 x.N,.slice a x.Key.length b,.int .i64 x.Seq,.int .i64 x.Win.Top,.slice d x.Win.Bits.length e]∧w.ownsRow lo 5 1 (.slice a x.Key.length b) x.Key.length (x.Key.map bV)∧x.Key.length≤1073741824∧w.ownsRow lo 3 1 (.slice d x.Win.Bits.length e) x.Win.Bits.length (x.Win.Bits.map iV)∧x.Win.Bits.length≤1073741824∧Aps [(a,b),(d,e)]
def i_EpNew (a:Int) (b:List UInt8):(PEp):=bif (i_within a 0 4294967295) then (bif (decide ((b.length:Int)=32)) then ({N:=a,Key:=(b),Seq:=0,Win:=(i_WinNew):PEp}) else ({N:=0,Key:=[],Seq:=0,Win:={Top:=0,Bits:=[]:PWin}:PEp})) else ({N:=0,Key:=[],Seq:=0,Win:={Top:=0,Bits:=[]:PWin}:PEp})
theorem ciEpNew (g:World) (a:Int) (y:Value) (b:List UInt8) (J:R_22 g y b) :Fn Try.prog 30 #[(vi a),y] g (fun v A=>Keep g A∧O_28 A g.heap.size v (i_EpNew a b)):=by
 obtain ⟨h,i,rfl,B,K⟩:=J
 refine fn_ofS (n:=19) [(vi a),(vs h b.length i)] Try.func30 rfl rfl ?_
 refine sr ?_
 refine al Z_28 wN zero_28 ?_
 intro L M C D q E
 have F:=(Ch.base g).extk q
 refine n4 ?_
 refine jT1 [(0,(vi a)),(1,(vs h b.length i)),(4,(vp L 0))] (i_EpNew a b={N:=0,Key:=[],Seq:=0,Win:={Top:=0,Bits:=[]:PWin}:PEp}) ?_ fun G=>?_
 ·intro O H I ad
  refine sr ?_
  refine pu (va Z_28) wN ?_
  have P:=(E.kp I)
  refine sv Z_28 wN sizeOf_28 P ?_
  intro r Q R ae
  have S:=(F.extk I).ext Q (fun k hk=>by subst hk;exact C)
  refine n1 ?_
  refine ret_1 (.inl rfl) (va Z_28) rfl (rv_c Z_28 rfl R isAgg_28 sizeOf_28) ?_
  refine ⟨S.keep0,?_⟩
  rw [O]
  exact ⟨_,_,_,_,rfl,(by first|exact own_nil _ _ _ _|exact OLv.nil _ _ _ _),(by simp),(by first|exact own_nil _ _ _ _|exact OLv.nil _ _ _ _),(by simp),⟨⟨(Ap.nl _),trivial⟩,⟨trivial,trivial⟩⟩⟩
 refine mw (vi a) ?_
 refine cl wN (ciwithin M a 0 4294967295) ?_
 rintro _ H ⟨e,rfl⟩
 have s:=F.extk e
 refine pu (vb (!(i_within a 0 4294967295))) wN ?_
 refine mw (vb (!(i_within a 0 4294967295))) ?_
 rcases bf (i_within a 0 4294967295) with d|d
 ·have af:=impl_within_f d
  iterate 3 refine sk (cA not d) ?_
  refine pk (vb true) wN (cA not d) ?_
  refine n2 ?_
  refine ct (Eq.refl true) ?_
  have T:i_EpNew a b={N:=0,Key:=[],Seq:=0,Win:={Top:=0,Bits:=[]:PWin}:PEp}:=by simp only [i_EpNew,d,cond_true,cond_false]
  exact wj (G T _ e)
 have ah:=impl_within_t d
 refine mv (vs h b.length i) (wS (cA not d)) ?_
 refine ln (wS (cA not d)) slTy_22 (B.from0 s) ?_
 refine pu (vb (!(decide ((b.length:Int)=32)))) (wS (cA not d)) ?_
 refine pf (vb (!(decide ((b.length:Int)=32)))) wN (cA not d) ?_
 refine n2 ?_
 rcases bf (decide ((b.length:Int)=32)) with f|f
 ·have ai:=dF f
  refine ct (cA not f) ?_
  have V:i_EpNew a b={N:=0,Key:=[],Seq:=0,Win:={Top:=0,Bits:=[]:PWin}:PEp}:=by simp only [i_EpNew,d,f,cond_true,cond_false]
  exact wj (G V _ e)
 have aj:=dT f
 refine cf (cA not f) ?_
 refine y1 ?_
 refine mw (vi a) ?_
 refine mw (vs h b.length i) ?_
 refine cl wN (ciclone H _ b (mR_22 (B.from0 s) K)) ?_
 rintro _ r ⟨j,⟨l,m,rfl,t,W,ak⟩⟩
 refine cl wN (ciWinNew r ) ?_
 rintro _ am ⟨u,⟨o,p,rfl,w,X,an⟩⟩
 refine pu (va [(vi a),(vs l (b).length m),(vi 0),(vi ((i_WinNew).Top)),(vs o ((i_WinNew).Bits).length p)]) wN ?_
 have Y:=(((E.kp e).kp j).kp u)
 refine sv [(vi a),(vs l (b).length m),(vi 0),(vi ((i_WinNew).Top)),(vs o ((i_WinNew).Bits).length p)] wN sizeOf_28 Y ?_
 intro ao x Z ap
 have aa:=((s.extk j).extk u).ext x (fun k hk=>by subst hk;exact C)
 refine n3 ?_
 have ab:=(own_ch (own_kp t u) x (ne1 t (nL D e.size)))
 have ac:=(own_ch w x (ne1 w (nL D (z2 e j))))
 refine ret_1 (.inl rfl) (va [(vi a),(vs l (b).length m),(vi 0),(vi ((i_WinNew).Top)),(vs o ((i_WinNew).Bits).length p)]) rfl (rv_c [(vi a),(vs l (b).length m),(vi 0),(vi ((i_WinNew).Top)),(vs o ((i_WinNew).Bits).length p)] rfl Z isAgg_28 sizeOf_28) ?_
 refine ⟨aa.keep0,?_⟩
 simp only [i_EpNew,d,f,cond_true,cond_false]
 exact ⟨_,_,_,_,rfl,(own_lo ab (z2 q e)),W,(own_lo ac (z3 q e j)),X,⟨⟨(Ap.lt t w (Nat.le_refl r.heap.size)),trivial⟩,⟨trivial,trivial⟩⟩⟩

abbrev Z_30:List Value:=[(vi 0),(vs none 0 0),(vi 0),(vs none 0 0),(vi 0),(vi 0),(vs none 0 0),(vi 0),(vs none 0 0),(vi 0),(vi 0),(vs none 0 0),(vb false),(vi 0),(vs none 0 0)]
theorem zero_30:∀ w,(zeroValue 30).run Try.prog w=.ok (va Z_30) w:=fun w=>by kernel_rfl
theorem sizeOf_30:∀ w,(sizeOf 30).run Try.prog w=.ok 15 w:=fun w=>by kernel_rfl
theorem isAgg_30:∀ w,(isAgg 30).run Try.prog w=.ok true w:=fun w=>by kernel_rfl
def O_30 (w:World) (lo:Nat) (v:Value) (x:(PChan)):Prop:=∃ (a:Option Addr) (b:Nat) (d:Option Addr) (e:Nat) (f:Option Addr) (g:Nat) (h:Option Addr) (i:Nat) (j:Option Addr) (k:Nat) (l:Option Addr) (m:Nat),v=.agg #[.int .i64 x.Role,.slice a x.Sn.length b,.int .i64 x.Cur.N,.slice d x.Cur.Key.length e,.int .i64 x.Cur.Seq,.int .i64 x.Cur.Win.Top,.slice f x.Cur.Win.Bits.length g,.int .i64 x.Old.N,.slice h x.Old.Key.length i,.int .i64 x.Old.Seq,.int .i64 x.Old.Win.Top,.slice j x.Old.Win.Bits.length k,.bool x.HasOld,.int .i64 x.Until,.slice l x.Next.length m]∧w.ownsRow lo 5 1 (.slice a x.Sn.length b) x.Sn.length (x.Sn.map bV)∧x.Sn.length≤1073741824∧w.ownsRow lo 5 1 (.slice d x.Cur.Key.length e) x.Cur.Key.length (x.Cur.Key.map bV)∧x.Cur.Key.length≤1073741824∧w.ownsRow lo 3 1 (.slice f x.Cur.Win.Bits.length g) x.Cur.Win.Bits.length (x.Cur.Win.Bits.map iV)∧x.Cur.Win.Bits.length≤1073741824∧w.ownsRow lo 5 1 (.slice h x.Old.Key.length i) x.Old.Key.length (x.Old.Key.map bV)∧x.Old.Key.length≤1073741824∧w.ownsRow lo 3 1 (.slice j x.Old.Win.Bits.length k) x.Old.Win.Bits.length (x.Old.Win.Bits.map iV)∧x.Old.Win.Bits.length≤1073741824∧w.ownsRow lo 5 1 (.slice l x.Next.length m) x.Next.length (x.Next.map bV)∧x.Next.length≤1073741824∧Aps [(a,b),(d,e),(f,g),(h,i),(j,k),(l,m)]
def i_ChanNew (a:Int) (b:List UInt8) (d:List UInt8):(PChan):=bif (i_isRole a) then (bif (i_isNonce b) then (bif (decide ((d.length:Int)=32)) then ({Role:=a,Sn:=(b),Cur:=(i_EpNew 0 d),Old:={N:=0,Key:=[],Seq:=0,Win:={Top:=0,Bits:=[]:PWin}:PEp},HasOld:=false,Until:=0,Next:=[]:PChan}) else ({Role:=0,Sn:=[],Cur:={N:=0,Key:=[],Seq:=0,Win:={Top:=0,Bits:=[]:PWin}:PEp},Old:={N:=0,Key:=[],Seq:=0,Win:={Top:=0,Bits:=[]:PWin}:PEp},HasOld:=false,Until:=0,Next:=[]:PChan})) else ({Role:=0,Sn:=[],Cur:={N:=0,Key:=[],Seq:=0,Win:={Top:=0,Bits:=[]:PWin}:PEp},Old:={N:=0,Key:=[],Seq:=0,Win:={Top:=0,Bits:=[]:PWin}:PEp},HasOld:=false,Until:=0,Next:=[]:PChan})) else ({Role:=0,Sn:=[],Cur:={N:=0,Key:=[],Seq:=0,Win:={Top:=0,Bits:=[]:PWin}:PEp},Old:={N:=0,Key:=[],Seq:=0,Win:={Top:=0,Bits:=[]:PWin}:PEp},HasOld:=false,Until:=0,Next:=[]:PChan})
theorem ciChanNew (j:World) (d:Int) (J:Value) (b:List UInt8) (Z:R_22 j J b) (K:Value) (a:List UInt8) (aa:R_22 j K a) :Fn Try.prog 37 #[(vi d),J,K] j (fun v L=>Keep j L∧O_30 L j.heap.size v (i_ChanNew d b a)):=by
 obtain ⟨m,o,rfl,M,O⟩:=Z
 obtain ⟨p,q,rfl,P,ab⟩:=aa
 refine fn_ofS (n:=27) [(vi d),(vs m b.length o),(vs p a.length q)] Try.func37 rfl rfl ?_
 refine sr ?_
 refine al Z_30 wN zero_30 ?_
 intro ac ad Q C r R
 have S:=(Ch.base j).extk r
 refine n4 ?_
 refine jT1 [(0,(vi d)),(1,(vs m b.length o)),(2,(vs p a.length q)),(6,(vp ac 0))] (i_ChanNew d b a={Role:=0,Sn:=[],Cur:={N:=0,Key:=[],Seq:=0,Win:={Top:=0,Bits:=[]:PWin}:PEp},Old:={N:=0,Key:=[],Seq:=0,Win:={Top:=0,Bits:=[]:PWin}:PEp},HasOld:=false,Until:=0,Next:=[]:PChan}) ?_ fun D=>?_
 ·intro ae T V a2
  refine sr ?_
  refine pu (va Z_30) wN ?_
  have af:=(R.kp V)
  refine sv Z_30 wN sizeOf_30 af ?_
  intro W ah ai a3
  have aj:=(S.extk V).ext ah (fun k hk=>by subst hk;exact Q)
  refine n1 ?_
  refine ret_1 (.inl rfl) (va Z_30) rfl (rv_c Z_30 rfl ai isAgg_30 sizeOf_30) ?_
  refine ⟨aj.keep0,?_⟩
  rw [ae]
  exact ⟨_,_,_,_,_,_,_,_,_,_,_,_,rfl,(by first|exact own_nil _ _ _ _|exact OLv.nil _ _ _ _),(by simp),(by first|exact own_nil _ _ _ _|exact OLv.nil _ _ _ _),(by simp),(by first|exact own_nil _ _ _ _|exact OLv.nil _ _ _ _),(by simp),(by first|exact own_nil _ _ _ _|exact OLv.nil _ _ _ _),(by simp),(by first|exact own_nil _ _ _ _|exact OLv.nil _ _ _ _),(by simp),(by first|exact own_nil _ _ _ _|exact OLv.nil _ _ _ _),(by simp),⟨⟨(Ap.nl _),⟨(Ap.nl _),⟨(Ap.nl _),⟨(Ap.nl _),⟨(Ap.nl _),trivial⟩⟩⟩⟩⟩,⟨⟨(Ap.nl _),⟨(Ap.nl _),⟨(Ap.nl _),⟨(Ap.nl _),trivial⟩⟩⟩⟩,⟨⟨(Ap.nl _),⟨(Ap.nl _),⟨(Ap.nl _),trivial⟩⟩⟩,⟨⟨(Ap.nl _),⟨(Ap.nl _),trivial⟩⟩,⟨⟨(Ap.nl _),trivial⟩,⟨trivial,trivial⟩⟩⟩⟩⟩⟩⟩
 refine mw (vi d) ?_
 refine cl wN (ciisRole ad d) ?_
 rintro _ T ⟨g,rfl⟩
 have X:=S.extk g
 refine pu (vb (!(i_isRole d))) wN ?_
 refine mw (vb (!(i_isRole d))) ?_
 rcases bf (i_isRole d) with e|e
 ·have a4:=isRole_f e
  iterate 3 refine sk (cA not e) ?_
  refine pk (vb true) wN (cA not e) ?_
  refine mw (vb true) ?_
  iterate 3 refine sk (Eq.refl true) ?_
  refine pk (vb true) wN (Eq.refl true) ?_
  refine n2 ?_
  refine ct (Eq.refl true) ?_
  have ak:i_ChanNew d b a={Role:=0,Sn:=[],Cur:={N:=0,Key:=[],Seq:=0,Win:={Top:=0,Bits:=[]:PWin}:PEp},Old:={N:=0,Key:=[],Seq:=0,Win:={Top:=0,Bits:=[]:PWin}:PEp},HasOld:=false,Until:=0,Next:=[]:PChan}:=by simp only [i_ChanNew,e,cond_true,cond_false]
  exact wj (D ak _ g)
 have a5:=isRole_t e
 refine mv (vs m b.length o) (wS (cA not e)) ?_
 refine cl (wS (cA not e)) (ciisNonce T _ b (mR_22 (M.from0 X) O)) ?_
 rintro _ W ⟨h,rfl⟩
 have E:=X.extk h
 refine pu (vb (!(i_isNonce b))) (wS (cA not e)) ?_
 refine pf (vb (!(i_isNonce b))) wN (cA not e) ?_
 refine mw (vb (!(i_isNonce b))) ?_
 rcases bf (i_isNonce b) with f|f
 ·have a6:=isNonce_f f
  iterate 3 refine sk (cA not f) ?_
  refine pk (vb true) wN (cA not f) ?_
  refine n2 ?_
  refine ct (Eq.refl true) ?_
  have am:i_ChanNew d b a={Role:=0,Sn:=[],Cur:={N:=0,Key:=[],Seq:=0,Win:={Top:=0,Bits:=[]:PWin}:PEp},Old:={N:=0,Key:=[],Seq:=0,Win:={Top:=0,Bits:=[]:PWin}:PEp},HasOld:=false,Until:=0,Next:=[]:PChan}:=by simp only [i_ChanNew,e,f,cond_true,cond_false]
  exact wj (D am _ (g.trans h))
 have a7:=isNonce_t f
 refine mv (vs p a.length q) (wS (cA not f)) ?_
 refine ln (wS (cA not f)) slTy_22 (P.from0 E) ?_
 refine pu (vb (!(decide ((a.length:Int)=32)))) (wS (cA not f)) ?_
 refine pf (vb (!(decide ((a.length:Int)=32)))) wN (cA not f) ?_
 refine n2 ?_
 rcases bf (decide ((a.length:Int)=32)) with i|i
 ·have a8:=dF i
  refine ct (cA not i) ?_
  have an:i_ChanNew d b a={Role:=0,Sn:=[],Cur:={N:=0,Key:=[],Seq:=0,Win:={Top:=0,Bits:=[]:PWin}:PEp},Old:={N:=0,Key:=[],Seq:=0,Win:={Top:=0,Bits:=[]:PWin}:PEp},HasOld:=false,Until:=0,Next:=[]:PChan}:=by simp only [i_ChanNew,e,f,i,cond_true,cond_false]
  exact wj (D an _ (g.trans h))
 have a9:=dT i
 refine cf (cA not i) ?_
 refine y1 ?_
 refine mw (vi d) ?_
 refine mw (vs m b.length o) ?_
 refine cl wN (ciclone W _ b (mR_22 (M.from0 E) O)) ?_
 rintro _ F ⟨l,⟨s,t,rfl,u,ao,aA⟩⟩
 have Y:=E.extk l
 refine mw (vs p a.length q) ?_
 refine cl wN (ciEpNew F 0 _ a (mR_22 (P.from0 Y) ab)) ?_
 rintro _ aB ⟨G,⟨w,x,y,A,rfl,H,ap,I,aq,au⟩⟩
 refine pu (va [(vi d),(vs s (b).length t),(vi ((i_EpNew 0 a).N)),(vs w ((i_EpNew 0 a).Key).length x),(vi ((i_EpNew 0 a).Seq)),(vi (((i_EpNew 0 a).Win).Top)),(vs y (((i_EpNew 0 a).Win).Bits).length A),(vi 0),(vs none 0 0),(vi 0),(vi 0),(vs none 0 0),(vb false),(vi 0),(vs none 0 0)]) wN ?_
 have av:=((((R.kp g).kp h).kp l).kp G)
 refine sv [(vi d),(vs s (b).length t),(vi ((i_EpNew 0 a).N)),(vs w ((i_EpNew 0 a).Key).length x),(vi ((i_EpNew 0 a).Seq)),(vi (((i_EpNew 0 a).Win).Top)),(vs y (((i_EpNew 0 a).Win).Bits).length A),(vi 0),(vs none 0 0),(vi 0),(vi 0),(vs none 0 0),(vb false),(vi 0),(vs none 0 0)] wN sizeOf_30 av ?_
 intro aC B ax aD
 have ay:=(Y.extk G).ext B (fun k hk=>by subst hk;exact Q)
 refine n3 ?_
 have az:=(own_ch (own_kp u G) B (ne1 u (nL C (z2 g h))))
 have a0:=(own_ch H B (ne1 H (nL C (z3 g h l))))
 have a1:=(own_ch I B (ne1 I (nL C (z3 g h l))))
 refine ret_1 (.inl rfl) (va [(vi d),(vs s (b).length t),(vi ((i_EpNew 0 a).N)),(vs w ((i_EpNew 0 a).Key).length x),(vi ((i_EpNew 0 a).Seq)),(vi (((i_EpNew 0 a).Win).Top)),(vs y (((i_EpNew 0 a).Win).Bits).length A),(vi 0),(vs none 0 0),(vi 0),(vi 0),(vs none 0 0),(vb false),(vi 0),(vs none 0 0)]) rfl (rv_c [(vi d),(vs s (b).length t),(vi ((i_EpNew 0 a).N)),(vs w ((i_EpNew 0 a).Key).length x),(vi ((i_EpNew 0 a).Seq)),(vi (((i_EpNew 0 a).Win).Top)),(vs y (((i_EpNew 0 a).Win).Bits).length A),(vi 0),(vs none 0 0),(vi 0),(vi 0),(vs none 0 0),(vb false),(vi 0),(vs none 0 0)] rfl ax isAgg_30 sizeOf_30) ?_
 refine ⟨ay.keep0,?_⟩
 simp only [i_ChanNew,e,f,i,cond_true,cond_false]
 exact ⟨_,_,_,_,_,_,_,_,_,_,_,_,rfl,(own_lo az (z3 r g h)),ao,(own_lo a0 (z4 r g h l)),ap,(own_lo a1 (z4 r g h l)),aq,(by first|exact own_nil _ _ _ _|exact OLv.nil _ _ _ _),(by simp),(by first|exact own_nil _ _ _ _|exact OLv.nil _ _ _ _),(by simp),(by first|exact own_nil _ _ _ _|exact OLv.nil _ _ _ _),(by simp),⟨⟨(Ap.lt u H (Nat.le_refl F.heap.size)),⟨(Ap.lt u I (Nat.le_refl F.heap.size)),⟨(Ap.nr _),⟨(Ap.nr _),⟨(Ap.nr _),trivial⟩⟩⟩⟩⟩,⟨⟨(au.1.1),⟨(Ap.nr _),⟨(Ap.nr _),⟨(Ap.nr _),trivial⟩⟩⟩⟩,⟨⟨(Ap.nr _),⟨(Ap.nr _),⟨(Ap.nr _),trivial⟩⟩⟩,⟨⟨(Ap.nl _),⟨(Ap.nl _),trivial⟩⟩,⟨⟨(Ap.nl _),trivial⟩,⟨trivial,trivial⟩⟩⟩⟩⟩⟩⟩

abbrev L_30 (x:PChan) (a:Option Addr) (b:Nat) (d:Option Addr) (e:Nat) (f:Option Addr) (g:Nat) (h:Option Addr) (i:Nat) (j:Option Addr) (k:Nat) (l:Option Addr) (m:Nat):List Value:=[vi x.Role,vs a x.Sn.length b,vi x.Cur.N,vs d x.Cur.Key.length e,vi x.Cur.Seq,vi x.Cur.Win.Top,vs f x.Cur.Win.Bits.length g,vi x.Old.N,vs h x.Old.Key.length i,vi x.Old.Seq,vi x.Old.Win.Top,vs j x.Old.Win.Bits.length k,vb x.HasOld,vi x.Until,vs l x.Next.length m]
def O_30_30 (w:World) (lo:Nat) (v:Value) (x:(PChan)×(PChan)):Prop:=∃ (a:Option Addr) (b:Nat) (d:Option Addr) (e:Nat) (f:Option Addr) (g:Nat) (h:Option Addr) (i:Nat) (j:Option Addr) (k:Nat) (l:Option Addr) (m:Nat) (o:Option Addr) (p:Nat) (q:Option Addr) (r:Nat) (s:Option Addr) (t:Nat) (u:Option Addr) (y:Nat) (A:Option Addr) (B:Nat) (C:Option Addr) (D:Nat),v=.tuple #[.agg #[.int .i64 x.1.Role,.slice a x.1.Sn.length b,.int .i64 x.1.Cur.N,.slice d x.1.Cur.Key.length e,.int .i64 x.1.Cur.Seq,.int .i64 x.1.Cur.Win.Top,.slice f x.1.Cur.Win.Bits.length g,.int .i64 x.1.Old.N,.slice h x.1.Old.Key.length i,.int .i64 x.1.Old.Seq,.int .i64 x.1.Old.Win.Top,.slice j x.1.Old.Win.Bits.length k,.bool x.1.HasOld,.int .i64 x.1.Until,.slice l x.1.Next.length m],.agg #[.int .i64 x.2.Role,.slice o x.2.Sn.length p,.int .i64 x.2.Cur.N,.slice q x.2.Cur.Key.length r,.int .i64 x.2.Cur.Seq,.int .i64 x.2.Cur.Win.Top,.slice s x.2.Cur.Win.Bits.length t,.int .i64 x.2.Old.N,.slice u x.2.Old.Key.length y,.int .i64 x.2.Old.Seq,.int .i64 x.2.Old.Win.Top,.slice A x.2.Old.Win.Bits.length B,.bool x.2.HasOld,.int .i64 x.2.Until,.slice C x.2.Next.length D]]∧w.ownsRow lo 5 1 (.slice a x.1.Sn.length b) x.1.Sn.length (x.1.Sn.map bV)∧x.1.Sn.length≤1073741824∧w.ownsRow lo 5 1 (.slice d x.1.Cur.Key.length e) x.1.Cur.Key.length (x.1.Cur.Key.map bV)∧x.1.Cur.Key.length≤1073741824∧w.ownsRow lo 3 1 (.slice f x.1.Cur.Win.Bits.length g) x.1.Cur.Win.Bits.length (x.1.Cur.Win.Bits.map iV)∧x.1.Cur.Win.Bits.length≤1073741824∧w.ownsRow lo 5 1 (.slice h x.1.Old.Key.length i) x.1.Old.Key.length (x.1.Old.Key.map bV)∧x.1.Old.Key.length≤1073741824∧w.ownsRow lo 3 1 (.slice j x.1.Old.Win.Bits.length k) x.1.Old.Win.Bits.length (x.1.Old.Win.Bits.map iV)∧x.1.Old.Win.Bits.length≤1073741824∧w.ownsRow lo 5 1 (.slice l x.1.Next.length m) x.1.Next.length (x.1.Next.map bV)∧x.1.Next.length≤1073741824∧w.ownsRow lo 5 1 (.slice o x.2.Sn.length p) x.2.Sn.length (x.2.Sn.map bV)∧x.2.Sn.length≤1073741824∧w.ownsRow lo 5 1 (.slice q x.2.Cur.Key.length r) x.2.Cur.Key.length (x.2.Cur.Key.map bV)∧x.2.Cur.Key.length≤1073741824∧w.ownsRow lo 3 1 (.slice s x.2.Cur.Win.Bits.length t) x.2.Cur.Win.Bits.length (x.2.Cur.Win.Bits.map iV)∧x.2.Cur.Win.Bits.length≤1073741824∧w.ownsRow lo 5 1 (.slice u x.2.Old.Key.length y) x.2.Old.Key.length (x.2.Old.Key.map bV)∧x.2.Old.Key.length≤1073741824∧w.ownsRow lo 3 1 (.slice A x.2.Old.Win.Bits.length B) x.2.Old.Win.Bits.length (x.2.Old.Win.Bits.map iV)∧x.2.Old.Win.Bits.length≤1073741824∧w.ownsRow lo 5 1 (.slice C x.2.Next.length D) x.2.Next.length (x.2.Next.map bV)∧x.2.Next.length≤1073741824∧Aps [(a,b),(d,e),(f,g),(h,i),(j,k),(l,m),(o,p),(q,r),(s,t),(u,y),(A,B),(C,D)]
def snF (code:List UInt8):List UInt8:=(dfk ([1]++code)++[116,119,101,108,118,101,32,98,121,116,101,115]).take 12
theorem snF_len (code:List UInt8):(snF code).length=12:=by
  unfold snF
  simp only [List.length_take,List.length_append,List.length_cons,List.length_nil]
  omega
def PairP (code:List UInt8) (p:PChan×PChan):Prop:=(snF code).length=12∧p=(i_ChanNew 0 (snF code) (sha code),i_ChanNew 1 (snF code) (sha code))
theorem clpair (S:World) (aD:Value) (b:List UInt8) (aQ:R_22 S aD b) (bL:b.length≤1048576):Fn Try.prog 13 #[aD] S (fun v aE=>∃ x:(PChan)×(PChan),Keep S aE∧O_30_30 aE S.heap.size v x∧(PairP b x)):=by
 obtain ⟨a6,a7,rfl,aF,aR⟩:=aQ
 refine fn_ofS (n:=23) [(vs a6 b.length a7)] Try.func13 rfl rfl ?_
 refine sr ?_
 refine al Z_30 wN zero_30 ?_
 intro bM bN aS K L aT
 refine al Z_30 wN zero_30 ?_
 intro bO aU a8 a0 m aV
 refine nx ?_
 refine ltB ([1]:List UInt8) wN slTy_22 ?_
 intro bP bQ bR g a1
 have aG:=(((Ch.base S).extk L).extk m).extk g
 refine mw (vs a6 b.length a7) ?_
 refine apB ([1]:List UInt8) b wN slTy_22 a1 (aF.from0 aG) g.size ?_
 intro bS bT aW i aX bU aY
 have aZ:=aG.ext i (fun k hk=>nT (z2 L m) (own_lt a1 k hk).1)
 refine cl wN (csDrawFinishKey aW _ (([1]:List UInt8)++b) (mR_22 (Rd.of_own aX) aY)) ?_
 rintro _ bW ⟨d,j,⟨aH,aI,rfl,ba,_⟩,bb⟩
 refine aw (vs aH (d).length aI) ?_
 refine nx ?_
 refine wl_lit0 wN rfl rfl slTy_22 (fun w=>by kernel_rfl) ?_
 intro bX bY l bc
 have bd:=(aZ.extk j).extk l
 refine mw (vs aH (d).length aI) ?_
 have be:=(own_kp ba l)
 refine ap0 (d) wN slTy_22 bc (Rd.of_own be) l.size ?_
 intro bZ ca cb p a2 cc
 refine apZ (d) ([116,119,101,108,118,101,32,98,121,116,101,115]:List UInt8) wN slTy_22 Try.underlying9 a2 (z2 l p) ?_
 intro a9 M bg r aJ bh
 have aK:=(bd.extk p).ext r (fun k hk=>nT (z5 L m g i j) (own_lt a2 k hk).1)
 refine slv (((d)++([116,119,101,108,118,101,32,98,121,116,101,115]:List UInt8)).take 12) 0 12 wN slTy_22 (Rd.of_own aJ) (by first|omega|(simp <;> omega)) (by first|omega|(simp <;> omega)) (by first|rfl|(simp;done)|(rw [List.take_of_length_le (by first|(simp;done)|(simp;omega))])) rfl rfl rfl rfl (.inl ⟨rfl,rfl⟩) (.inr ⟨_,_,_,rfl,rfl,by omega⟩) ?_
 have bi:=own_pre (k:=12) aJ (by first|omega|(simp <;> omega))
 have aL:(((d)++([116,119,101,108,118,101,32,98,121,116,101,115]:List UInt8)).take 12).length≤1073741824:=nT (by simp only [List.length_take];omega) bh
 refine aw (vs (subA a9 M 0 1) (((d)++([116,119,101,108,118,101,32,98,121,116,101,115]:List UInt8)).take 12).length (M - 0)) ?_
 refine nx ?_
 refine mw (vs a6 b.length a7) ?_
 refine cl wN (ciSha bg _ b (mR_22 (aF.from0 aK) aR)) ?_
 rintro _ aA ⟨q,⟨aB,aC,rfl,aM,aN,cd⟩⟩
 have ce:=sha_le b
 refine aw (vs aB (sha b).length aC) ?_
 refine nx ?_
 refine mw (vs (subA a9 M 0 1) (((d)++([116,119,101,108,118,101,32,98,121,116,101,115]:List UInt8)).take 12).length (M - 0)) ?_
 refine mw (vs aB (sha b).length aC) ?_
 have aO:=(own_kp bi q)
 refine cl wN (ciChanNew aA 0 _ (((d)++([116,119,101,108,118,101,32,98,121,116,101,115]:List UInt8)).take 12) (mR_22 (Rd.of_own aO) aL) _ (sha b) (mR_22 (Rd.of_own aM) aN)) ?_
 rintro _ N ⟨s,⟨T,V,W,X,Y,Z,aa,ab,ac,ad,ae,af,rfl,t,bj,u,bk,y,bl,A,bm,B,bn,C,bo,e⟩⟩
 have bp:=(aK.extk q).extk s
 refine mw (vs (subA a9 M 0 1) (((d)++([116,119,101,108,118,101,32,98,121,116,101,115]:List UInt8)).take 12).length (M - 0)) ?_
 refine mw (vs aB (sha b).length aC) ?_
 have bq:=(own_kp aO s)
 have br:=(own_kp aM s)
 refine cl wN (ciChanNew N 1 _ (((d)++([116,119,101,108,118,101,32,98,121,116,101,115]:List UInt8)).take 12) (mR_22 (Rd.of_own bq) aL) _ (sha b) (mR_22 (Rd.of_own br) aN)) ?_
 rintro _ aP ⟨a3,⟨ah,ai,aj,ak,am,an,ao,ap,aq,au,av,ax,rfl,D,bu,F,bv,G,bw,H,bz,I,b0,J,b1,f⟩⟩
 have b2:=((((((((((aT.kp m).kp g).ch i (fun h=>by have:=(own_lt a1 _ h).1;have:=nL K m.size;omega)).kp j).kp l).kp p).ch r (fun h=>by have:=(own_lt a2 _ h).1;have:=nL K (z4 m g i j);omega)).kp q).kp s).kp a3)
 refine st (va (L_30 (i_ChanNew 0 (((d)++([116,119,101,108,118,101,32,98,121,116,101,115]:List UInt8)).take 12) (sha b)) T V W X Y Z aa ab ac ad ae af)) (L_30 (i_ChanNew 0 (((d)++([116,119,101,108,118,101,32,98,121,116,101,115]:List UInt8)).take 12) (sha b)) T V W X Y Z aa ab ac ad ae af) (L_30 (i_ChanNew 0 (((d)++([116,119,101,108,118,101,32,98,121,116,101,115]:List UInt8)).take 12) (sha b)) T V W X Y Z aa ab ac ad ae af) wN sizeOf_30 b2 ?_
 intro cg a4 b3 ci
 have b4:=(bp.extk a3).ext a4 (fun k hk=>by subst hk;exact aS)
 have b5:=((((((((((aV.kp g).ch i (fun h=>by have:=(own_lt a1 _ h).1;have:=nL a0 (Nat.le_refl aU.heap.size);omega)).kp j).kp l).kp p).ch r (fun h=>by have:=(own_lt a2 _ h).1;have:=nL a0 (z3 g i j);omega)).kp q).kp s).kp a3).ch a4 (Ne.symm (nN (nL K (a8)))))
 refine st (va (L_30 (i_ChanNew 1 (((d)++([116,119,101,108,118,101,32,98,121,116,101,115]:List UInt8)).take 12) (sha b)) ah ai aj ak am an ao ap aq au av ax)) (L_30 (i_ChanNew 1 (((d)++([116,119,101,108,118,101,32,98,121,116,101,115]:List UInt8)).take 12) (sha b)) ah ai aj ak am an ao ap aq au av ax) (L_30 (i_ChanNew 1 (((d)++([116,119,101,108,118,101,32,98,121,116,101,115]:List UInt8)).take 12) (sha b)) ah ai aj ak am an ao ap aq au av ax) wN sizeOf_30 b5 ?_
 intro cj a5 b6 ck
 have b7:=b4.ext a5 (fun k hk=>by subst hk;exact nT L.size a8)
 refine n3 ?_
 have b8:=(b3.ch a5 (nN (nL K (a8))))
 have O:=fun (E sz n:Nat) (v:Value) (ay:List Value) (o:World.ownsRow N aA.heap.size E sz v n ay) (az:World.ownsRow N aA.heap.size E sz v n ay)=>(own_ch (own_ch (own_kp o a3) a4 (ne1 az (nL K (z8 m g i j l p r q)))) a5 (ne1 az (nL a0 (z7 g i j l p r q))))
 have b9:=(O _ _ _ _ _ t t)
 have bA:=(O _ _ _ _ _ u u)
 have bB:=(O _ _ _ _ _ y y)
 have bC:=(O _ _ _ _ _ A A)
 have bD:=(O _ _ _ _ _ B B)
 have bE:=(O _ _ _ _ _ C C)
 have P:=fun (E sz n:Nat) (v:Value) (ay:List Value) (o:World.ownsRow aP N.heap.size E sz v n ay) (az:World.ownsRow aP N.heap.size E sz v n ay)=>(own_ch (own_ch o a4 (ne1 az (nL K (z9 m g i j l p r q s)))) a5 (ne1 az (nL a0 (z8 g i j l p r q s))))
 have bF:=(P _ _ _ _ _ D D)
 have bG:=(P _ _ _ _ _ F F)
 have bH:=(P _ _ _ _ _ G G)
 have bI:=(P _ _ _ _ _ H H)
 have bJ:=(P _ _ _ _ _ I I)
 have bK:=(P _ _ _ _ _ J J)
 refine ret_2 (.inl rfl) (va (L_30 (i_ChanNew 0 (((d)++([116,119,101,108,118,101,32,98,121,116,101,115]:List UInt8)).take 12) (sha b)) T V W X Y Z aa ab ac ad ae af)) (va (L_30 (i_ChanNew 1 (((d)++([116,119,101,108,118,101,32,98,121,116,101,115]:List UInt8)).take 12) (sha b)) ah ai aj ak am an ao ap aq au av ax)) rfl (rv_c (L_30 (i_ChanNew 0 (((d)++([116,119,101,108,118,101,32,98,121,116,101,115]:List UInt8)).take 12) (sha b)) T V W X Y Z aa ab ac ad ae af) rfl b8 isAgg_30 sizeOf_30) (rv_c (L_30 (i_ChanNew 1 (((d)++([116,119,101,108,118,101,32,98,121,116,101,115]:List UInt8)).take 12) (sha b)) ah ai aj ak am an ao ap aq au av ax) rfl b6 isAgg_30 sizeOf_30) ?_
 have Q:=z10 L m g i j l p r q s
 have R:=z9 L m g i j l p r q
 have a:=Nat.le_refl N.heap.size
 exact ⟨((i_ChanNew 0 (((d)++([116,119,101,108,118,101,32,98,121,116,101,115]:List UInt8)).take 12) (sha b)),(i_ChanNew 1 (((d)++([116,119,101,108,118,101,32,98,121,116,101,115]:List UInt8)).take 12) (sha b))),b7.keep0,⟨_,_,_,_,_,_,_,_,_,_,_,_,_,_,_,_,_,_,_,_,_,_,_,_,rfl,(own_lo b9 R),bj,(own_lo bA R),bk,(own_lo bB R),bl,(own_lo bC R),bm,(own_lo bD R),bn,(own_lo bE R),bo,(own_lo bF Q),bu,(own_lo bG Q),bv,(own_lo bH Q),bw,(own_lo bI Q),bz,(own_lo bJ Q),b0,(own_lo bK Q),b1,⟨⟨(e.1.1),⟨(e.1.2.1),⟨(e.1.2.2.1),⟨(e.1.2.2.2.1),⟨(e.1.2.2.2.2.1),⟨(Ap.lt t D a),⟨(Ap.lt t F a),⟨(Ap.lt t G a),⟨(Ap.lt t H a),⟨(Ap.lt t I a),⟨(Ap.lt t J a),trivial⟩⟩⟩⟩⟩⟩⟩⟩⟩⟩⟩,⟨⟨(e.2.1.1),⟨(e.2.1.2.1),⟨(e.2.1.2.2.1),⟨(e.2.1.2.2.2.1),⟨(Ap.lt u D a),⟨(Ap.lt u F a),⟨(Ap.lt u G a),⟨(Ap.lt u H a),⟨(Ap.lt u I a),⟨(Ap.lt u J a),trivial⟩⟩⟩⟩⟩⟩⟩⟩⟩⟩,⟨⟨(e.2.2.1.1),⟨(e.2.2.1.2.1),⟨(e.2.2.1.2.2.1),⟨(Ap.lt y D a),⟨(Ap.lt y F a),⟨(Ap.lt y G a),⟨(Ap.lt y H a),⟨(Ap.lt y I a),⟨(Ap.lt y J a),trivial⟩⟩⟩⟩⟩⟩⟩⟩⟩,⟨⟨(e.2.2.2.1.1),⟨(e.2.2.2.1.2.1),⟨(Ap.lt A D a),⟨(Ap.lt A F a),⟨(Ap.lt A G a),⟨(Ap.lt A H a),⟨(Ap.lt A I a),⟨(Ap.lt A J a),trivial⟩⟩⟩⟩⟩⟩⟩⟩,⟨⟨(e.2.2.2.2.1.1),⟨(Ap.lt B D a),⟨(Ap.lt B F a),⟨(Ap.lt B G a),⟨(Ap.lt B H a),⟨(Ap.lt B I a),⟨(Ap.lt B J a),trivial⟩⟩⟩⟩⟩⟩⟩,⟨⟨(Ap.lt C D a),⟨(Ap.lt C F a),⟨(Ap.lt C G a),⟨(Ap.lt C H a),⟨(Ap.lt C I a),⟨(Ap.lt C J a),trivial⟩⟩⟩⟩⟩⟩,⟨⟨(f.1.1),⟨(f.1.2.1),⟨(f.1.2.2.1),⟨(f.1.2.2.2.1),⟨(f.1.2.2.2.2.1),trivial⟩⟩⟩⟩⟩,⟨⟨(f.2.1.1),⟨(f.2.1.2.1),⟨(f.2.1.2.2.1),⟨(f.2.1.2.2.2.1),trivial⟩⟩⟩⟩,⟨⟨(f.2.2.1.1),⟨(f.2.2.1.2.1),⟨(f.2.2.1.2.2.1),trivial⟩⟩⟩,⟨⟨(f.2.2.2.1.1),⟨(f.2.2.2.1.2.1),trivial⟩⟩,⟨⟨(f.2.2.2.2.1.1),trivial⟩,⟨trivial,trivial⟩⟩⟩⟩⟩⟩⟩⟩⟩⟩⟩⟩⟩,(by (have hq:=bb.1;have hz:snF b=_:=cA (fun z=>(z++[116,119,101,108,118,101,32,98,121,116,101,115]).take 12) hq.symm;exact ⟨by rw [hz];simp only [List.length_take,List.length_append,List.length_cons,List.length_nil];omega,by rw [hz]⟩))⟩

abbrev L_26 (x:PWin) (a:Option Addr) (b:Nat):List Value:=[vi x.Top,vs a x.Bits.length b]
def R_26 (w:World) (v:Value) (x:(PWin)):Prop:=∃ (a:Option Addr) (b:Nat),v=.agg #[.int .i64 x.Top,.slice a x.Bits.length b]∧Rd w 1 (.slice a x.Bits.length b) x.Bits.length (x.Bits.map iV)∧x.Bits.length≤1073741824
def i_copyWin (a:PWin):(PWin):=a
theorem cicopyWin (f:World) (u:Value) (a:PWin) (G:R_26 f u a) :Fn Try.prog 68 #[u] f (fun v g=>Keep f g∧O_26 g f.heap.size v (a)):=by
 obtain ⟨b,i,rfl,H,I⟩:=G
 refine fn_ofS (n:=10) [(va (L_26 a b i))] Try.func68 rfl rfl ?_
 refine sr ?_
 refine bx (L_26 a b i) wN ?_
 intro j x ah ai p y
 refine al [(vi 0),(vs none 0 0)] wN zero_26 ?_
 intro aj q J K l L
 have A:=((Ch.base f).extk p).extk l
 refine wl_nil<|wq_then<|wc_seq ?_
 refine wc_drawT ([(3,[],[],(fun _ v _=>v=(vp j 0))),(4,[],[0],(fun _ v _=>v=(vi a.Top))),(5,[],[],(fun _ v w=>∃ a0:Addr,v=.slice (some a0) 0 0∧w.ownsRow q.heap.size 3 1 (.slice (some a0) 0 0) 0 [])),(6,[],[],(fun _ v _=>v=(vp j 1))),(7,[],[3],(fun _ v _=>v=(vs b a.Bits.length i))),(8,[],[2,3,4],(fun _ v w=>∃ (b:Option Addr) (r:Nat),v=.slice b a.Bits.length r∧w.ownsRow q.heap.size 3 1 (.slice b a.Bits.length r) a.Bits.length (a.Bits.map iV)∧a.Bits.length≤1073741824∧Aps [(b,r)]))]:GV) (fun _ g=>Keep q g) [] mixed rfl (by kernel_rfl) (by kernel_rfl) ?_ (fun _ _ h=>h) (fun _ _ _ _ h _ k=>h.trans k) trivial ?_ ?_ ?_
 ·exact ⟨hV,hE,⟨hV,hE,⟨(fun e v w x h hk=>by obtain ⟨s,he,t⟩:=h;exact ⟨s,he,own_kp t hk⟩),hE,⟨hV,hE,⟨hV,hE,⟨(fun e v w x h hk=>by obtain ⟨s,M,he,t,N,hap⟩:=h;exact ⟨s,M,he,own_kp t hk,N,hap⟩),hE,trivial⟩⟩⟩⟩⟩⟩
 ·exact trivial
 ·refine ⟨?_,⟨?_,⟨?_,⟨?_,⟨?_,⟨?_,trivial⟩⟩⟩⟩⟩⟩
  ·intro _ d ak _
   rintro _ _ _ _ _ _
   refine sw ?_
   refine pu (vp j 0) wN ?_
   exact f1
  ·intro _ d O _
   rintro _ rfl _ _ _ _ _
   refine sw ?_
   have P:=((y.kp l).kp O)
   refine ld (vi a.Top) wN isAgg_3 P ?_
   exact f1
  ·intro _ d Q _
   rintro _ _ _ _ _ _
   refine sw ?_
   refine wl_lit0 wN rfl rfl slTy_24 (fun w=>by kernel_rfl) ?_
   intro am B R S
   exact wl_finT R ⟨_,rfl,own_lo S Q.size⟩
  ·intro _ d an _
   rintro _ _ _ _ _ _
   refine sw ?_
   refine pu (vp j 1) wN ?_
   exact f1
  ·intro _ d T _
   rintro _ _ _ _ rfl _ _
   refine sw ?_
   have V:=((y.kp l).kp T)
   refine ld (vs b a.Bits.length i) wN isAgg_24 V ?_
   exact f1
  ·intro _ d C _
   have W:=A.extk C
   rintro _ _ _ ⟨ao,rfl,X⟩ _ rfl _ rfl _
   refine sw ?_
   refine ap0I a.Bits wN slTy_24 X (H.from0 W) C.size ?_
   intro ap aq B Y Z au
   exact wl_finT Y ⟨_,_,rfl,Z,I,⟨trivial,trivial⟩⟩
 ·intro _ d D
  rintro _ rfl _ rfl _ ⟨av,rfl,ax⟩ _ rfl _ rfl _ ⟨m,o,rfl,E,aa,-⟩
  refine sw ?_
  refine pu (va (L_26 a m o)) wN ?_
  have ab:=(L.kp D)
  refine sv (L_26 a m o) wN sizeOf_26 ab ?_
  intro B F ac ay
  have ad:=(A.extk D).ext F (fun k hk=>by subst hk;exact nT p.size J)
  refine n3 ?_
  have ae:=(own_ch E F (ne1 E (K)))
  refine ret_1 (.inl rfl) (va (L_26 a m o)) rfl (rv_c (L_26 a m o) rfl ac isAgg_26 sizeOf_26) ?_
  refine ⟨ad.keep0,?_⟩
  have af:a=a:=by rfl
  rw [af]
  exact ⟨_,_,rfl,(own_lo ae (z2 p l)),aa,⟨trivial,trivial⟩⟩

abbrev L_28 (x:PEp) (a:Option Addr) (b:Nat) (d:Option Addr) (e:Nat):List Value:=[vi x.N,vs a x.Key.length b,vi x.Seq,vi x.Win.Top,vs d x.Win.Bits.length e]
def R_28 (w:World) (v:Value) (x:(PEp)):Prop:=∃ (a:Option Addr) (b:Nat) (d:Option Addr) (e:Nat),v=.agg #[.int .i64 x.N,.slice a x.Key.length b,.int .i64 x.Seq,.int .i64 x.Win.Top,.slice d x.Win.Bits.length e]∧Rd w 1 (.slice a x.Key.length b) x.Key.length (x.Key.map bV)∧x.Key.length≤1073741824∧Rd w 1 (.slice d x.Win.Bits.length e) x.Win.Bits.length (x.Win.Bits.map iV)∧x.Win.Bits.length≤1073741824
theorem mR_26 {w:World} {x:PWin} {a:Option Addr} {b:Nat} (d:Rd w 1 (.slice a x.Bits.length b) x.Bits.length (x.Bits.map iV)) (e:x.Bits.length≤1073741824):R_26 w (va (L_26 x a b)) x:=⟨_,_,rfl,d,e⟩
def KO_26 (w:World) (lo:Nat) (v:Value) (x:(PWin)) (k:Option Addr×Nat→Prop):Prop:=∃ (a:Option Addr) (b:Nat),v=.agg #[.int .i64 x.Top,.slice a x.Bits.length b]∧w.ownsRow lo 3 1 (.slice a x.Bits.length b) x.Bits.length (x.Bits.map iV)∧x.Bits.length≤1073741824∧Aps [(a,b)]∧k (a,b)
def i_copyEp (a:PEp):(PEp):=a
theorem cicopyEp (g:World) (F:Value) (a:PEp) (Q:R_28 g F a) :Fn Try.prog 50 #[F] g (fun v i=>Keep g i∧O_28 i g.heap.size v (a)):=by
 obtain ⟨j,l,m,o,rfl,R,S,T,V⟩:=Q
 refine fn_ofS (n:=14) [(va (L_28 a j l m o))] Try.func50 rfl rfl ?_
 refine sr ?_
 refine bx (L_28 a j l m o) wN ?_
 intro d G a7 a8 p q
 refine al Z_28 wN zero_28 ?_
 intro a9 x W H f X
 have y:=((Ch.base g).extk p).extk f
 refine wl_nil<|wq_then<|wc_seq ?_
 refine wc_drawT ([(3,[],[],(fun _ v _=>v=(vp d 0))),(4,[],[0],(fun _ v _=>v=(vi a.N))),(5,[],[],(fun _ v _=>v=(vp d 1))),(6,[],[2],(fun _ v _=>v=(vs j a.Key.length l))),(7,[],[2,3],(fun _ v w=>O_22 w x.heap.size v a.Key)),(8,[],[],(fun _ v _=>v=(vp d 2))),(9,[],[5],(fun _ v _=>v=(vi a.Seq))),(10,[],[],(fun _ v _=>v=(vp d 3))),(11,[],[7],(fun _ v _=>v=(va (L_26 a.Win m o)))),(12,[7],[2,3,4,7,8],(fun e v w=>KO_26 w x.heap.size v a.Win (fun Y=>Ap (sp (e 7)) Y)))]:GV) (fun _ i=>Keep x i) [] mixed rfl (by kernel_rfl) (by kernel_rfl) ?_ (fun _ _ h=>h) (fun _ _ _ _ h _ k=>h.trans k) trivial ?_ ?_ ?_
 ·exact ⟨hV,hE,⟨hV,hE,⟨hV,hE,⟨hV,hE,⟨(fun e v w G h hk=>by obtain ⟨A,B,he,C,D,hap⟩:=h;exact ⟨A,B,he,own_kp C hk,D,hap⟩),hE,⟨hV,hE,⟨hV,hE,⟨hV,hE,⟨hV,hE,⟨(fun e v w G h hk=>by obtain ⟨A,B,he,C,D,hap,hx⟩:=h;exact ⟨A,B,he,own_kp C hk,D,hap,hx⟩),(fun aA aB v w hx h=>by have Z:=hx 7 (by simp);simp only [Z] at h;exact h),trivial⟩⟩⟩⟩⟩⟩⟩⟩⟩⟩
 ·exact trivial
 ·refine ⟨?_,⟨?_,⟨?_,⟨?_,⟨?_,⟨?_,⟨?_,⟨?_,⟨?_,⟨?_,trivial⟩⟩⟩⟩⟩⟩⟩⟩⟩⟩
  ·intro _ b aC _
   rintro _ _ _ _ _ _ _ _ _ _
   refine sw ?_
   refine pu (vp d 0) wN ?_
   exact f1
  ·intro _ b aa _
   rintro _ rfl _ _ _ _ _ _ _ _ _
   refine sw ?_
   have ab:=((q.kp f).kp aa)
   refine ld (vi a.N) wN isAgg_3 ab ?_
   exact f1
  ·intro _ b aD _
   rintro _ _ _ _ _ _ _ _ _ _
   refine sw ?_
   refine pu (vp d 1) wN ?_
   exact f1
  ·intro _ b ac _
   rintro _ _ _ rfl _ _ _ _ _ _ _
   refine sw ?_
   have ad:=((q.kp f).kp ac)
   refine ld (vs j a.Key.length l) wN isAgg_22 ad ?_
   exact f1
  ·intro _ b I _
   have ae:=y.extk I
   rintro _ _ _ rfl _ rfl _ _ _ _ _ _
   refine sw ?_
   refine cl wN (ciclone b _ a.Key (mR_22 (R.from0 ae) S)) ?_
   rintro _ J ⟨af,⟨aE,aF,rfl,ah,ai,aj⟩⟩
   exact wl_finT af ⟨_,_,rfl,(own_lo ah I.size),ai,aj⟩
  ·intro _ b aG _
   rintro _ _ _ _ _ _ _ _ _ _
   refine sw ?_
   refine pu (vp d 2) wN ?_
   exact f1
  ·intro _ b ak _
   rintro _ _ _ _ _ _ rfl _ _ _ _
   refine sw ?_
   have am:=((q.kp f).kp ak)
   refine ld (vi a.Seq) wN isAgg_3 am ?_
   exact f1
  ·intro _ b aH _
   rintro _ _ _ _ _ _ _ _ _ _
   refine sw ?_
   refine pu (vp d 3) wN ?_
   exact f1
  ·intro _ b an _
   rintro _ _ _ _ _ _ _ _ rfl _ _
   refine sw ?_
   have ao:=((q.kp f).kp an)
   refine lN (L_26 a.Win m o) wN isAgg_26 sizeOf_26 ao ?_
   exact f1
  ·intro _ b K _
   have ap:=y.extk K
   rintro _ _ _ rfl _ rfl _ ⟨aI,aJ,rfl,aq,_⟩ _ _ _ rfl _ rfl _
   refine sw ?_
   refine cl wN (cicopyWin b _ a.Win (mR_26 (T.from0 ap) V)) ?_
   rintro _ J ⟨au,⟨aK,aL,rfl,L,av,ax⟩⟩
   exact wl_finT au ⟨_,_,rfl,(own_lo L K.size),av,ax,(Ap.lt aq L (Nat.le_refl _))⟩
 ·intro _ b M
  rintro _ rfl _ rfl _ rfl _ rfl _ ⟨r,s,rfl,O,ay,aM⟩ _ rfl _ rfl _ rfl _ rfl _ ⟨t,u,rfl,P,az,aN,a0⟩
  refine sw ?_
  refine pu (va (L_28 a r s t u)) wN ?_
  have a1:=(X.kp M)
  refine sv (L_28 a r s t u) wN sizeOf_28 a1 ?_
  intro J E a2 aO
  have a3:=(y.extk M).ext E (fun k hk=>by subst hk;exact nT p.size W)
  refine n3 ?_
  have a4:=(own_ch O E (ne1 O (H)))
  have a5:=(own_ch P E (ne1 P (H)))
  refine ret_1 (.inl rfl) (va (L_28 a r s t u)) rfl (rv_c (L_28 a r s t u) rfl a2 isAgg_28 sizeOf_28) ?_
  refine ⟨a3.keep0,?_⟩
  have a6:a=a:=by rfl
  rw [a6]
  exact ⟨_,_,_,_,rfl,(own_lo a4 (z2 p f)),ay,(own_lo a5 (z2 p f)),az,⟨⟨a0,trivial⟩,⟨trivial,trivial⟩⟩⟩

theorem sizeOf_22:∀ w,(sizeOf 22).run Try.prog w=.ok 1 w:=fun w=>by kernel_rfl
def R_30 (w:World) (v:Value) (x:(PChan)):Prop:=∃ (a:Option Addr) (b:Nat) (d:Option Addr) (e:Nat) (f:Option Addr) (g:Nat) (h:Option Addr) (i:Nat) (j:Option Addr) (k:Nat) (l:Option Addr) (m:Nat),v=.agg #[.int .i64 x.Role,.slice a x.Sn.length b,.int .i64 x.Cur.N,.slice d x.Cur.Key.length e,.int .i64 x.Cur.Seq,.int .i64 x.Cur.Win.Top,.slice f x.Cur.Win.Bits.length g,.int .i64 x.Old.N,.slice h x.Old.Key.length i,.int .i64 x.Old.Seq,.int .i64 x.Old.Win.Top,.slice j x.Old.Win.Bits.length k,.bool x.HasOld,.int .i64 x.Until,.slice l x.Next.length m]∧Rd w 1 (.slice a x.Sn.length b) x.Sn.length (x.Sn.map bV)∧x.Sn.length≤1073741824∧Rd w 1 (.slice d x.Cur.Key.length e) x.Cur.Key.length (x.Cur.Key.map bV)∧x.Cur.Key.length≤1073741824∧Rd w 1 (.slice f x.Cur.Win.Bits.length g) x.Cur.Win.Bits.length (x.Cur.Win.Bits.map iV)∧x.Cur.Win.Bits.length≤1073741824∧Rd w 1 (.slice h x.Old.Key.length i) x.Old.Key.length (x.Old.Key.map bV)∧x.Old.Key.length≤1073741824∧Rd w 1 (.slice j x.Old.Win.Bits.length k) x.Old.Win.Bits.length (x.Old.Win.Bits.map iV)∧x.Old.Win.Bits.length≤1073741824∧Rd w 1 (.slice l x.Next.length m) x.Next.length (x.Next.map bV)∧x.Next.length≤1073741824
theorem mR_28 {w:World} {x:PEp} {a:Option Addr} {b:Nat} {d:Option Addr} {e:Nat} (f:Rd w 1 (.slice a x.Key.length b) x.Key.length (x.Key.map bV)) (g:x.Key.length≤1073741824) (h:Rd w 1 (.slice d x.Win.Bits.length e) x.Win.Bits.length (x.Win.Bits.map iV)) (i:x.Win.Bits.length≤1073741824):R_28 w (va (L_28 x a b d e)) x:=⟨_,_,_,_,rfl,f,g,h,i⟩
def KO_28 (w:World) (lo:Nat) (v:Value) (x:(PEp)) (k:Option Addr×Nat→Option Addr×Nat→Prop):Prop:=∃ (a:Option Addr) (b:Nat) (d:Option Addr) (e:Nat),v=.agg #[.int .i64 x.N,.slice a x.Key.length b,.int .i64 x.Seq,.int .i64 x.Win.Top,.slice d x.Win.Bits.length e]∧w.ownsRow lo 5 1 (.slice a x.Key.length b) x.Key.length (x.Key.map bV)∧x.Key.length≤1073741824∧w.ownsRow lo 3 1 (.slice d x.Win.Bits.length e) x.Win.Bits.length (x.Win.Bits.map iV)∧x.Win.Bits.length≤1073741824∧Aps [(a,b),(d,e)]∧k (a,b) (d,e)
def i_copyChan (a:PChan):(PChan):=a
theorem cicopyChan (S:World) (aC:Value) (a:PChan) (aR:R_30 S aC a) :Fn Try.prog 25 #[aC] S (fun v aD=>Keep S aD∧O_30 aD S.heap.size v (a)):=by
 obtain ⟨ab,ac,O,P,Q,R,A,B,C,D,T,V,rfl,aS,aT,aU,aV,aW,aX,aY,aZ,ba,bb,bc,bd⟩:=aR
 refine fn_ofS (n:=20) [(va (L_30 a ab ac O P Q R A B C D T V))] Try.func25 rfl rfl ?_
 refine sr ?_
 refine bx (L_30 a ab ac O P Q R A B C D T V) wN ?_
 intro f ad ae W X ay
 refine al Z_30 wN zero_30 ?_
 intro ck aE aF az g be
 have a0:=((Ch.base S).extk X).extk g
 refine wl_nil<|wq_then<|wc_seq ?_
 refine wc_draw ([(3,[],[],(fun _ v _=>v=(vp f 1))),(4,[],[0],(fun _ v _=>v=(vs ab a.Sn.length ac))),(5,[],[0,1],(fun _ v w=>O_22 w aE.heap.size v a.Sn)),(6,[],[],(fun _ v _=>v=(vp f 14))),(7,[],[3],(fun _ v _=>v=(vs T a.Next.length V))),(8,[5],[0,1,2,3,4],(fun e v w=>KO_22 w aE.heap.size v a.Next (fun af=>Ap (sp (e 5)) af))),(9,[],[0,1,2,3,4],(fun _ v _=>v=(vp f 1)))]:GV) mixed rfl (by kernel_rfl) (by kernel_rfl) ?_ ?_ ?_
 ·exact ⟨hV,hE,⟨hV,hE,⟨(fun e v w ad h hk=>by obtain ⟨F,G,he,H,I,hap⟩:=h;exact ⟨F,G,he,own_kp H hk,I,hap⟩),hE,⟨hV,hE,⟨hV,hE,⟨(fun e v w ad h hk=>by obtain ⟨F,G,he,H,I,hap,hx⟩:=h;exact ⟨F,G,he,own_kp H hk,I,hap,hx⟩),(fun bg bh v w hx h=>by have bi:=hx 5 (by simp);simp only [bi] at h;exact h),⟨hV,hE,trivial⟩⟩⟩⟩⟩⟩⟩
 ·refine ⟨?_,⟨?_,⟨?_,⟨?_,⟨?_,⟨?_,⟨?_,trivial⟩⟩⟩⟩⟩⟩⟩
  ·intro q cm
   rintro _ _ _ _ _ _ _
   refine sw ?_
   refine pu (vp f 1) wN ?_
   exact f2
  ·intro q bj
   rintro _ rfl _ _ _ _ _ _
   refine sw ?_
   have bk:=((ay.kp g).kp bj)
   refine ld (vs ab a.Sn.length ac) wN isAgg_22 bk ?_
   exact f2
  ·intro q aG
   have bl:=a0.extk aG
   rintro _ rfl _ rfl _ _ _ _ _
   refine sw ?_
   refine cl wN (ciclone q _ a.Sn (mR_22 (aS.from0 bl) aT)) ?_
   rintro _ aH ⟨bm,⟨cn,co,rfl,bn,bo,bp⟩⟩
   exact wl_fin bm ⟨_,_,rfl,(own_lo bn aG.size),bo,bp⟩
  ·intro q cp
   rintro _ _ _ _ _ _ _
   refine sw ?_
   refine pu (vp f 14) wN ?_
   exact f2
  ·intro q bq
   rintro _ _ _ _ rfl _ _ _
   refine sw ?_
   have br:=((ay.kp g).kp bq)
   refine ld (vs T a.Next.length V) wN isAgg_22 br ?_
   exact f2
  ·intro q aI
   have bu:=a0.extk aI
   rintro _ rfl _ rfl _ ⟨cq,cr,rfl,bv,_⟩ _ rfl _ rfl _ _
   refine sw ?_
   refine cl wN (ciclone q _ a.Next (mR_22 (bc.from0 bu) bd)) ?_
   rintro _ aH ⟨bw,⟨cs,cu,rfl,aJ,bz,b0⟩⟩
   exact wl_fin bw ⟨_,_,rfl,(own_lo aJ aI.size),bz,b0,(Ap.lt bv aJ (Nat.le_refl _))⟩
  ·intro q cv
   rintro _ rfl _ rfl _ ⟨cw,cx,rfl,_⟩ _ rfl _ rfl _ _
   refine sw ?_
   refine pu (vp f 1) wN ?_
   exact f2
 ·intro q J
  rintro _ rfl _ rfl _ ⟨j,l,rfl,m,b1,cy⟩ _ rfl _ rfl _ ⟨r,s,rfl,p,b2,cz,b3⟩ _ rfl
  refine sw ?_
  have b4:=((ay.kp g).kp J)
  refine st (vs j (a.Sn).length l) [(vs j (a.Sn).length l)] (L_30 a j l O P Q R A B C D T V) wN sizeOf_22 b4 ?_
  intro aH b b5 c0
  have b6:=(a0.extk J).ext b (fun k hk=>by subst hk;exact ae)
  refine pu (vp f 14) wN ?_
  refine st (vs r (a.Next).length s) [(vs r (a.Next).length s)] (L_30 a j l O P Q R A B C D r s) wN sizeOf_22 b5 ?_
  intro ah d a1 c1
  have a2:=b6.ext d (fun k hk=>by subst hk;exact ae)
  refine wl_nil<|wq_then<|wc_seq ?_
  refine wc_draw ([(11,[],[],(fun _ v _=>v=(vp f 2))),(12,[],[0],(fun _ v _=>v=(va (L_28 a.Cur O P Q R)))),(13,[],[0,1],(fun _ v w=>O_28 w ah.heap.size v a.Cur)),(14,[],[],(fun _ v _=>v=(vp f 7))),(15,[],[3],(fun _ v _=>v=(va (L_28 a.Old A B C D)))),(16,[13],[0,1,2,3,4],(fun e v w=>KO_28 w ah.heap.size v a.Old (fun af aK=>Ap (sp (cellAt (e 13) 1)) af∧Ap (sp (cellAt (e 13) 1)) aK∧Ap (sp (cellAt (e 13) 4)) af∧Ap (sp (cellAt (e 13) 4)) aK))),(17,[],[0,1,2,3,4],(fun _ v _=>v=(vp f 2)))]:GV) mixed rfl (by kernel_rfl) (by kernel_rfl) ?_ ?_ ?_
  ·exact ⟨hV,hE,⟨hV,hE,⟨(fun e v w ad h hk=>by obtain ⟨F,G,a3,a4,he,H,I,a5,a6,hap⟩:=h;exact ⟨F,G,a3,a4,he,own_kp H hk,I,own_kp a5 hk,a6,hap⟩),hE,⟨hV,hE,⟨hV,hE,⟨(fun e v w ad h hk=>by obtain ⟨F,G,a3,a4,he,H,I,a5,a6,hap,hx⟩:=h;exact ⟨F,G,a3,a4,he,own_kp H hk,I,own_kp a5 hk,a6,hap,hx⟩),(fun bg bh v w hx h=>by have b7:=hx 13 (by simp);simp only [b7] at h;exact h),⟨hV,hE,trivial⟩⟩⟩⟩⟩⟩⟩
  ·refine ⟨?_,⟨?_,⟨?_,⟨?_,⟨?_,⟨?_,⟨?_,trivial⟩⟩⟩⟩⟩⟩⟩
   ·intro i c2
    rintro _ _ _ _ _ _ _
    refine sw ?_
    refine pu (vp f 2) wN ?_
    exact f2
   ·intro i b8
    rintro _ rfl _ _ _ _ _ _
    refine sw ?_
    have b9:=(a1.kp b8)
    refine lN (L_28 a.Cur O P Q R) wN isAgg_28 sizeOf_28 b9 ?_
    exact f2
   ·intro i a7
    have aL:=a2.extk a7
    rintro _ rfl _ rfl _ _ _ _ _
    refine sw ?_
    refine cl wN (cicopyEp i _ a.Cur (mR_28 (aU.from0 aL) aV (aW.from0 aL) aX)) ?_
    rintro _ aM ⟨bA,⟨c3,c4,c5,c6,rfl,bB,bC,bD,bE,bF⟩⟩
    exact wl_fin bA ⟨_,_,_,_,rfl,(own_lo bB a7.size),bC,(own_lo bD a7.size),bE,bF⟩
   ·intro i c7
    rintro _ _ _ _ _ _ _
    refine sw ?_
    refine pu (vp f 7) wN ?_
    exact f2
   ·intro i bG
    rintro _ _ _ _ rfl _ _ _
    refine sw ?_
    have bH:=(a1.kp bG)
    refine lN (L_28 a.Old A B C D) wN isAgg_28 sizeOf_28 bH ?_
    exact f2
   ·intro i a8
    have aN:=a2.extk a8
    rintro _ rfl _ rfl _ ⟨c8,c9,cC,cD,rfl,aO,cE,aP,_⟩ _ rfl _ rfl _ _
    refine sw ?_
    refine cl wN (cicopyEp i _ a.Old (mR_28 (aY.from0 aN) aZ (ba.from0 aN) bb)) ?_
    rintro _ aM ⟨bI,⟨cF,cG,cH,cI,rfl,a9,bJ,aA,bK,bL⟩⟩
    exact wl_fin bI ⟨_,_,_,_,rfl,(own_lo a9 a8.size),bJ,(own_lo aA a8.size),bK,bL,⟨(Ap.lt aO a9 (Nat.le_refl _)),(Ap.lt aO aA (Nat.le_refl _)),(Ap.lt aP a9 (Nat.le_refl _)),(Ap.lt aP aA (Nat.le_refl _))⟩⟩
   ·intro i cJ
    rintro _ rfl _ rfl _ ⟨cK,cL,cM,cN,rfl,_⟩ _ rfl _ rfl _ _
    refine sw ?_
    refine pu (vp f 2) wN ?_
    exact f2
  ·intro i Y
   rintro _ rfl _ rfl _ ⟨t,u,x,y,rfl,ai,bM,aj,bN,bO⟩ _ rfl _ rfl _ ⟨K,L,M,N,rfl,ak,bP,am,bQ,bR,an⟩ _ rfl
   refine sw ?_
   have bS:=(a1.kp Y)
   refine st (va (L_28 (a.Cur) t u x y)) (L_28 (a.Cur) t u x y) (L_30 a j l t u x y A B C D r s) wN sizeOf_28 bS ?_
   intro aM Z bT cO
   have bU:=(a2.extk Y).ext Z (fun k hk=>by subst hk;exact ae)
   refine pu (vp f 7) wN ?_
   refine st (va (L_28 (a.Old) K L M N)) (L_28 (a.Old) K L M N) (L_30 a j l t u x y K L M N r s) wN sizeOf_28 bT ?_
   intro cP aa bW cQ
   have bX:=bU.ext aa (fun k hk=>by subst hk;exact ae)
   refine nx ?_
   refine lN (L_30 a j l t u x y K L M N r s) wN isAgg_30 sizeOf_30 bW ?_
   have ao:=nL W (aF)
   have bY:=((((((be.kp J).ch b (Ne.symm (nN ao))).ch d (Ne.symm (nN ao))).kp Y).ch Z (Ne.symm (nN ao))).ch aa (Ne.symm (nN ao)))
   refine sv (L_30 a j l t u x y K L M N r s) wN sizeOf_30 bY ?_
   intro cR ap bZ cS
   have ca:=bX.ext ap (fun k hk=>by subst hk;exact nT X.size aF)
   refine n3 ?_
   have aq:=nL W g.size
   have cb:=(own_ch (own_ch (own_ch (own_kp (own_ch (own_ch m b (ne1 m aq)) d (ne1 m aq)) Y) Z (ne1 m aq)) aa (ne1 m aq)) ap (ne1 m (az)))
   have au:=fun (E sz n:Nat) (v:Value) (aQ:List Value) (o:World.ownsRow i ah.heap.size E sz v n aQ) (aB:World.ownsRow i ah.heap.size E sz v n aQ)=>(own_ch (own_ch (own_ch o Z (ne1 aB (nL W (z4 g J b d)))) aa (ne1 aB (nL W (z4 g J b d)))) ap (ne1 aB (nL az (z3 J b d))))
   have cc:=(au _ _ _ _ _ ai ai)
   have cd:=(au _ _ _ _ _ aj aj)
   have ce:=(au _ _ _ _ _ ak ak)
   have cg:=(au _ _ _ _ _ am am)
   have av:=nL W g.size
   have ci:=(own_ch (own_ch (own_ch (own_kp (own_ch (own_ch p b (ne1 p av)) d (ne1 p av)) Y) Z (ne1 p av)) aa (ne1 p av)) ap (ne1 p (az)))
   refine ret_1 (.inl rfl) (va (L_30 a j l t u x y K L M N r s)) rfl (rv_c (L_30 a j l t u x y K L M N r s) rfl bZ isAgg_30 sizeOf_30) ?_
   refine ⟨ca.keep0,?_⟩
   have cj:a=a:=by rfl
   rw [cj]
   have ax:=z5 X g J b d
   exact ⟨_,_,_,_,_,_,_,_,_,_,_,_,rfl,(own_lo cb (z2 X g)),b1,(own_lo cc ax),bM,(own_lo cd ax),bN,(own_lo ce ax),bP,(own_lo cg ax),bQ,(own_lo ci (z2 X g)),b2,⟨⟨(Ap.lt m ai (z2 b d)),⟨(Ap.lt m aj (z2 b d)),⟨(Ap.lt m ak (z2 b d)),⟨(Ap.lt m am (z2 b d)),⟨b3,trivial⟩⟩⟩⟩⟩,⟨⟨(bO.1.1),⟨(an.1),⟨(an.2.1),⟨(Ap.lt p ai (z2 b d)).symm,trivial⟩⟩⟩⟩,⟨⟨(an.2.2.1),⟨(an.2.2.2),⟨(Ap.lt p aj (z2 b d)).symm,trivial⟩⟩⟩,⟨⟨(bR.1.1),⟨(Ap.lt p ak (z2 b d)).symm,trivial⟩⟩,⟨⟨(Ap.lt p am (z2 b d)).symm,trivial⟩,⟨trivial,trivial⟩⟩⟩⟩⟩⟩⟩

def i_hasBit (b:PWin) (a:Int):(Bool):=decide ((((b.Bits.getD (((a % 1024) / 32)).toNat 0) / (2:Int) ^ ((a % 32)).toNat) % 2)=1)
theorem cihasBit (d:World) (h:Value) (b:PWin) (k:R_26 d h b) (a:Int) (q:b.Bits.length=32) (r:0≤a):Fn Try.prog 79 #[h,(vi a)] d (fun v i=>Keep d i∧O_4 i d.heap.size v (i_hasBit b a)):=by
 obtain ⟨e,f,rfl,j,s⟩:=k
 refine fn_ofS (n:=17) [(va (L_26 b e f)),(vi a)] Try.func79 rfl rfl ?_
 refine sr ?_
 refine bx (L_26 b e f) wN ?_
 intro l t u w m o
 have g:=(Ch.base d).extk m
 refine aw (vb false) ?_
 refine nx ?_
 refine pu (vp l 1) wN ?_
 refine ld (vs e b.Bits.length f) wN isAgg_24 o ?_
 refine mw (vi a) ?_
 refine wl_rem a 1024 wN rfl rfl (by kernel_rfl) (by first|omega|assumption) ?_
 refine wl_quo (a % 1024) 32 wN rfl rfl (by kernel_rfl) (by omega) (by omega) (by omega) ?_
 refine ix wN ((a % 1024) / 32) slTy_24 (j.from0 g) ?_
 refine ei (x:=b.Bits) ((((a % 1024) / 32)).toNat) wN isAgg_3 (j.from0 g) ?_
 refine mw (vi a) ?_
 refine wl_rem a 32 wN rfl rfl (by kernel_rfl) (by first|omega|assumption) ?_
 refine wl_shr (b.Bits.getD (((a % 1024) / 32)).toNat 0) (a % 32) wN rfl rfl rfl rfl rfl (by omega) (by omega) ?_
 refine wl_and ((b.Bits.getD (((a % 1024) / 32)).toNat 0) / (2:Int) ^ ((a % 32)).toNat) 1 2 1 wN rfl rfl (by decide) (by decide) (by decide) (by kernel_rfl) ?_
 refine pu (vb (decide ((((b.Bits.getD (((a % 1024) / 32)).toNat 0) / (2:Int) ^ ((a % 32)).toNat) % 2)=1))) wN ?_
 refine aw (vb (decide ((((b.Bits.getD (((a % 1024) / 32)).toNat 0) / (2:Int) ^ ((a % 32)).toNat) % 2)=1))) ?_
 refine n3 ?_
 refine rt (vb (decide ((((b.Bits.getD (((a % 1024) / 32)).toNat 0) / (2:Int) ^ ((a % 32)).toNat) % 2)=1))) ?_
 refine ⟨g.keep0,?_⟩
 have p:i_hasBit b a=decide ((((b.Bits.getD (((a % 1024) / 32)).toNat 0) / (2:Int) ^ ((a % 32)).toNat) % 2)=1):=by rfl
 rw [p]
 exact rfl

def iWin (w:PWin):Bool:=bif i_within w.Top (-1) 281474976710655 then (bif areW w.Bits 32 then (bif noneIn (i_hasBit w) (w.Top+1) 1024 then (decide (w.Top = -1) || i_hasBit w w.Top) else false) else false) else false
theorem ciWinOk (l:World) (G:Value) (d:PWin) (R:R_26 l G d) :Fn Try.prog 62 #[G] l (fun v s=>Keep l s∧O_4 s l.heap.size v (iWin d)):=by
 obtain ⟨t,w,rfl,A,B⟩:=R
 refine fn_ofS (n:=33) [(va (L_26 d t w))] Try.func62 rfl rfl ?_
 refine sr ?_
 refine bx (L_26 d t w) wN ?_
 intro j S am H T I
 have J:=(Ch.base l).extk T
 refine aw (vb false) ?_
 refine n4 ?_
 refine jT1 [(1,(vp j 0)),(2,(vb false))] (iWin d=false) ?_ fun K=>?_
 ·intro V L W an
  have X:=J.extk W
  refine sr ?_
  refine aw (vb false) ?_
  refine n1 ?_
  refine rt (vb false) ?_
  refine ⟨X.keep0,?_⟩
  rw [V]
  exact rfl
 refine pu (vp j 0) wN ?_
 refine ld (vi d.Top) wN isAgg_3 I ?_
 refine cl wN (ciwithin S d.Top (-1) 281474976710655) ?_
 rintro _ L ⟨o,rfl⟩
 have M:=J.extk o
 refine pu (vb (!(i_within d.Top (-1) 281474976710655))) wN ?_
 refine mw (vb (!(i_within d.Top (-1) 281474976710655))) ?_
 rcases bf (i_within d.Top (-1) 281474976710655) with e|e
 ·have ao:=impl_within_f e
  iterate 4 refine sk (cA not e) ?_
  refine pk (vb true) wN (cA not e) ?_
  refine n2 ?_
  refine ct (Eq.refl true) ?_
  have Y:iWin d=false:=by first|(simp [iWin,e];done)|(have hz:=noneIn_f (f:=i_hasBit d) (a:=d.Top+1) (b:=1024) (q:=q) (by assumption) (by omega) (by omega);simp [iWin,e,hz];done)|(have hz:=noneIn_t (f:=i_hasBit d) (a:=d.Top+1) (b:=1024) (q:=q) (by assumption) (by omega);simp [iWin,e,hz];done)
  exact wj (K Y _ o)
 have ap:=impl_within_t e
 refine pu (vp j 1) (wS (cA not e)) ?_
 have N:=(I.kp o)
 refine ld (vs t d.Bits.length w) (wS (cA not e)) isAgg_24 N ?_
 refine cl (wS (cA not e)) (ciareWords L _ d.Bits (mR_24 (A.from0 M) B) 32) ?_
 rintro _ p ⟨x,rfl⟩
 have Z:=M.extk x
 refine pu (vb (!(areW d.Bits 32))) (wS (cA not e)) ?_
 refine pf (vb (!(areW d.Bits 32))) wN (cA not e) ?_
 refine n2 ?_
 rcases bf (areW d.Bits 32) with g|g
 ·refine ct (cA not g) ?_
  have aa:iWin d=false:=by first|(simp [iWin,e,g];done)|(have hz:=noneIn_f (f:=i_hasBit d) (a:=d.Top+1) (b:=1024) (q:=q) (by assumption) (by omega) (by omega);simp [iWin,e,g,hz];done)|(have hz:=noneIn_t (f:=i_hasBit d) (a:=d.Top+1) (b:=1024) (q:=q) (by assumption) (by omega);simp [iWin,e,g,hz];done)
  exact wj (K aa _ (o.trans x))
 have aq:=areW_t g
 refine cf (cA not g) ?_
 refine y2 ?_
 refine pu (vp j 0) wN ?_
 have C:=(N.kp x)
 refine ld (vi d.Top) wN isAgg_3 C ?_
 refine ar (d.Top+1) wN ?_
 refine aw (vi (d.Top+1)) ?_
 refine wl_nil<|wq_then<|wc_block ?_
 refine wc_loopP [(1,(vp j 0)),(3,(vi (d.Top+1)))] ⟨rfl,rfl,trivial⟩ (fun e' s=>∃ (q:Int) (O:Env),e'=pt O [(1,(vp j 0)),(3,(vi q))]∧Ch (fun k=>l.heap.size≤k) l s∧Ch (fun k=>p.heap.size≤k) p s∧d.Top+1≤q∧q≤281474976710656∧(∀ m:Int,d.Top+1≤m→m < q→i_hasBit d m=false)) (fun e' _=>(1024 - (intOf (e' 3))).toNat) ?_ ?_
 ·exact fun u=>⟨(d.Top+1),u,rfl,Z,(Ch.refl (fun k=>p.heap.size≤k) p),(by omega),(by omega),(by first|(intro m ab ac;omega)|exact none_next (by assumption) (by assumption))⟩
 ·rintro _ D ⟨q,O,rfl,y,E,au,av,ax⟩
  refine wc_seq<|sr ?_
  refine mw (vi q) ?_
  refine pu (vb (decide (q < 1024))) wN ?_
  refine n2 ?_
  rcases bt (decide (q < 1024)) with i|i
  ·have ay:=dT i
   refine ct i ?_
   refine wc_skip<|wq_then<|wc_seq<|wc_block<|sr ?_
   have ad:=(C.ch E (Nat.not_le.2 (nL H (z2 o x))))
   refine lN (L_26 d t w) wN isAgg_26 sizeOf_26 ad ?_
   refine mw (vi q) ?_
   refine cl wN (cihasBit D _ d (mR_26 (A.from0 y) B) q (by first|assumption|omega) (by first|assumption|omega)) ?_
   rintro _ ae ⟨P,rfl⟩
   have Q:=y.extk P
   refine n2 ?_
   rcases bf (i_hasBit d q) with r|r
   ·refine cf r ?_
    refine wc_skip<|wq_blk_normal<|wq_then<|wc_region ?_
    refine mw (vi q) ?_
    refine ar (q+1) wN ?_
    refine aw (vi (q+1)) ?_
    refine wl_nil ?_
    refine wq_loopP (w0:=D) [(1,(vp j 0)),(3,(vi (q+1)))] ?_ ?_ ?_
    · exact ⟨rfl,rfl,trivial⟩
    · exact fun u=>⟨(q+1),u,rfl,Q,(((Ch.refl (fun k=>p.heap.size≤k) p).ext E (fun k hk=>hk)).extk P),(by omega),(by omega),(by first|(intro m ab ac;omega)|exact none_next (by assumption) (by assumption))⟩
    · show (1024 - (q+1)).toNat < (1024 - q).toNat;omega
   refine ct r ?_
   refine sr ?_
   refine aw (vb false) ?_
   refine wl_nil<|wq_then<|wc_ret<|wq_blk_ret<|wq_then_ret<|wq_then_ret<|wq_blk_ret<|wq_then_ret ?_
   refine rt (vb false) ?_
   refine ⟨Q.keep0,?_⟩
   have af:iWin d=false:=by first|(simp [iWin,e,g,i,r];done)|(have hz:=noneIn_f (f:=i_hasBit d) (a:=d.Top+1) (b:=1024) (q:=q) (by assumption) (by omega) (by omega);simp [iWin,e,g,i,r,hz];done)|(have hz:=noneIn_t (f:=i_hasBit d) (a:=d.Top+1) (b:=1024) (q:=q) (by assumption) (by omega);simp [iWin,e,g,i,r,hz];done)
   rw [af]
   exact rfl
  have az:=dF i
  refine cf i ?_
  refine wc_exit<|wq_then_exit<|wq_then_exit<|wq_blk_exit<|wq_then<|sr ?_
  refine pu (vp j 0) wN ?_
  have F:=(C.ch E (Nat.not_le.2 (nL H (z2 o x))))
  refine ld (vi d.Top) wN isAgg_3 F ?_
  refine pu (vb (decide (d.Top=(-1)))) wN ?_
  refine mw (vb (decide (d.Top=(-1)))) ?_
  rcases bt (decide (d.Top=(-1))) with h|h
  ·have a0:=dT h
   iterate 4 refine sk h ?_
   refine pk (vb true) wN h ?_
   refine aw (vb true) ?_
   refine n3 ?_
   refine rt (vb true) ?_
   refine ⟨y.keep0,?_⟩
   have ah:iWin d=true:=by first|(simp [iWin,e,g,i,h];done)|(have hz:=noneIn_f (f:=i_hasBit d) (a:=d.Top+1) (b:=1024) (q:=q) (by assumption) (by omega) (by omega);simp [iWin,e,g,i,h,hz];done)|(have hz:=noneIn_t (f:=i_hasBit d) (a:=d.Top+1) (b:=1024) (q:=q) (by assumption) (by omega);simp [iWin,e,g,i,h,hz];done)
   rw [ah]
   exact rfl
  have a1:=dF h
  refine lN (L_26 d t w) (wS h) isAgg_26 sizeOf_26 F ?_
  refine pu (vp j 0) (wS h) ?_
  refine ld (vi d.Top) (wS h) isAgg_3 F ?_
  refine cl (wS h) (cihasBit D _ d (mR_26 (A.from0 y) B) d.Top (by first|assumption|omega) (by first|assumption|omega)) ?_
  rintro _ ae ⟨ai,rfl⟩
  have aj:=y.extk ai
  refine pf (vb (i_hasBit d d.Top)) wN h ?_
  refine aw (vb (i_hasBit d d.Top)) ?_
  refine n3 ?_
  refine rt (vb (i_hasBit d d.Top)) ?_
  refine ⟨aj.keep0,?_⟩
  have ak:iWin d=(i_hasBit d d.Top):=by first|(simp [iWin,e,g,i,h];done)|(have hz:=noneIn_f (f:=i_hasBit d) (a:=d.Top+1) (b:=1024) (q:=q) (by assumption) (by omega) (by omega);simp [iWin,e,g,i,h,hz];done)|(have hz:=noneIn_t (f:=i_hasBit d) (a:=d.Top+1) (b:=1024) (q:=q) (by assumption) (by omega);simp [iWin,e,g,i,h,hz];done)
  rw [ak]
  exact rfl
theorem iWin_t {w:PWin} (h:iWin w=true):allW w.Bits=true∧w.Bits.length=32 ∧ -1≤w.Top∧w.Top≤281474976710655:=by
  unfold iWin at h
  cases h1:i_within w.Top (-1) 281474976710655 with
  | false=>simp only [h1,cond_false] at h;cases h
  | true =>
    cases h2:areW w.Bits 32 with
    | false=>simp only [h1,h2,cond_true,cond_false] at h;cases h
    | true =>
      have b:=areW_t h2
      have a:=impl_within_t h1
      exact ⟨b.1,by omega,a.1,a.2⟩

def i_EpOk (a:PEp):(Bool):=bif (i_within a.N 0 4294967295) then (bif (decide ((a.Key.length:Int)=32)) then (bif (i_within a.Seq 0 281474976710656) then ((iWin a.Win)) else (false)) else (false)) else (false)
theorem ciEpOk (f:World) (p:Value) (a:PEp) (u:R_28 f p a) :Fn Try.prog 43 #[p] f (fun v q=>Keep f q∧O_4 q f.heap.size v (i_EpOk a)):=by
 obtain ⟨i,j,k,l,rfl,w,H,x,y⟩:=u
 refine fn_ofS (n:=22) [(va (L_28 a i j k l))] Try.func43 rfl rfl ?_
 refine sr ?_
 refine bx (L_28 a i j k l) wN ?_
 intro g A I J B r
 refine aw (vb false) ?_
 refine nx ?_
 refine pu (vp g 0) wN ?_
 refine ld (vi a.N) wN isAgg_3 r ?_
 refine cl wN (ciwithin A a.N 0 4294967295) ?_
 rintro _ C ⟨s,rfl⟩
 have h:=((Ch.base f).extk B).extk s
 refine mw (vb (i_within a.N 0 4294967295)) ?_
 rcases bf (i_within a.N 0 4294967295) with b|b
 ·have K:=impl_within_f b
  iterate 4 refine sk b ?_
  refine pf (vb false) wN b ?_
  refine mw (vb false) ?_
  iterate 3 refine sk (Eq.refl false) ?_
  refine pf (vb false) wN (Eq.refl false) ?_
  refine mw (vb false) ?_
  iterate 3 refine sk (Eq.refl false) ?_
  refine pf (vb false) wN (Eq.refl false) ?_
  refine aw (vb false) ?_
  refine n3 ?_
  refine rt (vb false) ?_
  refine ⟨h.keep0,?_⟩
  simp only [i_EpOk,b,cond_true,cond_false]
  exact rfl
 have L:=impl_within_t b
 refine pu (vp g 1) (wS b) ?_
 have m:=(r.kp s)
 refine ld (vs i a.Key.length j) (wS b) isAgg_22 m ?_
 refine ln (wS b) slTy_22 (w.from0 h) ?_
 refine pu (vb (decide ((a.Key.length:Int)=32))) (wS b) ?_
 refine pk (vb (decide ((a.Key.length:Int)=32))) wN b ?_
 refine mw (vb (decide ((a.Key.length:Int)=32))) ?_
 rcases bf (decide ((a.Key.length:Int)=32)) with d|d
 ·have M:=dF d
  iterate 3 refine sk d ?_
  refine pf (vb false) wN d ?_
  refine mw (vb false) ?_
  iterate 3 refine sk (Eq.refl false) ?_
  refine pf (vb false) wN (Eq.refl false) ?_
  refine aw (vb false) ?_
  refine n3 ?_
  refine rt (vb false) ?_
  refine ⟨h.keep0,?_⟩
  simp only [i_EpOk,b,d,cond_true,cond_false]
  exact rfl
 have O:=dT d
 refine pu (vp g 2) (wS d) ?_
 refine ld (vi a.Seq) (wS d) isAgg_3 m ?_
 refine cl (wS d) (ciwithin C a.Seq 0 281474976710656) ?_
 rintro _ D ⟨t,rfl⟩
 have o:=h.extk t
 refine pk (vb (i_within a.Seq 0 281474976710656)) wN d ?_
 refine mw (vb (i_within a.Seq 0 281474976710656)) ?_
 rcases bf (i_within a.Seq 0 281474976710656) with e|e
 ·have P:=impl_within_f e
  iterate 3 refine sk e ?_
  refine pf (vb false) wN e ?_
  refine aw (vb false) ?_
  refine n3 ?_
  refine rt (vb false) ?_
  refine ⟨o.keep0,?_⟩
  simp only [i_EpOk,b,d,e,cond_true,cond_false]
  exact rfl
 have Q:=impl_within_t e
 refine pu (vp g 3) (wS e) ?_
 have E:=(m.kp t)
 refine lN (L_26 a.Win k l) (wS e) isAgg_26 sizeOf_26 E ?_
 refine cl (wS e) (ciWinOk D _ a.Win (mR_26 (x.from0 o) y)) ?_
 rintro _ R ⟨F,rfl⟩
 have G:=o.extk F
 refine pk (vb (iWin a.Win)) wN e ?_
 refine aw (vb (iWin a.Win)) ?_
 refine n3 ?_
 refine rt (vb (iWin a.Win)) ?_
 refine ⟨G.keep0,?_⟩
 simp only [i_EpOk,b,d,e,cond_true,cond_false]
 exact rfl
theorem impl_EpOk_t {e:PEp} (h:i_EpOk e=true):0≤e.N∧e.N≤4294967295∧(e.Key.length:Int)=32∧0≤e.Seq∧e.Seq≤281474976710656∧iWin e.Win=true:=by
  simp only [i_EpOk,Bool.cond_false_right,Bool.and_eq_true,decide_eq_true_eq] at h
  have a:=impl_within_t h.1
  have b:=impl_within_t h.2.2.1
  exact ⟨a.1,a.2,h.2.1,b.1,b.2,h.2.2.2⟩

def b_Equal (a:List UInt8) (b:List UInt8):(Bool):=(eqS (ByteArray.mk a.toArray) (ByteArray.mk b.toArray))
theorem cbEqual (d:World) (e:Value) (a:List UInt8) (l:R_22 d e a) (f:Value) (b:List UInt8) (m:R_22 d f b) :Fn Try.prog 32 #[e,f] d (fun v g=>Keep d g∧O_4 g d.heap.size v (b_Equal a b)):=by
 obtain ⟨h,i,rfl,o,r⟩:=l
 obtain ⟨j,k,rfl,p,s⟩:=m
 refine fn_ofS (n:=10) [(vs h a.length i),(vs j b.length k)] Try.func32 rfl rfl ?_
 refine sr ?_
 refine aw (vb false) ?_
 refine nx ?_
 refine mw (vs h a.length i) ?_
 refine wl_b2s a wN rfl rfl rfl rfl Try.underlying22 Try.underlying5 Try.underlying9 o ?_
 refine mw (vs j b.length k) ?_
 refine wl_b2s b wN rfl rfl rfl rfl Try.underlying22 Try.underlying5 Try.underlying9 p ?_
 refine pu (vb (eqS (ByteArray.mk a.toArray) (ByteArray.mk b.toArray))) wN ?_
 refine aw (vb (eqS (ByteArray.mk a.toArray) (ByteArray.mk b.toArray))) ?_
 refine n3 ?_
 refine rt (vb (eqS (ByteArray.mk a.toArray) (ByteArray.mk b.toArray))) ?_
 refine ⟨Ch.refl _ _,?_⟩
 have q:b_Equal a b=(eqS (ByteArray.mk a.toArray) (ByteArray.mk b.toArray)):=by rfl
 rw [q]
 exact rfl

theorem cisameInts (d:World) (r:Value) (a:List Int) (w:R_24 d r a) (s:Value) (b:List Int) (y:R_24 d s b) :Fn Try.prog 80 #[r,s] d (fun v j=>Keep d j∧O_4 j d.heap.size v (eqI a b)):=by
 obtain ⟨f,g,rfl,p,F⟩:=w
 obtain ⟨h,i,rfl,q,G⟩:=y
 refine fn_ofS (n:=26) [(vs f a.length g),(vs h b.length i)] Try.func80 rfl rfl ?_
 refine sr ?_
 refine aw (vb false) ?_
 refine n4 ?_
 refine mw (vs f a.length g) ?_
 refine ln wN slTy_24 p ?_
 refine mw (vs h b.length i) ?_
 refine ln wN slTy_24 q ?_
 refine pu (vb (!(decide ((a.length:Int)=(b.length:Int))))) wN ?_
 refine n2 ?_
 rcases bf (decide ((a.length:Int)=(b.length:Int))) with l|l
 ·have H:=dF l
  refine ct (cA not l) ?_
  refine sr ?_
  refine aw (vb false) ?_
  refine n1 ?_
  refine rt (vb false) ?_
  refine ⟨Ch.refl _ _,?_⟩
  have A:eqI a b=false:=by first|exact eqI_len (by assumption)|exact eqI_el (by assumption)|exact eqI_all (by assumption) (by omega) (by omega)
  rw [A]
  exact rfl
 have I:=dT l
 refine cf (cA not l) ?_
 refine y2 ?_
 refine mw (vs f a.length g) ?_
 refine ln wN slTy_24 p ?_
 refine mw (vi 0) ?_
 refine wl_nil<|wq_then<|wc_block ?_
 refine wc_loopP [(1,(vs h b.length i)),(12,(vs f a.length g)),(13,(vi (a.length:Int))),(14,(vi ((0:Nat):Int)))] ⟨rfl,rfl,rfl,(cA (Value.int .i64) (show (0:Int)=((0:Nat):Int) by omega)),trivial⟩ (fun e' j=>∃ (k:Nat) (t:Env),e'=pt t [(1,(vs h b.length i)),(12,(vs f a.length g)),(13,(vi (a.length:Int))),(14,(vi ((k:Nat):Int)))]∧Ch (fun k=>d.heap.size≤k) d j∧Ch (fun k=>d.heap.size≤k) d j∧k≤a.length∧a.take k=b.take k) (fun e' _=>a.length - ((intOf (e' 14))).toNat) ?_ ?_
 ·exact fun u=>⟨0,u,rfl,(Ch.base d),(Ch.refl (fun k=>d.heap.size≤k) d),(by omega),(by first|rfl|exact eqI_next (by assumption) (by omega) (by omega) (by assumption))⟩
 ·rintro _ B ⟨k,t,rfl,e,C,J,K⟩
  refine sr ?_
  refine pu (vb (decide (((k:Nat):Int) < (a.length:Int)))) wN ?_
  refine wl_nil<|wq_then<|wc_seq ?_
  rcases bf (decide (((k:Nat):Int) < (a.length:Int))) with m|m
  ·have L:=dF m
   refine cf m ?_
   refine wc_exit<|wq_then_exit<|wq_then_exit<|wq_blk_exit<|wq_then<|sr ?_
   refine aw (vb true) ?_
   refine n3 ?_
   refine rt (vb true) ?_
   refine ⟨e.keep0,?_⟩
   have D:eqI a b=true:=by first|exact eqI_len (by assumption)|exact eqI_el (by assumption)|exact eqI_all (by assumption) (by omega) (by omega)
   rw [D]
   exact rfl
  have M:=dT m
  refine ct m ?_
  refine wc_skip<|wq_then<|wc_seq<|wc_block<|sr ?_
  refine mw (vi ((k:Nat):Int)) ?_
  refine ix wN ((k:Nat):Int) slTy_24 (p.from0 e) ?_
  refine ei (x:=a) k wN isAgg_3 (p.from0 e) ?_
  refine aw (vi ((k:Nat):Int)) ?_
  refine aw (vi (a.getD k 0)) ?_
  refine nx ?_
  refine mw (vi (a.getD k 0)) ?_
  refine mw (vs h b.length i) ?_
  refine mw (vi ((k:Nat):Int)) ?_
  refine ix wN ((k:Nat):Int) slTy_24 (q.from0 e) ?_
  refine ei (x:=b) k wN isAgg_3 (q.from0 e) ?_
  refine pu (vb (!(decide ((a.getD k 0)=(b.getD k 0))))) wN ?_
  refine n2 ?_
  rcases bf (decide ((a.getD k 0)=(b.getD k 0))) with o|o
  ·have N:=dF o
   refine ct (cA not o) ?_
   refine sr ?_
   refine aw (vb false) ?_
   refine wl_nil<|wq_then<|wc_ret<|wq_blk_ret<|wq_then_ret<|wq_then_ret<|wq_blk_ret<|wq_then_ret ?_
   refine rt (vb false) ?_
   refine ⟨e.keep0,?_⟩
   have E:eqI a b=false:=by first|exact eqI_len (by assumption)|exact eqI_el (by assumption)|exact eqI_all (by assumption) (by omega) (by omega)
   rw [E]
   exact rfl
  have O:=dT o
  refine cf (cA not o) ?_
  refine wc_skip<|wq_blk_normal<|wq_then<|wc_region ?_
  refine ar (((k:Nat):Int)+1) wN ?_
  refine mw (vi (((k:Nat):Int)+1)) ?_
  refine wl_nil ?_
  refine wq_loopP (w0:=B) [(1,(vs h b.length i)),(12,(vs f a.length g)),(13,(vi (a.length:Int))),(14,(vi (((k+1):Nat):Int)))] ?_ ?_ ?_
  · exact ⟨rfl,rfl,rfl,(cA (Value.int .i64) (show ((((k:Nat):Int)+1):Int)=(((k+1):Nat):Int) by omega)),trivial⟩
  · exact fun u=>⟨(k+1),u,rfl,e,((Ch.refl (fun k=>d.heap.size≤k) d).ext C (fun k hk=>hk)),(by omega),(by first|rfl|exact eqI_next (by assumption) (by omega) (by omega) (by assumption))⟩
  · show a.length - ((((k+1):Nat):Int)).toNat < a.length - (((k:Nat):Int)).toNat;omega

def i_sameEp (a:PEp) (b:PEp):(Bool):=bif (decide (a.N=b.N)) then (bif (b_Equal a.Key b.Key) then (bif (decide (a.Seq=b.Seq)) then (bif (decide (a.Win.Top=b.Win.Top)) then ((eqI a.Win.Bits b.Win.Bits)) else (false)) else (false)) else (false)) else (false)
theorem cisameEp (j:World) (C:Value) (a:PEp) (G:R_28 j C a) (D:Value) (b:PEp) (H:R_28 j D b) :Fn Try.prog 63 #[C,D] j (fun v E=>Keep j E∧O_4 E j.heap.size v (i_sameEp a b)):=by
 obtain ⟨m,o,p,q,rfl,I,J,K,L⟩:=G
 obtain ⟨r,s,t,u,rfl,M,O,P,Q⟩:=H
 refine fn_ofS (n:=42) [(va (L_28 a m o p q)),(va (L_28 b r s t u))] Try.func63 rfl rfl ?_
 refine sr ?_
 refine bx (L_28 a m o p q) wN ?_
 intro h Y Z aa R S
 refine bx (L_28 b r s t u) wN ?_
 intro i T ab ac F w
 have l:=((Ch.base j).extk R).extk F
 refine aw (vb false) ?_
 refine nx ?_
 refine pu (vp h 0) wN ?_
 have x:=(S.kp F)
 refine ld (vi a.N) wN isAgg_3 x ?_
 refine pu (vp i 0) wN ?_
 refine ld (vi b.N) wN isAgg_3 w ?_
 refine pu (vb (decide (a.N=b.N))) wN ?_
 refine mw (vb (decide (a.N=b.N))) ?_
 rcases bf (decide (a.N=b.N)) with d|d
 ·have ad:=dF d
  iterate 5 refine sk d ?_
  refine pf (vb false) wN d ?_
  refine mw (vb false) ?_
  iterate 5 refine sk (Eq.refl false) ?_
  refine pf (vb false) wN (Eq.refl false) ?_
  refine mw (vb false) ?_
  iterate 7 refine sk (Eq.refl false) ?_
  refine pf (vb false) wN (Eq.refl false) ?_
  refine mw (vb false) ?_
  iterate 7 refine sk (Eq.refl false) ?_
  refine pf (vb false) wN (Eq.refl false) ?_
  refine aw (vb false) ?_
  refine n3 ?_
  refine rt (vb false) ?_
  refine ⟨l.keep0,?_⟩
  simp only [i_sameEp,d,cond_true,cond_false]
  exact rfl
 have ae:=dT d
 refine pu (vp h 1) (wS d) ?_
 refine ld (vs m a.Key.length o) (wS d) isAgg_22 x ?_
 refine pu (vp i 1) (wS d) ?_
 refine ld (vs r b.Key.length s) (wS d) isAgg_22 w ?_
 refine cl (wS d) (cbEqual T _ a.Key (mR_22 (I.from0 l) J) _ b.Key (mR_22 (M.from0 l) O)) ?_
 rintro _ V ⟨y,rfl⟩
 have k:=l.extk y
 refine pk (vb (b_Equal a.Key b.Key)) wN d ?_
 refine mw (vb (b_Equal a.Key b.Key)) ?_
 rcases bf (b_Equal a.Key b.Key) with g|g
 ·iterate 5 refine sk g ?_
  refine pf (vb false) wN g ?_
  refine mw (vb false) ?_
  iterate 7 refine sk (Eq.refl false) ?_
  refine pf (vb false) wN (Eq.refl false) ?_
  refine mw (vb false) ?_
  iterate 7 refine sk (Eq.refl false) ?_
  refine pf (vb false) wN (Eq.refl false) ?_
  refine aw (vb false) ?_
  refine n3 ?_
  refine rt (vb false) ?_
  refine ⟨k.keep0,?_⟩
  simp only [i_sameEp,d,g,cond_true,cond_false]
  exact rfl
 refine pu (vp h 2) (wS g) ?_
 have A:=(x.kp y)
 refine ld (vi a.Seq) (wS g) isAgg_3 A ?_
 refine pu (vp i 2) (wS g) ?_
 have B:=(w.kp y)
 refine ld (vi b.Seq) (wS g) isAgg_3 B ?_
 refine pu (vb (decide (a.Seq=b.Seq))) (wS g) ?_
 refine pk (vb (decide (a.Seq=b.Seq))) wN g ?_
 refine mw (vb (decide (a.Seq=b.Seq))) ?_
 rcases bf (decide (a.Seq=b.Seq)) with e|e
 ·have af:=dF e
  iterate 7 refine sk e ?_
  refine pf (vb false) wN e ?_
  refine mw (vb false) ?_
  iterate 7 refine sk (Eq.refl false) ?_
  refine pf (vb false) wN (Eq.refl false) ?_
  refine aw (vb false) ?_
  refine n3 ?_
  refine rt (vb false) ?_
  refine ⟨k.keep0,?_⟩
  simp only [i_sameEp,d,g,e,cond_true,cond_false]
  exact rfl
 have ah:=dT e
 refine pu (vp h 3) (wS e) ?_
 refine pu (vp h 3) (wS e) ?_
 refine ld (vi a.Win.Top) (wS e) isAgg_3 A ?_
 refine pu (vp i 3) (wS e) ?_
 refine pu (vp i 3) (wS e) ?_
 refine ld (vi b.Win.Top) (wS e) isAgg_3 B ?_
 refine pu (vb (decide (a.Win.Top=b.Win.Top))) (wS e) ?_
 refine pk (vb (decide (a.Win.Top=b.Win.Top))) wN e ?_
 refine mw (vb (decide (a.Win.Top=b.Win.Top))) ?_
 rcases bf (decide (a.Win.Top=b.Win.Top)) with f|f
 ·have ai:=dF f
  iterate 7 refine sk f ?_
  refine pf (vb false) wN f ?_
  refine aw (vb false) ?_
  refine n3 ?_
  refine rt (vb false) ?_
  refine ⟨k.keep0,?_⟩
  simp only [i_sameEp,d,g,e,f,cond_true,cond_false]
  exact rfl
 have aj:=dT f
 refine pu (vp h 3) (wS f) ?_
 refine pu (vp h 4) (wS f) ?_
 refine ld (vs p a.Win.Bits.length q) (wS f) isAgg_24 A ?_
 refine pu (vp i 3) (wS f) ?_
 refine pu (vp i 4) (wS f) ?_
 refine ld (vs t b.Win.Bits.length u) (wS f) isAgg_24 B ?_
 refine cl (wS f) (cisameInts V _ a.Win.Bits (mR_24 (K.from0 k) L) _ b.Win.Bits (mR_24 (P.from0 k) Q)) ?_
 rintro _ ak ⟨W,rfl⟩
 have X:=k.extk W
 refine pk (vb (eqI a.Win.Bits b.Win.Bits)) wN f ?_
 refine aw (vb (eqI a.Win.Bits b.Win.Bits)) ?_
 refine n3 ?_
 refine rt (vb (eqI a.Win.Bits b.Win.Bits)) ?_
 refine ⟨X.keep0,?_⟩
 simp only [i_sameEp,d,g,e,f,cond_true,cond_false]
 exact rfl

theorem isAgg_4:∀ w,(isAgg 4).run Try.prog w=.ok false w:=fun w=>by kernel_rfl
def i_oldOk (a:PChan):(Bool):=bif a.HasOld then (bif (i_EpOk a.Old) then (bif (decide (a.Old.N=(a.Cur.N - 1))) then (bif (i_within a.Until 0 1000005) then (true) else (bif (decide (a.Until=(-1))) then (decide (a.Role=1)) else (false))) else (false)) else (false)) else (bif (i_sameEp a.Old {N:=0,Key:=[],Seq:=0,Win:={Top:=0,Bits:=[]:PWin}:PEp}) then (decide (a.Until=0)) else (false))
theorem cioldOk (k:World) (x:Value) (a:PChan) (S:R_30 k x a) (ab:0≤a.Cur.N) (ac:a.Cur.N≤4294967295):Fn Try.prog 44 #[x] k (fun v y=>Keep k y∧O_4 y k.heap.size v (i_oldOk a)):=by
 obtain ⟨A,B,C,D,E,F,m,o,p,q,G,H,rfl,ad,ae,af,ah,ai,aj,I,J,K,L,ak,am⟩:=S
 refine fn_ofS (n:=42) [(va (L_30 a A B C D E F m o p q G H))] Try.func44 rfl rfl ?_
 refine sr ?_
 refine bx (L_30 a A B C D E F m o p q G H) wN ?_
 intro e t an ao T l
 have j:=(Ch.base k).extk T
 refine aw (vb false) ?_
 refine n4 ?_
 refine pu (vp e 12) wN ?_
 refine ld (vb a.HasOld) wN isAgg_4 l ?_
 refine pu (vb (!a.HasOld)) wN ?_
 refine n2 ?_
 rcases bf a.HasOld with g|g
 ·refine ct (cA not g) ?_
  refine sr ?_
  refine pu (vp e 7) wN ?_
  refine lN (L_28 a.Old m o p q) wN isAgg_28 sizeOf_28 l ?_
  refine pu (va Z_28) wN ?_
  refine cl wN (cisameEp t _ a.Old (mR_28 (I.from0 j) J (K.from0 j) L) _ _ (show R_28 t (va Z_28) {N:=0,Key:=[],Seq:=0,Win:={Top:=0,Bits:=[]:PWin}:PEp} from ⟨_,_,_,_,rfl,(Rd.nil _ _),(by simp),(Rd.nil _ _),(by simp)⟩)) ?_
  rintro _ u ⟨M,rfl⟩
  have O:=j.extk M
  refine mw (vb (i_sameEp a.Old {N:=0,Key:=[],Seq:=0,Win:={Top:=0,Bits:=[]:PWin}:PEp})) ?_
  rcases bf (i_sameEp a.Old {N:=0,Key:=[],Seq:=0,Win:={Top:=0,Bits:=[]:PWin}:PEp}) with h|h
  ·iterate 3 refine sk h ?_
   refine pf (vb false) wN h ?_
   refine aw (vb false) ?_
   refine n1 ?_
   refine rt (vb false) ?_
   refine ⟨O.keep0,?_⟩
   simp only [i_oldOk,g,h,cond_true,cond_false]
   exact rfl
  refine pu (vp e 13) (wS h) ?_
  have V:=(l.kp M)
  refine ld (vi a.Until) (wS h) isAgg_3 V ?_
  refine pu (vb (decide (a.Until=0))) (wS h) ?_
  refine pk (vb (decide (a.Until=0))) wN h ?_
  refine aw (vb (decide (a.Until=0))) ?_
  refine n1 ?_
  refine rt (vb (decide (a.Until=0))) ?_
  refine ⟨O.keep0,?_⟩
  simp only [i_oldOk,g,h,cond_true,cond_false]
  exact rfl
 refine cf (cA not g) ?_
 refine y2 ?_
 refine jT1 [(1,(vp e 0)),(2,(vb false))] (i_oldOk a=false) ?_ fun P=>?_
 ·intro W u X ap
  have Y:=j.extk X
  refine sr ?_
  refine aw (vb false) ?_
  refine n1 ?_
  refine rt (vb false) ?_
  refine ⟨Y.keep0,?_⟩
  rw [W]
  exact rfl
 refine pu (vp e 7) wN ?_
 refine lN (L_28 a.Old m o p q) wN isAgg_28 sizeOf_28 l ?_
 refine cl wN (ciEpOk t _ a.Old (mR_28 (I.from0 j) J (K.from0 j) L)) ?_
 rintro _ u ⟨r,rfl⟩
 refine pu (vb (!(i_EpOk a.Old))) wN ?_
 refine mw (vb (!(i_EpOk a.Old))) ?_
 rcases bf (i_EpOk a.Old) with b|b
 ·iterate 8 refine sk (cA not b) ?_
  refine pk (vb true) wN (cA not b) ?_
  refine n2 ?_
  refine ct (Eq.refl true) ?_
  have Z:i_oldOk a=false:=by simp only [i_oldOk,g,b,cond_true,cond_false]
  exact wj (P Z _ r)
 have aq:=impl_EpOk_t b
 refine pu (vp e 7) (wS (cA not b)) ?_
 refine pu (vp e 7) (wS (cA not b)) ?_
 have s:=(l.kp r)
 refine ld (vi a.Old.N) (wS (cA not b)) isAgg_3 s ?_
 refine pu (vp e 2) (wS (cA not b)) ?_
 refine pu (vp e 2) (wS (cA not b)) ?_
 refine ld (vi a.Cur.N) (wS (cA not b)) isAgg_3 s ?_
 refine ar (a.Cur.N - 1) (wS (cA not b)) ?_
 refine pu (vb (!(decide (a.Old.N=(a.Cur.N - 1))))) (wS (cA not b)) ?_
 refine pf (vb (!(decide (a.Old.N=(a.Cur.N - 1))))) wN (cA not b) ?_
 refine n2 ?_
 rcases bf (decide (a.Old.N=(a.Cur.N - 1))) with i|i
 ·have au:=dF i
  refine ct (cA not i) ?_
  have aa:i_oldOk a=false:=by simp only [i_oldOk,g,b,i,cond_true,cond_false]
  exact wj (P aa _ r)
 have av:=dT i
 refine cf (cA not i) ?_
 refine y1 ?_
 refine pu (vp e 13) wN ?_
 refine ld (vi a.Until) wN isAgg_3 s ?_
 refine cl wN (ciwithin u a.Until 0 1000005) ?_
 rintro _ ax ⟨Q,rfl⟩
 have w:=(j.extk r).extk Q
 refine mw (vb (i_within a.Until 0 1000005)) ?_
 rcases bt (i_within a.Until 0 1000005) with d|d
 ·have ay:=impl_within_t d
  iterate 4 refine sk d ?_
  refine su ?_
  refine su ?_
  refine su ?_
  refine sk d ?_
  refine pk (vb true) wN d ?_
  refine aw (vb true) ?_
  refine n3 ?_
  refine rt (vb true) ?_
  refine ⟨w.keep0,?_⟩
  simp only [i_oldOk,g,b,i,d,cond_true,cond_false]
  exact rfl
 have az:=impl_within_f d
 refine pu (vp e 13) (wS d) ?_
 have R:=(s.kp Q)
 refine ld (vi a.Until) (wS d) isAgg_3 R ?_
 refine pu (vb (decide (a.Until=(-1)))) (wS d) ?_
 refine mv (vb (decide (a.Until=(-1)))) (wS d) ?_
 rcases bf (decide (a.Until=(-1))) with f|f
 ·have a0:=dF f
  iterate 3 refine sk f ?_
  refine pf (vb false) (wS d) f ?_
  refine pf (vb false) wN d ?_
  refine aw (vb false) ?_
  refine n3 ?_
  refine rt (vb false) ?_
  refine ⟨w.keep0,?_⟩
  simp only [i_oldOk,g,b,i,d,f,cond_true,cond_false]
  exact rfl
 have a1:=dT f
 refine pu (vp e 0) (wS f) ?_
 refine ld (vi a.Role) (wS f) isAgg_3 R ?_
 refine pu (vb (decide (a.Role=1))) (wS f) ?_
 refine pk (vb (decide (a.Role=1))) (wS d) f ?_
 refine pf (vb (decide (a.Role=1))) wN d ?_
 refine aw (vb (decide (a.Role=1))) ?_
 refine n3 ?_
 refine rt (vb (decide (a.Role=1))) ?_
 refine ⟨w.keep0,?_⟩
 simp only [i_oldOk,g,b,i,d,f,cond_true,cond_false]
 exact rfl

theorem mR_30 {w:World} {x:PChan} {a:Option Addr} {b:Nat} {d:Option Addr} {e:Nat} {f:Option Addr} {g:Nat} {h:Option Addr} {i:Nat} {j:Option Addr} {k:Nat} {l:Option Addr} {m:Nat} (o:Rd w 1 (.slice a x.Sn.length b) x.Sn.length (x.Sn.map bV)) (p:x.Sn.length≤1073741824) (q:Rd w 1 (.slice d x.Cur.Key.length e) x.Cur.Key.length (x.Cur.Key.map bV)) (r:x.Cur.Key.length≤1073741824) (s:Rd w 1 (.slice f x.Cur.Win.Bits.length g) x.Cur.Win.Bits.length (x.Cur.Win.Bits.map iV)) (t:x.Cur.Win.Bits.length≤1073741824) (u:Rd w 1 (.slice h x.Old.Key.length i) x.Old.Key.length (x.Old.Key.map bV)) (v:x.Old.Key.length≤1073741824) (y:Rd w 1 (.slice j x.Old.Win.Bits.length k) x.Old.Win.Bits.length (x.Old.Win.Bits.map iV)) (A:x.Old.Win.Bits.length≤1073741824) (B:Rd w 1 (.slice l x.Next.length m) x.Next.length (x.Next.map bV)) (C:x.Next.length≤1073741824):R_30 w (va (L_30 x a b d e f g h i j k l m)) x:=⟨_,_,_,_,_,_,_,_,_,_,_,_,rfl,o,p,q,r,s,t,u,v,y,A,B,C⟩
def i_ChanOk (a:PChan):(Bool):=bif (i_isRole a.Role) then (bif (i_isNonce a.Sn) then (bif (i_EpOk a.Cur) then (bif (i_oldOk a) then (bif (decide ((a.Next.length:Int)=0)) then (true) else (bif (decide (a.Role=0)) then (bif (decide ((a.Next.length:Int)=32)) then (decide (a.Cur.N < 4294967295)) else (false)) else (false))) else (false)) else (false)) else (false)) else (false)
theorem ciChanOk (o:World) (K:Value) (a:PChan) (ab:R_30 o K a) :Fn Try.prog 19 #[K] o (fun v L=>Keep o L∧O_4 L o.heap.size v (i_ChanOk a)):=by
 obtain ⟨s,t,u,w,x,y,D,E,F,G,p,q,rfl,M,O,P,Q,R,S,ac,ad,ae,af,H,ah⟩:=ab
 refine fn_ofS (n:=45) [(va (L_30 a s t u w x y D E F G p q))] Try.func19 rfl rfl ?_
 refine sr ?_
 refine bx (L_30 a s t u w x y D E F G p q) wN ?_
 intro i ai ay az aj T
 have V:=(Ch.base o).extk aj
 refine aw (vb false) ?_
 refine n4 ?_
 refine jT1 [(1,(vp i 0)),(2,(vb false))] (i_ChanOk a=false) ?_ fun A=>?_
 ·intro ak W am a0
  have an:=V.extk am
  refine sr ?_
  refine aw (vb false) ?_
  refine n1 ?_
  refine rt (vb false) ?_
  refine ⟨an.keep0,?_⟩
  rw [ak]
  exact rfl
 refine pu (vp i 0) wN ?_
 refine ld (vi a.Role) wN isAgg_3 T ?_
 refine cl wN (ciisRole ai a.Role) ?_
 rintro _ W ⟨l,rfl⟩
 have X:=V.extk l
 refine pu (vb (!(i_isRole a.Role))) wN ?_
 refine mw (vb (!(i_isRole a.Role))) ?_
 rcases bf (i_isRole a.Role) with d|d
 ·have a1:=isRole_f d
  iterate 4 refine sk (cA not d) ?_
  refine pk (vb true) wN (cA not d) ?_
  refine mw (vb true) ?_
  iterate 4 refine sk (Eq.refl true) ?_
  refine pk (vb true) wN (Eq.refl true) ?_
  refine mw (vb true) ?_
  iterate 3 refine sk (Eq.refl true) ?_
  refine pk (vb true) wN (Eq.refl true) ?_
  refine n2 ?_
  refine ct (Eq.refl true) ?_
  have ao:i_ChanOk a=false:=by simp only [i_ChanOk,d,cond_true,cond_false]
  exact wj (A ao _ l)
 have a2:=isRole_t d
 refine pu (vp i 1) (wS (cA not d)) ?_
 have Y:=(T.kp l)
 refine ld (vs s a.Sn.length t) (wS (cA not d)) isAgg_22 Y ?_
 refine cl (wS (cA not d)) (ciisNonce W _ a.Sn (mR_22 (M.from0 X) O)) ?_
 rintro _ ap ⟨r,rfl⟩
 have I:=X.extk r
 refine pu (vb (!(i_isNonce a.Sn))) (wS (cA not d)) ?_
 refine pf (vb (!(i_isNonce a.Sn))) wN (cA not d) ?_
 refine mw (vb (!(i_isNonce a.Sn))) ?_
 rcases bf (i_isNonce a.Sn) with e|e
 ·have a3:=isNonce_f e
  iterate 4 refine sk (cA not e) ?_
  refine pk (vb true) wN (cA not e) ?_
  refine mw (vb true) ?_
  iterate 3 refine sk (Eq.refl true) ?_
  refine pk (vb true) wN (Eq.refl true) ?_
  refine n2 ?_
  refine ct (Eq.refl true) ?_
  have aq:i_ChanOk a=false:=by simp only [i_ChanOk,d,e,cond_true,cond_false]
  exact wj (A aq _ (l.trans r))
 have a4:=isNonce_t e
 refine pu (vp i 2) (wS (cA not e)) ?_
 have Z:=(Y.kp r)
 refine lN (L_28 a.Cur u w x y) (wS (cA not e)) isAgg_28 sizeOf_28 Z ?_
 refine cl (wS (cA not e)) (ciEpOk ap _ a.Cur (mR_28 (P.from0 I) Q (R.from0 I) S)) ?_
 rintro _ au ⟨B,rfl⟩
 have k:=I.extk B
 refine pu (vb (!(i_EpOk a.Cur))) (wS (cA not e)) ?_
 refine pf (vb (!(i_EpOk a.Cur))) wN (cA not e) ?_
 refine mw (vb (!(i_EpOk a.Cur))) ?_
 rcases bf (i_EpOk a.Cur) with f|f
 ·iterate 3 refine sk (cA not f) ?_
  refine pk (vb true) wN (cA not f) ?_
  refine n2 ?_
  refine ct (Eq.refl true) ?_
  have av:i_ChanOk a=false:=by simp only [i_ChanOk,d,e,f,cond_true,cond_false]
  exact wj (A av _ ((l.trans r).trans B))
 have a5:=impl_EpOk_t f
 have aa:=(Z.kp B)
 refine lN (L_30 a s t u w x y D E F G p q) (wS (cA not f)) isAgg_30 sizeOf_30 aa ?_
 refine cl (wS (cA not f)) (cioldOk au _ a (mR_30 (M.from0 k) O (P.from0 k) Q (R.from0 k) S (ac.from0 k) ad (ae.from0 k) af (H.from0 k) ah) (by omega) (by omega)) ?_
 rintro _ a6 ⟨J,rfl⟩
 have m:=k.extk J
 refine pu (vb (!(i_oldOk a))) (wS (cA not f)) ?_
 refine pf (vb (!(i_oldOk a))) wN (cA not f) ?_
 refine n2 ?_
 rcases bf (i_oldOk a) with j|j
 ·refine ct (cA not j) ?_
  have ax:i_ChanOk a=false:=by simp only [i_ChanOk,d,e,f,j,cond_true,cond_false]
  exact wj (A ax _ (((l.trans r).trans B).trans J))
 refine cf (cA not j) ?_
 refine y1 ?_
 refine pu (vp i 14) wN ?_
 have C:=(aa.kp J)
 refine ld (vs p a.Next.length q) wN isAgg_22 C ?_
 refine ln wN slTy_22 (H.from0 m) ?_
 refine pu (vb (decide ((a.Next.length:Int)=0))) wN ?_
 refine mw (vb (decide ((a.Next.length:Int)=0))) ?_
 rcases bt (decide ((a.Next.length:Int)=0)) with b|b
 ·have a7:=dT b
  iterate 4 refine sk b ?_
  refine su ?_
  refine su ?_
  refine su ?_
  refine su ?_
  iterate 2 refine sk b ?_
  refine su ?_
  refine su ?_
  refine su ?_
  refine su ?_
  refine sk b ?_
  refine pk (vb true) wN b ?_
  refine aw (vb true) ?_
  refine n3 ?_
  refine rt (vb true) ?_
  refine ⟨m.keep0,?_⟩
  simp only [i_ChanOk,d,e,f,j,b,cond_true,cond_false]
  exact rfl
 have a8:=dF b
 refine pu (vp i 0) (wS b) ?_
 refine ld (vi a.Role) (wS b) isAgg_3 C ?_
 refine pu (vb (decide (a.Role=0))) (wS b) ?_
 refine mv (vb (decide (a.Role=0))) (wS b) ?_
 rcases bf (decide (a.Role=0)) with g|g
 ·have a9:=dF g
  iterate 4 refine sk g ?_
  refine pf (vb false) (wS b) g ?_
  refine mv (vb false) (wS b) ?_
  iterate 4 refine sk (Eq.refl false) ?_
  refine pf (vb false) (wS b) (Eq.refl false) ?_
  refine pf (vb false) wN b ?_
  refine aw (vb false) ?_
  refine n3 ?_
  refine rt (vb false) ?_
  refine ⟨m.keep0,?_⟩
  simp only [i_ChanOk,d,e,f,j,b,g,cond_true,cond_false]
  exact rfl
 have aA:=dT g
 refine pu (vp i 14) (wS g) ?_
 refine ld (vs p a.Next.length q) (wS g) isAgg_22 C ?_
 refine ln (wS g) slTy_22 (H.from0 m) ?_
 refine pu (vb (decide ((a.Next.length:Int)=32))) (wS g) ?_
 refine pk (vb (decide ((a.Next.length:Int)=32))) (wS b) g ?_
 refine mv (vb (decide ((a.Next.length:Int)=32))) (wS b) ?_
 rcases bf (decide ((a.Next.length:Int)=32)) with h|h
 ·have aB:=dF h
  iterate 4 refine sk h ?_
  refine pf (vb false) (wS b) h ?_
  refine pf (vb false) wN b ?_
  refine aw (vb false) ?_
  refine n3 ?_
  refine rt (vb false) ?_
  refine ⟨m.keep0,?_⟩
  simp only [i_ChanOk,d,e,f,j,b,g,h,cond_true,cond_false]
  exact rfl
 have aC:=dT h
 refine pu (vp i 2) (wS h) ?_
 refine pu (vp i 2) (wS h) ?_
 refine ld (vi a.Cur.N) (wS h) isAgg_3 C ?_
 refine pu (vb (decide (a.Cur.N < 4294967295))) (wS h) ?_
 refine pk (vb (decide (a.Cur.N < 4294967295))) (wS b) h ?_
 refine pf (vb (decide (a.Cur.N < 4294967295))) wN b ?_
 refine aw (vb (decide (a.Cur.N < 4294967295))) ?_
 refine n3 ?_
 refine rt (vb (decide (a.Cur.N < 4294967295))) ?_
 refine ⟨m.keep0,?_⟩
 simp only [i_ChanOk,d,e,f,j,b,g,h,cond_true,cond_false]
 exact rfl
theorem impl_ChanOk_t {c:PChan} (h:i_ChanOk c=true):0≤c.Cur.N∧c.Cur.N≤4294967295∧0≤c.Role∧c.Role≤1:=by
  simp only [i_ChanOk,Bool.cond_false_right,Bool.and_eq_true] at h
  have b:=isRole_t h.1
  have a:=impl_EpOk_t h.2.2.1
  exact ⟨a.1,a.2.1,by omega,by omega⟩

def i_Sealed (a:Int):(Bool):=(i_within a 4 8)
theorem ciSealed (b:World) (a:Int) :Fn Try.prog 27 #[(vi a)] b (fun v d=>Keep b d∧O_4 d b.heap.size v (i_Sealed a)):=by
 refine fn_ofS (n:=5) [(vi a)] Try.func27 rfl rfl ?_
 refine sr ?_
 refine aw (vb false) ?_
 refine nx ?_
 refine mw (vi a) ?_
 refine cl wN (ciwithin b a 4 8) ?_
 rintro _ h ⟨e,rfl⟩
 have f:=(Ch.base b).extk e
 refine aw (vb (i_within a 4 8)) ?_
 refine n3 ?_
 refine rt (vb (i_within a 4 8)) ?_
 refine ⟨f.keep0,?_⟩
 have g:i_Sealed a=(i_within a 4 8):=by rfl
 rw [g]
 exact rfl

def i_bodyOk (b:Int) (a:Int):(Bool):=bif (decide (b=4)) then (decide (a≤40)) else (bif (decide (b=5)) then (decide (a=12)) else (bif (decide (b=6)) then (decide (a=12)) else (decide (a=4))))
theorem cibodyOk (g:World) (b:Int) (a:Int) :Fn Try.prog 51 #[(vi b),(vi a)] g (fun v h=>Keep g h∧O_4 h g.heap.size v (i_bodyOk b a)):=by
 refine fn_ofS (n:=17) [(vi b),(vi a)] Try.func51 rfl rfl ?_
 refine sr ?_
 refine aw (vb false) ?_
 refine n4 ?_
 refine mw (vi b) ?_
 refine wl_nil<|wq_then<|wc_block<|sr ?_
 refine pu (vb (decide (b=4))) wN ?_
 refine aw (vb (decide (b=4))) ?_
 refine n2 ?_
 rcases bt (decide (b=4)) with d|d
 ·have i:=dT d
  refine ct d ?_
  refine sr ?_
  refine mw (vi a) ?_
  refine pu (vb (decide (a≤40))) wN ?_
  refine aw (vb (decide (a≤40))) ?_
  refine wl_nil<|wq_then<|wc_ret<|wq_blk_ret<|wq_then_ret ?_
  refine rt (vb (decide (a≤40))) ?_
  refine ⟨Ch.refl _ _,?_⟩
  simp only [i_bodyOk,d,cond_true,cond_false]
  exact rfl
 have j:=dF d
 refine cf d ?_
 refine wc_seq<|sr ?_
 refine pu (vb (decide (b=5))) wN ?_
 refine aw (vb (decide (b=5))) ?_
 refine n2 ?_
 rcases bt (decide (b=5)) with e|e
 ·have k:=dT e
  refine ct e ?_
  refine wc_skip<|wq_then ?_
  refine ct e ?_
  refine sr ?_
  refine mw (vi a) ?_
  refine pu (vb (decide (a=12))) wN ?_
  refine aw (vb (decide (a=12))) ?_
  refine wl_nil<|wq_then<|wc_ret<|wq_blk_ret<|wq_then_ret ?_
  refine rt (vb (decide (a=12))) ?_
  refine ⟨Ch.refl _ _,?_⟩
  simp only [i_bodyOk,d,e,cond_true,cond_false]
  exact rfl
 have l:=dF e
 refine cf e ?_
 refine wc_region ?_
 refine pu (vb (decide (b=6))) wN ?_
 refine aw (vb (decide (b=6))) ?_
 refine n2 ?_
 rcases bt (decide (b=6)) with f|f
 ·have m:=dT f
  refine ct f ?_
  refine sr ?_
  refine mw (vi a) ?_
  refine pu (vb (decide (a=12))) wN ?_
  refine aw (vb (decide (a=12))) ?_
  refine wl_nil<|wq_then<|wc_ret<|wq_blk_ret<|wq_then_ret ?_
  refine rt (vb (decide (a=12))) ?_
  refine ⟨Ch.refl _ _,?_⟩
  simp only [i_bodyOk,d,e,f,cond_true,cond_false]
  exact rfl
 have o:=dF f
 refine cf f ?_
 refine wc_skip<|wq_blk_normal<|wq_then<|sr ?_
 refine mw (vi a) ?_
 refine pu (vb (decide (a=4))) wN ?_
 refine aw (vb (decide (a=4))) ?_
 refine n3 ?_
 refine rt (vb (decide (a=4))) ?_
 refine ⟨Ch.refl _ _,?_⟩
 simp only [i_bodyOk,d,e,f,cond_true,cond_false]
 exact rfl

abbrev L_32 (x:PFrame) (a:Option Addr) (b:Nat) (d:Option Addr) (e:Nat) (f:Option Addr) (g:Nat) (h:Option Addr) (i:Nat) (j:Option Addr) (k:Nat) (l:Option Addr) (m:Nat):List Value:=[vi x.Kind,vi x.Id,vs a x.Cn.length b,vs d x.Sn.length e,vi x.Tick,vs f x.Cookie.length g,vs h x.Proof.length i,vi x.Epoch,vi x.Seq,vs j x.Body.length k,vs l x.Tag.length m]
def R_32 (w:World) (v:Value) (x:(PFrame)):Prop:=∃ (a:Option Addr) (b:Nat) (d:Option Addr) (e:Nat) (f:Option Addr) (g:Nat) (h:Option Addr) (i:Nat) (j:Option Addr) (k:Nat) (l:Option Addr) (m:Nat),v=.agg #[.int .i64 x.Kind,.int .i64 x.Id,.slice a x.Cn.length b,.slice d x.Sn.length e,.int .i64 x.Tick,.slice f x.Cookie.length g,.slice h x.Proof.length i,.int .i64 x.Epoch,.int .i64 x.Seq,.slice j x.Body.length k,.slice l x.Tag.length m]∧Rd w 1 (.slice a x.Cn.length b) x.Cn.length (x.Cn.map bV)∧x.Cn.length≤1073741824∧Rd w 1 (.slice d x.Sn.length e) x.Sn.length (x.Sn.map bV)∧x.Sn.length≤1073741824∧Rd w 1 (.slice f x.Cookie.length g) x.Cookie.length (x.Cookie.map bV)∧x.Cookie.length≤1073741824∧Rd w 1 (.slice h x.Proof.length i) x.Proof.length (x.Proof.map bV)∧x.Proof.length≤1073741824∧Rd w 1 (.slice j x.Body.length k) x.Body.length (x.Body.map bV)∧x.Body.length≤1073741824∧Rd w 1 (.slice l x.Tag.length m) x.Tag.length (x.Tag.map bV)∧x.Tag.length≤1073741824
def i_sameFrame (a:PFrame) (b:PFrame):(Bool):=bif (decide (a.Kind=b.Kind)) then (bif (decide (a.Id=b.Id)) then (bif (decide (a.Tick=b.Tick)) then (bif (decide (a.Epoch=b.Epoch)) then (bif (decide (a.Seq=b.Seq)) then (bif (b_Equal a.Cn b.Cn) then (bif (b_Equal a.Sn b.Sn) then (bif (b_Equal a.Cookie b.Cookie) then (bif (b_Equal a.Proof b.Proof) then (bif (b_Equal a.Body b.Body) then ((b_Equal a.Tag b.Tag)) else (false)) else (false)) else (false)) else (false)) else (false)) else (false)) else (false)) else (false)) else (false)) else (false)
theorem cisameFrame (t:World) (af:Value) (a:PFrame) (ax:R_32 t af a) (ah:Value) (b:PFrame) (ay:R_32 t ah b) :Fn Try.prog 52 #[af,ah] t (fun v ai=>Keep t ai∧O_4 ai t.heap.size v (i_sameFrame a b)):=by
 obtain ⟨B,C,D,E,F,G,H,I,J,K,L,M,rfl,az,a0,a1,a2,a3,a4,a5,a6,a7,a8,a9,aA⟩:=ax
 obtain ⟨N,O,P,Q,R,S,T,V,W,X,Y,Z,rfl,aB,aC,aD,aE,aF,aG,aH,aI,aJ,aK,aL,aM⟩:=ay
 refine fn_ofS (n:=80) [(va (L_32 a B C D E F G H I J K L M)),(va (L_32 b N O P Q R S T V W X Y Z))] Try.func52 rfl rfl ?_
 refine sr ?_
 refine bx (L_32 a B C D E F G H I J K L M) wN ?_
 intro m aZ ba bb aN aO
 refine bx (L_32 b N O P Q R S T V W X Y Z) wN ?_
 intro o aP bc bd aj r
 have q:=((Ch.base t).extk aN).extk aj
 refine aw (vb false) ?_
 refine nx ?_
 refine pu (vp m 0) wN ?_
 have s:=(aO.kp aj)
 refine ld (vi a.Kind) wN isAgg_3 s ?_
 refine pu (vp o 0) wN ?_
 refine ld (vi b.Kind) wN isAgg_3 r ?_
 refine pu (vb (decide (a.Kind=b.Kind))) wN ?_
 refine mw (vb (decide (a.Kind=b.Kind))) ?_
 rcases bf (decide (a.Kind=b.Kind)) with d|d
 ·have be:=dF d
  iterate 5 refine sk d ?_
  refine pf (vb false) wN d ?_
  refine mw (vb false) ?_
  iterate 5 refine sk (Eq.refl false) ?_
  refine pf (vb false) wN (Eq.refl false) ?_
  refine mw (vb false) ?_
  iterate 5 refine sk (Eq.refl false) ?_
  refine pf (vb false) wN (Eq.refl false) ?_
  refine mw (vb false) ?_
  iterate 5 refine sk (Eq.refl false) ?_
  refine pf (vb false) wN (Eq.refl false) ?_
  refine mw (vb false) ?_
  iterate 5 refine sk (Eq.refl false) ?_
  refine pf (vb false) wN (Eq.refl false) ?_
  refine mw (vb false) ?_
  iterate 5 refine sk (Eq.refl false) ?_
  refine pf (vb false) wN (Eq.refl false) ?_
  refine mw (vb false) ?_
  iterate 5 refine sk (Eq.refl false) ?_
  refine pf (vb false) wN (Eq.refl false) ?_
  refine mw (vb false) ?_
  iterate 5 refine sk (Eq.refl false) ?_
  refine pf (vb false) wN (Eq.refl false) ?_
  refine mw (vb false) ?_
  iterate 5 refine sk (Eq.refl false) ?_
  refine pf (vb false) wN (Eq.refl false) ?_
  refine mw (vb false) ?_
  iterate 5 refine sk (Eq.refl false) ?_
  refine pf (vb false) wN (Eq.refl false) ?_
  refine aw (vb false) ?_
  refine n3 ?_
  refine rt (vb false) ?_
  refine ⟨q.keep0,?_⟩
  simp only [i_sameFrame,d,cond_true,cond_false]
  exact rfl
 have bg:=dT d
 refine pu (vp m 1) (wS d) ?_
 refine ld (vi a.Id) (wS d) isAgg_3 s ?_
 refine pu (vp o 1) (wS d) ?_
 refine ld (vi b.Id) (wS d) isAgg_3 r ?_
 refine pu (vb (decide (a.Id=b.Id))) (wS d) ?_
 refine pk (vb (decide (a.Id=b.Id))) wN d ?_
 refine mw (vb (decide (a.Id=b.Id))) ?_
 rcases bf (decide (a.Id=b.Id)) with e|e
 ·have bh:=dF e
  iterate 5 refine sk e ?_
  refine pf (vb false) wN e ?_
  refine mw (vb false) ?_
  iterate 5 refine sk (Eq.refl false) ?_
  refine pf (vb false) wN (Eq.refl false) ?_
  refine mw (vb false) ?_
  iterate 5 refine sk (Eq.refl false) ?_
  refine pf (vb false) wN (Eq.refl false) ?_
  refine mw (vb false) ?_
  iterate 5 refine sk (Eq.refl false) ?_
  refine pf (vb false) wN (Eq.refl false) ?_
  refine mw (vb false) ?_
  iterate 5 refine sk (Eq.refl false) ?_
  refine pf (vb false) wN (Eq.refl false) ?_
  refine mw (vb false) ?_
  iterate 5 refine sk (Eq.refl false) ?_
  refine pf (vb false) wN (Eq.refl false) ?_
  refine mw (vb false) ?_
  iterate 5 refine sk (Eq.refl false) ?_
  refine pf (vb false) wN (Eq.refl false) ?_
  refine mw (vb false) ?_
  iterate 5 refine sk (Eq.refl false) ?_
  refine pf (vb false) wN (Eq.refl false) ?_
  refine mw (vb false) ?_
  iterate 5 refine sk (Eq.refl false) ?_
  refine pf (vb false) wN (Eq.refl false) ?_
  refine aw (vb false) ?_
  refine n3 ?_
  refine rt (vb false) ?_
  refine ⟨q.keep0,?_⟩
  simp only [i_sameFrame,d,e,cond_true,cond_false]
  exact rfl
 have bi:=dT e
 refine pu (vp m 4) (wS e) ?_
 refine ld (vi a.Tick) (wS e) isAgg_3 s ?_
 refine pu (vp o 4) (wS e) ?_
 refine ld (vi b.Tick) (wS e) isAgg_3 r ?_
 refine pu (vb (decide (a.Tick=b.Tick))) (wS e) ?_
 refine pk (vb (decide (a.Tick=b.Tick))) wN e ?_
 refine mw (vb (decide (a.Tick=b.Tick))) ?_
 rcases bf (decide (a.Tick=b.Tick)) with f|f
 ·have bj:=dF f
  iterate 5 refine sk f ?_
  refine pf (vb false) wN f ?_
  refine mw (vb false) ?_
  iterate 5 refine sk (Eq.refl false) ?_
  refine pf (vb false) wN (Eq.refl false) ?_
  refine mw (vb false) ?_
  iterate 5 refine sk (Eq.refl false) ?_
  refine pf (vb false) wN (Eq.refl false) ?_
  refine mw (vb false) ?_
  iterate 5 refine sk (Eq.refl false) ?_
  refine pf (vb false) wN (Eq.refl false) ?_
  refine mw (vb false) ?_
  iterate 5 refine sk (Eq.refl false) ?_
  refine pf (vb false) wN (Eq.refl false) ?_
  refine mw (vb false) ?_
  iterate 5 refine sk (Eq.refl false) ?_
  refine pf (vb false) wN (Eq.refl false) ?_
  refine mw (vb false) ?_
  iterate 5 refine sk (Eq.refl false) ?_
  refine pf (vb false) wN (Eq.refl false) ?_
  refine mw (vb false) ?_
  iterate 5 refine sk (Eq.refl false) ?_
  refine pf (vb false) wN (Eq.refl false) ?_
  refine aw (vb false) ?_
  refine n3 ?_
  refine rt (vb false) ?_
  refine ⟨q.keep0,?_⟩
  simp only [i_sameFrame,d,e,f,cond_true,cond_false]
  exact rfl
 have bk:=dT f
 refine pu (vp m 7) (wS f) ?_
 refine ld (vi a.Epoch) (wS f) isAgg_3 s ?_
 refine pu (vp o 7) (wS f) ?_
 refine ld (vi b.Epoch) (wS f) isAgg_3 r ?_
 refine pu (vb (decide (a.Epoch=b.Epoch))) (wS f) ?_
 refine pk (vb (decide (a.Epoch=b.Epoch))) wN f ?_
 refine mw (vb (decide (a.Epoch=b.Epoch))) ?_
 rcases bf (decide (a.Epoch=b.Epoch)) with g|g
 ·have bl:=dF g
  iterate 5 refine sk g ?_
  refine pf (vb false) wN g ?_
  refine mw (vb false) ?_
  iterate 5 refine sk (Eq.refl false) ?_
  refine pf (vb false) wN (Eq.refl false) ?_
  refine mw (vb false) ?_
  iterate 5 refine sk (Eq.refl false) ?_
  refine pf (vb false) wN (Eq.refl false) ?_
  refine mw (vb false) ?_
  iterate 5 refine sk (Eq.refl false) ?_
  refine pf (vb false) wN (Eq.refl false) ?_
  refine mw (vb false) ?_
  iterate 5 refine sk (Eq.refl false) ?_
  refine pf (vb false) wN (Eq.refl false) ?_
  refine mw (vb false) ?_
  iterate 5 refine sk (Eq.refl false) ?_
  refine pf (vb false) wN (Eq.refl false) ?_
  refine mw (vb false) ?_
  iterate 5 refine sk (Eq.refl false) ?_
  refine pf (vb false) wN (Eq.refl false) ?_
  refine aw (vb false) ?_
  refine n3 ?_
  refine rt (vb false) ?_
  refine ⟨q.keep0,?_⟩
  simp only [i_sameFrame,d,e,f,g,cond_true,cond_false]
  exact rfl
 have bm:=dT g
 refine pu (vp m 8) (wS g) ?_
 refine ld (vi a.Seq) (wS g) isAgg_3 s ?_
 refine pu (vp o 8) (wS g) ?_
 refine ld (vi b.Seq) (wS g) isAgg_3 r ?_
 refine pu (vb (decide (a.Seq=b.Seq))) (wS g) ?_
 refine pk (vb (decide (a.Seq=b.Seq))) wN g ?_
 refine mw (vb (decide (a.Seq=b.Seq))) ?_
 rcases bf (decide (a.Seq=b.Seq)) with h|h
 ·have bn:=dF h
  iterate 5 refine sk h ?_
  refine pf (vb false) wN h ?_
  refine mw (vb false) ?_
  iterate 5 refine sk (Eq.refl false) ?_
  refine pf (vb false) wN (Eq.refl false) ?_
  refine mw (vb false) ?_
  iterate 5 refine sk (Eq.refl false) ?_
  refine pf (vb false) wN (Eq.refl false) ?_
  refine mw (vb false) ?_
  iterate 5 refine sk (Eq.refl false) ?_
  refine pf (vb false) wN (Eq.refl false) ?_
  refine mw (vb false) ?_
  iterate 5 refine sk (Eq.refl false) ?_
  refine pf (vb false) wN (Eq.refl false) ?_
  refine mw (vb false) ?_
  iterate 5 refine sk (Eq.refl false) ?_
  refine pf (vb false) wN (Eq.refl false) ?_
  refine aw (vb false) ?_
  refine n3 ?_
  refine rt (vb false) ?_
  refine ⟨q.keep0,?_⟩
  simp only [i_sameFrame,d,e,f,g,h,cond_true,cond_false]
  exact rfl
 have bo:=dT h
 refine pu (vp m 2) (wS h) ?_
 refine ld (vs B a.Cn.length C) (wS h) isAgg_22 s ?_
 refine pu (vp o 2) (wS h) ?_
 refine ld (vs N b.Cn.length O) (wS h) isAgg_22 r ?_
 refine cl (wS h) (cbEqual aP _ a.Cn (mR_22 (az.from0 q) a0) _ b.Cn (mR_22 (aB.from0 q) aC)) ?_
 rintro _ aQ ⟨aa,rfl⟩
 have u:=q.extk aa
 refine pk (vb (b_Equal a.Cn b.Cn)) wN h ?_
 refine mw (vb (b_Equal a.Cn b.Cn)) ?_
 rcases bf (b_Equal a.Cn b.Cn) with i|i
 ·iterate 5 refine sk i ?_
  refine pf (vb false) wN i ?_
  refine mw (vb false) ?_
  iterate 5 refine sk (Eq.refl false) ?_
  refine pf (vb false) wN (Eq.refl false) ?_
  refine mw (vb false) ?_
  iterate 5 refine sk (Eq.refl false) ?_
  refine pf (vb false) wN (Eq.refl false) ?_
  refine mw (vb false) ?_
  iterate 5 refine sk (Eq.refl false) ?_
  refine pf (vb false) wN (Eq.refl false) ?_
  refine mw (vb false) ?_
  iterate 5 refine sk (Eq.refl false) ?_
  refine pf (vb false) wN (Eq.refl false) ?_
  refine aw (vb false) ?_
  refine n3 ?_
  refine rt (vb false) ?_
  refine ⟨u.keep0,?_⟩
  simp only [i_sameFrame,d,e,f,g,h,i,cond_true,cond_false]
  exact rfl
 refine pu (vp m 3) (wS i) ?_
 have ak:=(s.kp aa)
 refine ld (vs D a.Sn.length E) (wS i) isAgg_22 ak ?_
 refine pu (vp o 3) (wS i) ?_
 have am:=(r.kp aa)
 refine ld (vs P b.Sn.length Q) (wS i) isAgg_22 am ?_
 refine cl (wS i) (cbEqual aQ _ a.Sn (mR_22 (a1.from0 u) a2) _ b.Sn (mR_22 (aD.from0 u) aE)) ?_
 rintro _ aR ⟨ab,rfl⟩
 have w:=u.extk ab
 refine pk (vb (b_Equal a.Sn b.Sn)) wN i ?_
 refine mw (vb (b_Equal a.Sn b.Sn)) ?_
 rcases bf (b_Equal a.Sn b.Sn) with j|j
 ·iterate 5 refine sk j ?_
  refine pf (vb false) wN j ?_
  refine mw (vb false) ?_
  iterate 5 refine sk (Eq.refl false) ?_
  refine pf (vb false) wN (Eq.refl false) ?_
  refine mw (vb false) ?_
  iterate 5 refine sk (Eq.refl false) ?_
  refine pf (vb false) wN (Eq.refl false) ?_
  refine mw (vb false) ?_
  iterate 5 refine sk (Eq.refl false) ?_
  refine pf (vb false) wN (Eq.refl false) ?_
  refine aw (vb false) ?_
  refine n3 ?_
  refine rt (vb false) ?_
  refine ⟨w.keep0,?_⟩
  simp only [i_sameFrame,d,e,f,g,h,i,j,cond_true,cond_false]
  exact rfl
 refine pu (vp m 5) (wS j) ?_
 have an:=(ak.kp ab)
 refine ld (vs F a.Cookie.length G) (wS j) isAgg_22 an ?_
 refine pu (vp o 5) (wS j) ?_
 have ao:=(am.kp ab)
 refine ld (vs R b.Cookie.length S) (wS j) isAgg_22 ao ?_
 refine cl (wS j) (cbEqual aR _ a.Cookie (mR_22 (a3.from0 w) a4) _ b.Cookie (mR_22 (aF.from0 w) aG)) ?_
 rintro _ aS ⟨ac,rfl⟩
 have x:=w.extk ac
 refine pk (vb (b_Equal a.Cookie b.Cookie)) wN j ?_
 refine mw (vb (b_Equal a.Cookie b.Cookie)) ?_
 rcases bf (b_Equal a.Cookie b.Cookie) with k|k
 ·iterate 5 refine sk k ?_
  refine pf (vb false) wN k ?_
  refine mw (vb false) ?_
  iterate 5 refine sk (Eq.refl false) ?_
  refine pf (vb false) wN (Eq.refl false) ?_
  refine mw (vb false) ?_
  iterate 5 refine sk (Eq.refl false) ?_
  refine pf (vb false) wN (Eq.refl false) ?_
  refine aw (vb false) ?_
  refine n3 ?_
  refine rt (vb false) ?_
  refine ⟨x.keep0,?_⟩
  simp only [i_sameFrame,d,e,f,g,h,i,j,k,cond_true,cond_false]
  exact rfl
 refine pu (vp m 6) (wS k) ?_
 have ap:=(an.kp ac)
 refine ld (vs H a.Proof.length I) (wS k) isAgg_22 ap ?_
 refine pu (vp o 6) (wS k) ?_
 have aq:=(ao.kp ac)
 refine ld (vs T b.Proof.length V) (wS k) isAgg_22 aq ?_
 refine cl (wS k) (cbEqual aS _ a.Proof (mR_22 (a5.from0 x) a6) _ b.Proof (mR_22 (aH.from0 x) aI)) ?_
 rintro _ aT ⟨ad,rfl⟩
 have y:=x.extk ad
 refine pk (vb (b_Equal a.Proof b.Proof)) wN k ?_
 refine mw (vb (b_Equal a.Proof b.Proof)) ?_
 rcases bf (b_Equal a.Proof b.Proof) with l|l
 ·iterate 5 refine sk l ?_
  refine pf (vb false) wN l ?_
  refine mw (vb false) ?_
  iterate 5 refine sk (Eq.refl false) ?_
  refine pf (vb false) wN (Eq.refl false) ?_
  refine aw (vb false) ?_
  refine n3 ?_
  refine rt (vb false) ?_
  refine ⟨y.keep0,?_⟩
  simp only [i_sameFrame,d,e,f,g,h,i,j,k,l,cond_true,cond_false]
  exact rfl
 refine pu (vp m 9) (wS l) ?_
 have au:=(ap.kp ad)
 refine ld (vs J a.Body.length K) (wS l) isAgg_22 au ?_
 refine pu (vp o 9) (wS l) ?_
 have av:=(aq.kp ad)
 refine ld (vs W b.Body.length X) (wS l) isAgg_22 av ?_
 refine cl (wS l) (cbEqual aT _ a.Body (mR_22 (a7.from0 y) a8) _ b.Body (mR_22 (aJ.from0 y) aK)) ?_
 rintro _ aU ⟨ae,rfl⟩
 have A:=y.extk ae
 refine pk (vb (b_Equal a.Body b.Body)) wN l ?_
 refine mw (vb (b_Equal a.Body b.Body)) ?_
 rcases bf (b_Equal a.Body b.Body) with p|p
 ·iterate 5 refine sk p ?_
  refine pf (vb false) wN p ?_
  refine aw (vb false) ?_
  refine n3 ?_
  refine rt (vb false) ?_
  refine ⟨A.keep0,?_⟩
  simp only [i_sameFrame,d,e,f,g,h,i,j,k,l,p,cond_true,cond_false]
  exact rfl
 refine pu (vp m 10) (wS p) ?_
 have aV:=(au.kp ae)
 refine ld (vs L a.Tag.length M) (wS p) isAgg_22 aV ?_
 refine pu (vp o 10) (wS p) ?_
 have aW:=(av.kp ae)
 refine ld (vs Y b.Tag.length Z) (wS p) isAgg_22 aW ?_
 refine cl (wS p) (cbEqual aU _ a.Tag (mR_22 (a9.from0 A) aA) _ b.Tag (mR_22 (aL.from0 A) aM)) ?_
 rintro _ bp ⟨aX,rfl⟩
 have aY:=A.extk aX
 refine pk (vb (b_Equal a.Tag b.Tag)) wN p ?_
 refine aw (vb (b_Equal a.Tag b.Tag)) ?_
 refine n3 ?_
 refine rt (vb (b_Equal a.Tag b.Tag)) ?_
 refine ⟨aY.keep0,?_⟩
 simp only [i_sameFrame,d,e,f,g,h,i,j,k,l,p,cond_true,cond_false]
 exact rfl

abbrev Z_32:List Value:=[(vi 0),(vi 0),(vs none 0 0),(vs none 0 0),(vi 0),(vs none 0 0),(vs none 0 0),(vi 0),(vi 0),(vs none 0 0),(vs none 0 0)]
theorem zero_32:∀ w,(zeroValue 32).run Try.prog w=.ok (va Z_32) w:=fun w=>by kernel_rfl
theorem sizeOf_32:∀ w,(sizeOf 32).run Try.prog w=.ok 11 w:=fun w=>by kernel_rfl
theorem isAgg_32:∀ w,(isAgg 32).run Try.prog w=.ok true w:=fun w=>by kernel_rfl
theorem mR_32 {w:World} {x:PFrame} {a:Option Addr} {b:Nat} {d:Option Addr} {e:Nat} {f:Option Addr} {g:Nat} {h:Option Addr} {i:Nat} {j:Option Addr} {k:Nat} {l:Option Addr} {m:Nat} (o:Rd w 1 (.slice a x.Cn.length b) x.Cn.length (x.Cn.map bV)) (p:x.Cn.length≤1073741824) (q:Rd w 1 (.slice d x.Sn.length e) x.Sn.length (x.Sn.map bV)) (r:x.Sn.length≤1073741824) (s:Rd w 1 (.slice f x.Cookie.length g) x.Cookie.length (x.Cookie.map bV)) (t:x.Cookie.length≤1073741824) (u:Rd w 1 (.slice h x.Proof.length i) x.Proof.length (x.Proof.map bV)) (v:x.Proof.length≤1073741824) (y:Rd w 1 (.slice j x.Body.length k) x.Body.length (x.Body.map bV)) (A:x.Body.length≤1073741824) (B:Rd w 1 (.slice l x.Tag.length m) x.Tag.length (x.Tag.map bV)) (C:x.Tag.length≤1073741824):R_32 w (va (L_32 x a b d e f g h i j k l m)) x:=⟨_,_,_,_,_,_,_,_,_,_,_,_,rfl,o,p,q,r,s,t,u,v,y,A,B,C⟩
def i_FrameOk (a:PFrame):(Bool):=bif (decide (a.Kind=1)) then (bif (i_within a.Id 1 9) then (bif (i_isNonce a.Cn) then ((i_sameFrame a {Kind:=a.Kind,Id:=a.Id,Cn:=a.Cn,Sn:=[],Tick:=0,Cookie:=[],Proof:=[],Epoch:=0,Seq:=0,Body:=[],Tag:=[]:PFrame})) else (false)) else (false)) else (bif (decide (a.Kind=2)) then (bif (i_isNonce a.Cn) then (bif (i_isNonce a.Sn) then (bif (i_within a.Tick 0 1000000) then (bif (decide ((a.Cookie.length:Int)=16)) then ((i_sameFrame a {Kind:=a.Kind,Id:=0,Cn:=a.Cn,Sn:=a.Sn,Tick:=a.Tick,Cookie:=a.Cookie,Proof:=[],Epoch:=0,Seq:=0,Body:=[],Tag:=[]:PFrame})) else (false)) else (false)) else (false)) else (false)) else (bif (decide (a.Kind=3)) then (bif (i_within a.Id 1 9) then (bif (i_isNonce a.Cn) then (bif (i_isNonce a.Sn) then (bif (i_within a.Tick 0 1000000) then (bif (decide ((a.Cookie.length:Int)=16)) then (bif (decide ((a.Proof.length:Int)=16)) then ((i_sameFrame a {Kind:=a.Kind,Id:=a.Id,Cn:=a.Cn,Sn:=a.Sn,Tick:=a.Tick,Cookie:=a.Cookie,Proof:=a.Proof,Epoch:=0,Seq:=0,Body:=[],Tag:=[]:PFrame})) else (false)) else (false)) else (false)) else (false)) else (false)) else (false)) else (bif (i_Sealed a.Kind) then (bif (i_isNonce a.Sn) then (bif (i_within a.Epoch 0 4294967295) then (bif (i_within a.Seq 0 281474976710655) then (bif (decide ((a.Tag.length:Int)=16)) then (bif (i_bodyOk a.Kind (a.Body.length:Int)) then ((i_sameFrame a {Kind:=a.Kind,Id:=0,Cn:=[],Sn:=a.Sn,Tick:=0,Cookie:=[],Proof:=[],Epoch:=a.Epoch,Seq:=a.Seq,Body:=a.Body,Tag:=a.Tag:PFrame})) else (false)) else (false)) else (false)) else (false)) else (false)) else (false))))
theorem ciFrameOk (az:World) (aS:Value) (a:PFrame) (b3:R_32 az aS a) :Fn Try.prog 28 #[aS] az (fun v o=>Keep az o∧O_4 o az.heap.size v (i_FrameOk a)):=by
 obtain ⟨i,j,f,g,s,u,J,K,C,D,L,M,rfl,ac,ad,ae,af,am,au,av,a0,ax,a1,ay,a2⟩:=b3
 refine fn_ofS (n:=165) [(va (L_32 a i j f g s u J K C D L M))] Try.func28 rfl rfl ?_
 refine sr ?_
 refine bx (L_32 a i j f g s u J K C D L M) wN ?_
 intro d dh di r ah aT
 refine aw (vb false) ?_
 refine nx ?_
 refine pu (vp d 0) wN ?_
 refine ld (vi a.Kind) wN isAgg_3 aT ?_
 refine pu (va [(vi a.Kind),(vi 0),(vs none 0 0),(vs none 0 0),(vi 0),(vs none 0 0),(vs none 0 0),(vi 0),(vi 0),(vs none 0 0),(vs none 0 0)]) wN ?_
 refine al Z_32 wN zero_32 ?_
 intro b dj l dk aU b4
 refine sv [(vi a.Kind),(vi 0),(vs none 0 0),(vs none 0 0),(vi 0),(vs none 0 0),(vs none 0 0),(vi 0),(vi 0),(vs none 0 0),(vs none 0 0)] wN sizeOf_32 b4 ?_
 intro a5 aV a6 dl
 have a7:=(((Ch.base az).extk ah).extk aU).ext aV (fun k hk=>by subst hk;exact nT ah.size l)
 refine nx ?_
 refine aw (vb false) ?_
 refine wl_nil<|wq_then<|wc_seq<|wc_block<|sr ?_
 refine pu (vp d 0) wN ?_
 have x:=((aT.kp aU).ch aV (nN (nL r (l))))
 refine ld (vi a.Kind) wN isAgg_3 x ?_
 refine pu (vb (decide (a.Kind=1))) wN ?_
 refine aw (vb (decide (a.Kind=1))) ?_
 refine n2 ?_
 rcases bt (decide (a.Kind=1)) with p|p
 ·have dm:=dT p
  refine ct p ?_
  refine wc_seq ?_
  refine wc_drawT ([(12,[],[],(fun _ v _=>v=(vp d 1))),(13,[],[0],(fun _ v _=>v=(vi a.Id))),(14,[],[],(fun _ v _=>v=(vp d 2))),(15,[],[2],(fun _ v _=>v=(vs i a.Cn.length j))),(16,[],[0,1],(fun _ v _=>v=(vp b 1))),(170,[],[0,1,4],(fun _ _ w=>BK w b 32 1 ([(vi a.Id)])))]:GV) (fun lf o=>Ch (fun k=>k=b) a5 o∧RK lf o b 32 [(vi a.Kind),(vi 0),(vs none 0 0),(vs none 0 0),(vi 0),(vs none 0 0),(vs none 0 0),(vi 0),(vi 0),(vs none 0 0),(vs none 0 0)] [(5,1,1)]) [(5,TK b 32 1 1)] mixed rfl (by kernel_rfl) (by kernel_rfl) ?_ (fun _ _ h=>⟨h.to _,RK.z a6 h⟩) (fun _ _ _ _ h mo k=>by obtain ⟨hc,m⟩:=h;exact ⟨hc.comp k (fun _ _ q=>q.elim),m.kp mo k⟩) ⟨(fun _ _ w o h mo hj t=>by obtain ⟨hc,m⟩:=h;exact ⟨hc.comp t.1 (fun _ _ q=>q),m.st mo hj (.head _) t⟩),trivial⟩ ?_ ?_ ?_
  ·exact ⟨hV,hE,⟨hV,hE,⟨hV,hE,⟨hV,hE,⟨hV,hE,⟨sK,hE,trivial⟩⟩⟩⟩⟩⟩
  ·exact ⟨⟨.inr hV,⟨.inr hV,⟨.inr hV,⟨.inr hV,⟨.inr hV,⟨.inl rfl,trivial⟩⟩⟩⟩⟩⟩,trivial⟩
  ·refine ⟨?_,⟨?_,⟨?_,⟨?_,⟨?_,⟨?_,trivial⟩⟩⟩⟩⟩⟩
   ·rintro lf e ⟨dn,dp⟩ ⟨dq,-⟩
    rintro _ _ _ _ _ _
    refine sw ?_
    refine pu (vp d 1) wN ?_
    exact f1
   ·rintro lf e ⟨b5,dr⟩ ⟨ds,-⟩
    rintro _ rfl _ _ _ _ _
    refine sw ?_
    have b6:=(x.ch b5 (nN (nL r (l))))
    refine ld (vi a.Id) wN isAgg_3 b6 ?_
    exact f1
   ·rintro lf e ⟨dt,du⟩ ⟨dv,-⟩
    rintro _ _ _ _ _ _
    refine sw ?_
    refine pu (vp d 2) wN ?_
    exact f1
   ·rintro lf e ⟨b7,dw⟩ ⟨dx,-⟩
    rintro _ _ _ rfl _ _ _
    refine sw ?_
    have b8:=(x.ch b7 (nN (nL r (l))))
    refine ld (vs i a.Cn.length j) wN isAgg_22 b8 ?_
    exact f1
   ·rintro lf e ⟨dy,dz⟩ ⟨d0,-⟩
    rintro _ rfl _ rfl _ _ _ _
    refine sw ?_
    refine pu (vp b 1) wN ?_
    exact f1
   ·rintro lf e ⟨d1,b9⟩ ⟨d2,-⟩
    rintro _ rfl _ rfl _ _ _ rfl _
    refine sw ?_
    exact stK (vi a.Id) [(vi a.Id)] wN sizeOf_3 b9 (fun _ h=>h) (fun _ t=>t)
  ·rintro lf e ⟨aW,bA⟩
   have bB:=a7.ext aW (fun k hk=>by subst hk;exact nT ah.size l)
   rintro _ rfl _ rfl _ rfl _ rfl _ rfl _ bC
   have bD:Blk e b 32 [(vi a.Kind),(vi a.Id),(vs none 0 0),(vs none 0 0),(vi 0),(vs none 0 0),(vs none 0 0),(vi 0),(vi 0),(vs none 0 0),(vs none 0 0)]:=RK.fin bA [(1,[(vi a.Id)])] ⟨bC,trivial⟩
   refine sw ?_
   refine pu (vp b 2) wN ?_
   refine st (vs i a.Cn.length j) [(vs i a.Cn.length j)] [(vi a.Kind),(vi a.Id),(vs i a.Cn.length j),(vs none 0 0),(vi 0),(vs none 0 0),(vs none 0 0),(vi 0),(vi 0),(vs none 0 0),(vs none 0 0)] wN sizeOf_22 bD ?_
   intro y aX bE d3
   have bF:=bB.ext aX (fun k hk=>by subst hk;exact nT ah.size l)
   refine wl_nil<|wq_then<|wc_region ?_
   refine pu (vp d 1) wN ?_
   have aY:=((x.ch aW (nN (nL r (l)))).ch aX (nN (nL r (l))))
   refine ld (vi a.Id) wN isAgg_3 aY ?_
   refine cl wN (ciwithin y a.Id 1 9) ?_
   rintro _ ap ⟨a9,rfl⟩
   have aA:=bF.extk a9
   refine mw (vb (i_within a.Id 1 9)) ?_
   rcases bf (i_within a.Id 1 9) with X|X
   ·have d4:=impl_within_f X
    iterate 3 refine sk X ?_
    refine pf (vb false) wN X ?_
    refine aw (vb false) ?_
    refine wl_nil<|wq_blk_normal<|wq_then<|sr ?_
    refine mw (vb false) ?_
    refine mw (vb false) ?_
    iterate 3 refine sk (Eq.refl false) ?_
    refine pf (vb false) wN (Eq.refl false) ?_
    refine aw (vb false) ?_
    refine n3 ?_
    refine rt (vb false) ?_
    refine ⟨aA.keep0,?_⟩
    simp only [i_FrameOk,p,X,cond_true,cond_false]
    exact rfl
   have d5:=impl_within_t X
   refine pu (vp d 2) (wS X) ?_
   have aZ:=(aY.kp a9)
   refine ld (vs i a.Cn.length j) (wS X) isAgg_22 aZ ?_
   refine cl (wS X) (ciisNonce ap _ a.Cn (mR_22 (ac.from0 aA) ad)) ?_
   rintro _ an ⟨aB,rfl⟩
   have aj:=aA.extk aB
   refine pk (vb (i_isNonce a.Cn)) wN X ?_
   refine aw (vb (i_isNonce a.Cn)) ?_
   refine wl_nil<|wq_blk_normal<|wq_then<|sr ?_
   refine mw (vb (i_isNonce a.Cn)) ?_
   refine mw (vb (i_isNonce a.Cn)) ?_
   rcases bf (i_isNonce a.Cn) with Y|Y
   ·have d6:=isNonce_f Y
    iterate 3 refine sk Y ?_
    refine pf (vb false) wN Y ?_
    refine aw (vb false) ?_
    refine n3 ?_
    refine rt (vb false) ?_
    refine ⟨aj.keep0,?_⟩
    simp only [i_FrameOk,p,X,Y,cond_true,cond_false]
    exact rfl
   have d7:=isNonce_t Y
   have bG:=(aZ.kp aB)
   refine lN (L_32 a i j f g s u J K C D L M) (wS Y) isAgg_32 sizeOf_32 bG ?_
   have bH:=((bE.kp a9).kp aB)
   refine lN [(vi a.Kind),(vi a.Id),(vs i a.Cn.length j),(vs none 0 0),(vi 0),(vs none 0 0),(vs none 0 0),(vi 0),(vi 0),(vs none 0 0),(vs none 0 0)] (wS Y) isAgg_32 sizeOf_32 bH ?_
   refine cl (wS Y) (cisameFrame an _ a (mR_32 (ac.from0 aj) ad (ae.from0 aj) af (am.from0 aj) au (av.from0 aj) a0 (ax.from0 aj) a1 (ay.from0 aj) a2) _ _ (show R_32 an (va [(vi a.Kind),(vi a.Id),(vs i a.Cn.length j),(vs none 0 0),(vi 0),(vs none 0 0),(vs none 0 0),(vi 0),(vi 0),(vs none 0 0),(vs none 0 0)]) {Kind:=a.Kind,Id:=a.Id,Cn:=a.Cn,Sn:=[],Tick:=0,Cookie:=[],Proof:=[],Epoch:=0,Seq:=0,Body:=[],Tag:=[]:PFrame} from ⟨_,_,_,_,_,_,_,_,_,_,_,_,rfl,(ac.from0 aj),ad,(Rd.nil _ _),(by simp),(Rd.nil _ _),(by simp),(Rd.nil _ _),(by simp),(Rd.nil _ _),(by simp),(Rd.nil _ _),(by simp)⟩)) ?_
   rintro _ aq ⟨bI,rfl⟩
   have bJ:=aj.extk bI
   refine pk (vb (i_sameFrame a {Kind:=a.Kind,Id:=a.Id,Cn:=a.Cn,Sn:=[],Tick:=0,Cookie:=[],Proof:=[],Epoch:=0,Seq:=0,Body:=[],Tag:=[]:PFrame})) wN Y ?_
   refine aw (vb (i_sameFrame a {Kind:=a.Kind,Id:=a.Id,Cn:=a.Cn,Sn:=[],Tick:=0,Cookie:=[],Proof:=[],Epoch:=0,Seq:=0,Body:=[],Tag:=[]:PFrame})) ?_
   refine n3 ?_
   refine rt (vb (i_sameFrame a {Kind:=a.Kind,Id:=a.Id,Cn:=a.Cn,Sn:=[],Tick:=0,Cookie:=[],Proof:=[],Epoch:=0,Seq:=0,Body:=[],Tag:=[]:PFrame})) ?_
   refine ⟨bJ.keep0,?_⟩
   simp only [i_FrameOk,p,X,Y,cond_true,cond_false]
   exact rfl
 have d8:=dF p
 refine cf p ?_
 refine sr ?_
 refine pu (vp d 0) wN ?_
 refine ld (vi a.Kind) wN isAgg_3 x ?_
 refine pu (vb (decide (a.Kind=2))) wN ?_
 refine aw (vb (decide (a.Kind=2))) ?_
 refine n2 ?_
 rcases bt (decide (a.Kind=2)) with A|A
 ·have d9:=dT A
  refine ct A ?_
  refine wc_seq ?_
  refine wc_drawT ([(30,[],[],(fun _ v _=>v=(vp d 2))),(31,[],[0],(fun _ v _=>v=(vs i a.Cn.length j))),(32,[],[],(fun _ v _=>v=(vp d 3))),(33,[],[2],(fun _ v _=>v=(vs f a.Sn.length g))),(34,[],[],(fun _ v _=>v=(vp d 4))),(35,[],[4],(fun _ v _=>v=(vi a.Tick))),(36,[],[],(fun _ v _=>v=(vp d 5))),(37,[],[6],(fun _ v _=>v=(vs s a.Cookie.length u))),(38,[],[0,1],(fun _ v _=>v=(vp b 2))),(174,[],[0,1,8],(fun _ _ w=>BK w b 32 2 ([(vs i a.Cn.length j)]))),(39,[],[0,1,2,3,8,9],(fun _ v _=>v=(vp b 3))),(176,[],[0,1,2,3,8,9,10],(fun _ _ w=>BK w b 32 3 ([(vs f a.Sn.length g)]))),(40,[],[0,1,2,3,4,5,8,9,10,11],(fun _ v _=>v=(vp b 4))),(178,[],[0,1,2,3,4,5,8,9,10,11,12],(fun _ _ w=>BK w b 32 4 ([(vi a.Tick)])))]:GV) (fun lf o=>Ch (fun k=>k=b) a5 o∧RK lf o b 32 [(vi a.Kind),(vi 0),(vs none 0 0),(vs none 0 0),(vi 0),(vs none 0 0),(vs none 0 0),(vi 0),(vi 0),(vs none 0 0),(vs none 0 0)] [(9,2,1),(11,3,1),(13,4,1)]) [(9,TK b 32 2 1),(11,TK b 32 3 1),(13,TK b 32 4 1)] mixed rfl (by kernel_rfl) (by kernel_rfl) ?_ (fun _ _ h=>⟨h.to _,RK.z a6 h⟩) (fun _ _ _ _ h mo k=>by obtain ⟨hc,m⟩:=h;exact ⟨hc.comp k (fun _ _ q=>q.elim),m.kp mo k⟩) ⟨(fun _ _ w o h mo hj t=>by obtain ⟨hc,m⟩:=h;exact ⟨hc.comp t.1 (fun _ _ q=>q),m.st mo hj (.head _) t⟩),⟨(fun _ _ w o h mo hj t=>by obtain ⟨hc,m⟩:=h;exact ⟨hc.comp t.1 (fun _ _ q=>q),m.st mo hj (.tail _ (.head _)) t⟩),⟨(fun _ _ w o h mo hj t=>by obtain ⟨hc,m⟩:=h;exact ⟨hc.comp t.1 (fun _ _ q=>q),m.st mo hj (.tail _ (.tail _ (.head _))) t⟩),trivial⟩⟩⟩ ?_ ?_ ?_
  ·exact ⟨hV,hE,⟨hV,hE,⟨hV,hE,⟨hV,hE,⟨hV,hE,⟨hV,hE,⟨hV,hE,⟨hV,hE,⟨hV,hE,⟨sK,hE,⟨hV,hE,⟨sK,hE,⟨hV,hE,⟨sK,hE,trivial⟩⟩⟩⟩⟩⟩⟩⟩⟩⟩⟩⟩⟩⟩
  ·exact ⟨⟨.inr hV,⟨.inr hV,⟨.inr hV,⟨.inr hV,⟨.inr hV,⟨.inr hV,⟨.inr hV,⟨.inr hV,⟨.inr hV,⟨.inl rfl,⟨.inr hV,⟨.inr (sKs 1 (.inl rfl)),⟨.inr hV,⟨.inr (sKs 1 (.inl rfl)),trivial⟩⟩⟩⟩⟩⟩⟩⟩⟩⟩⟩⟩⟩⟩,⟨⟨.inr hV,⟨.inr hV,⟨.inr hV,⟨.inr hV,⟨.inr hV,⟨.inr hV,⟨.inr hV,⟨.inr hV,⟨.inr hV,⟨.inr (sKs 1 (.inr rfl)),⟨.inr hV,⟨.inl rfl,⟨.inr hV,⟨.inr (sKs 1 (.inl rfl)),trivial⟩⟩⟩⟩⟩⟩⟩⟩⟩⟩⟩⟩⟩⟩,⟨⟨.inr hV,⟨.inr hV,⟨.inr hV,⟨.inr hV,⟨.inr hV,⟨.inr hV,⟨.inr hV,⟨.inr hV,⟨.inr hV,⟨.inr (sKs 1 (.inr rfl)),⟨.inr hV,⟨.inr (sKs 1 (.inr rfl)),⟨.inr hV,⟨.inl rfl,trivial⟩⟩⟩⟩⟩⟩⟩⟩⟩⟩⟩⟩⟩⟩,trivial⟩⟩⟩
  ·refine ⟨?_,⟨?_,⟨?_,⟨?_,⟨?_,⟨?_,⟨?_,⟨?_,⟨?_,⟨?_,⟨?_,⟨?_,⟨?_,⟨?_,trivial⟩⟩⟩⟩⟩⟩⟩⟩⟩⟩⟩⟩⟩⟩
   ·rintro lf e ⟨dA,dB⟩ ⟨dC,dD,dE,-⟩
    rintro _ _ _ _ _ _ _ _ _ _ _ _ _ _
    refine sw ?_
    refine pu (vp d 2) wN ?_
    exact f1
   ·rintro lf e ⟨bK,dG⟩ ⟨dH,dI,dJ,-⟩
    rintro _ rfl _ _ _ _ _ _ _ _ _ _ _ _ _
    refine sw ?_
    have bL:=(x.ch bK (nN (nL r (l))))
    refine ld (vs i a.Cn.length j) wN isAgg_22 bL ?_
    exact f1
   ·rintro lf e ⟨dK,dL⟩ ⟨dM,dN,dO,-⟩
    rintro _ _ _ _ _ _ _ _ _ _ _ _ _ _
    refine sw ?_
    refine pu (vp d 3) wN ?_
    exact f1
   ·rintro lf e ⟨bM,dP⟩ ⟨dQ,dR,dS,-⟩
    rintro _ _ _ rfl _ _ _ _ _ _ _ _ _ _ _
    refine sw ?_
    have bN:=(x.ch bM (nN (nL r (l))))
    refine ld (vs f a.Sn.length g) wN isAgg_22 bN ?_
    exact f1
   ·rintro lf e ⟨dU,dV⟩ ⟨dW,dX,dY,-⟩
    rintro _ _ _ _ _ _ _ _ _ _ _ _ _ _
    refine sw ?_
    refine pu (vp d 4) wN ?_
    exact f1
   ·rintro lf e ⟨bO,dZ⟩ ⟨ea,ec,ed,-⟩
    rintro _ _ _ _ _ rfl _ _ _ _ _ _ _ _ _
    refine sw ?_
    have bP:=(x.ch bO (nN (nL r (l))))
    refine ld (vi a.Tick) wN isAgg_3 bP ?_
    exact f1
   ·rintro lf e ⟨ee,ef⟩ ⟨eg,eh,ej,-⟩
    rintro _ _ _ _ _ _ _ _ _ _ _ _ _ _
    refine sw ?_
    refine pu (vp d 5) wN ?_
    exact f1
   ·rintro lf e ⟨bQ,ek⟩ ⟨em,en,eo,-⟩
    rintro _ _ _ _ _ _ _ rfl _ _ _ _ _ _ _
    refine sw ?_
    have bR:=(x.ch bQ (nN (nL r (l))))
    refine ld (vs s a.Cookie.length u) wN isAgg_22 bR ?_
    exact f1
   ·rintro lf e ⟨ep,er⟩ ⟨es,et,eu,-⟩
    rintro _ rfl _ rfl _ _ _ _ _ _ _ _ _ _ _ _
    refine sw ?_
    refine pu (vp b 2) wN ?_
    exact f1
   ·rintro lf e ⟨ew,bS⟩ ⟨ex,ey,ez,-⟩
    rintro _ rfl _ rfl _ _ _ _ _ _ _ rfl _ _ _ _ _
    refine sw ?_
    exact stK (vs i a.Cn.length j) [(vs i a.Cn.length j)] wN sizeOf_22 bS (fun _ h=>h) (fun _ t=>t)
   ·rintro lf e ⟨e0,e1⟩ ⟨e2,e3,e4,-⟩
    rintro _ rfl _ rfl _ rfl _ rfl _ _ _ _ _ rfl _ _ _ _ _ _
    refine sw ?_
    refine pu (vp b 3) wN ?_
    exact f1
   ·rintro lf e ⟨e5,bT⟩ ⟨e6,e7,e8,-⟩
    rintro _ rfl _ rfl _ rfl _ rfl _ _ _ _ _ rfl _ _ _ rfl _ _ _
    refine sw ?_
    exact stK (vs f a.Sn.length g) [(vs f a.Sn.length g)] wN sizeOf_22 bT (fun _ h=>h) (fun _ t=>t)
   ·rintro lf e ⟨e9,eA⟩ ⟨eB,eC,eD,-⟩
    rintro _ rfl _ rfl _ rfl _ rfl _ rfl _ rfl _ _ _ rfl _ _ _ rfl _ _ _ _
    refine sw ?_
    refine pu (vp b 4) wN ?_
    exact f1
   ·rintro lf e ⟨eE,bU⟩ ⟨eF,eG,eH,-⟩
    rintro _ rfl _ rfl _ rfl _ rfl _ rfl _ rfl _ _ _ rfl _ _ _ rfl _ _ _ rfl _
    refine sw ?_
    exact stK (vi a.Tick) [(vi a.Tick)] wN sizeOf_3 bU (fun _ h=>h) (fun _ t=>t)
  ·rintro lf e ⟨ba,bW⟩
   have bX:=a7.ext ba (fun k hk=>by subst hk;exact nT ah.size l)
   rintro _ rfl _ rfl _ rfl _ rfl _ rfl _ rfl _ rfl _ rfl _ rfl _ bY _ rfl _ bZ _ rfl _ ca
   have cb:Blk e b 32 [(vi a.Kind),(vi 0),(vs i a.Cn.length j),(vs f a.Sn.length g),(vi a.Tick),(vs none 0 0),(vs none 0 0),(vi 0),(vi 0),(vs none 0 0),(vs none 0 0)]:=RK.fin bW [(2,[(vs i a.Cn.length j)]),(3,[(vs f a.Sn.length g)]),(4,[(vi a.Tick)])] ⟨bY,bZ,ca,trivial⟩
   refine sw ?_
   refine pu (vp b 5) wN ?_
   refine st (vs s a.Cookie.length u) [(vs s a.Cookie.length u)] [(vi a.Kind),(vi 0),(vs i a.Cn.length j),(vs f a.Sn.length g),(vi a.Tick),(vs s a.Cookie.length u),(vs none 0 0),(vi 0),(vi 0),(vs none 0 0),(vs none 0 0)] wN sizeOf_22 cb ?_
   intro y bb cc eI
   have bc:=bX.ext bb (fun k hk=>by subst hk;exact nT ah.size l)
   refine wl_nil<|wq_then<|wc_region ?_
   refine pu (vp d 2) wN ?_
   have bd:=((x.ch ba (nN (nL r (l)))).ch bb (nN (nL r (l))))
   refine ld (vs i a.Cn.length j) wN isAgg_22 bd ?_
   refine cl wN (ciisNonce y _ a.Cn (mR_22 (ac.from0 bc) ad)) ?_
   rintro _ ap ⟨aC,rfl⟩
   have aD:=bc.extk aC
   refine mw (vb (i_isNonce a.Cn)) ?_
   rcases bf (i_isNonce a.Cn) with N|N
   ·have eJ:=isNonce_f N
    iterate 3 refine sk N ?_
    refine pf (vb false) wN N ?_
    refine mw (vb false) ?_
    iterate 3 refine sk (Eq.refl false) ?_
    refine pf (vb false) wN (Eq.refl false) ?_
    refine mw (vb false) ?_
    iterate 4 refine sk (Eq.refl false) ?_
    refine pf (vb false) wN (Eq.refl false) ?_
    refine aw (vb false) ?_
    refine wl_nil<|wq_blk_normal<|wq_then<|sr ?_
    refine mw (vb false) ?_
    refine mw (vb false) ?_
    iterate 3 refine sk (Eq.refl false) ?_
    refine pf (vb false) wN (Eq.refl false) ?_
    refine aw (vb false) ?_
    refine n3 ?_
    refine rt (vb false) ?_
    refine ⟨aD.keep0,?_⟩
    simp only [i_FrameOk,p,A,N,cond_true,cond_false]
    exact rfl
   have eK:=isNonce_t N
   refine pu (vp d 3) (wS N) ?_
   have be:=(bd.kp aC)
   refine ld (vs f a.Sn.length g) (wS N) isAgg_22 be ?_
   refine cl (wS N) (ciisNonce ap _ a.Sn (mR_22 (ae.from0 aD) af)) ?_
   rintro _ an ⟨aE,rfl⟩
   have bg:=aD.extk aE
   refine pk (vb (i_isNonce a.Sn)) wN N ?_
   refine mw (vb (i_isNonce a.Sn)) ?_
   rcases bf (i_isNonce a.Sn) with S|S
   ·have eL:=isNonce_f S
    iterate 3 refine sk S ?_
    refine pf (vb false) wN S ?_
    refine mw (vb false) ?_
    iterate 4 refine sk (Eq.refl false) ?_
    refine pf (vb false) wN (Eq.refl false) ?_
    refine aw (vb false) ?_
    refine wl_nil<|wq_blk_normal<|wq_then<|sr ?_
    refine mw (vb false) ?_
    refine mw (vb false) ?_
    iterate 3 refine sk (Eq.refl false) ?_
    refine pf (vb false) wN (Eq.refl false) ?_
    refine aw (vb false) ?_
    refine n3 ?_
    refine rt (vb false) ?_
    refine ⟨bg.keep0,?_⟩
    simp only [i_FrameOk,p,A,N,S,cond_true,cond_false]
    exact rfl
   have eM:=isNonce_t S
   refine pu (vp d 4) (wS S) ?_
   have bh:=(be.kp aE)
   refine ld (vi a.Tick) (wS S) isAgg_3 bh ?_
   refine cl (wS S) (ciwithin an a.Tick 0 1000000) ?_
   rintro _ aq ⟨aF,rfl⟩
   have T:=bg.extk aF
   refine pk (vb (i_within a.Tick 0 1000000)) wN S ?_
   refine mw (vb (i_within a.Tick 0 1000000)) ?_
   rcases bf (i_within a.Tick 0 1000000) with V|V
   ·have eN:=impl_within_f V
    iterate 4 refine sk V ?_
    refine pf (vb false) wN V ?_
    refine aw (vb false) ?_
    refine wl_nil<|wq_blk_normal<|wq_then<|sr ?_
    refine mw (vb false) ?_
    refine mw (vb false) ?_
    iterate 3 refine sk (Eq.refl false) ?_
    refine pf (vb false) wN (Eq.refl false) ?_
    refine aw (vb false) ?_
    refine n3 ?_
    refine rt (vb false) ?_
    refine ⟨T.keep0,?_⟩
    simp only [i_FrameOk,p,A,N,S,V,cond_true,cond_false]
    exact rfl
   have eO:=impl_within_t V
   refine pu (vp d 5) (wS V) ?_
   have bi:=(bh.kp aF)
   refine ld (vs s a.Cookie.length u) (wS V) isAgg_22 bi ?_
   refine ln (wS V) slTy_22 (am.from0 T) ?_
   refine pu (vb (decide ((a.Cookie.length:Int)=16))) (wS V) ?_
   refine pk (vb (decide ((a.Cookie.length:Int)=16))) wN V ?_
   refine aw (vb (decide ((a.Cookie.length:Int)=16))) ?_
   refine wl_nil<|wq_blk_normal<|wq_then<|sr ?_
   refine mw (vb (decide ((a.Cookie.length:Int)=16))) ?_
   refine mw (vb (decide ((a.Cookie.length:Int)=16))) ?_
   rcases bf (decide ((a.Cookie.length:Int)=16)) with Z|Z
   ·have eP:=dF Z
    iterate 3 refine sk Z ?_
    refine pf (vb false) wN Z ?_
    refine aw (vb false) ?_
    refine n3 ?_
    refine rt (vb false) ?_
    refine ⟨T.keep0,?_⟩
    simp only [i_FrameOk,p,A,N,S,V,Z,cond_true,cond_false]
    exact rfl
   have eQ:=dT Z
   refine lN (L_32 a i j f g s u J K C D L M) (wS Z) isAgg_32 sizeOf_32 bi ?_
   have cd:=(((cc.kp aC).kp aE).kp aF)
   refine lN [(vi a.Kind),(vi 0),(vs i a.Cn.length j),(vs f a.Sn.length g),(vi a.Tick),(vs s a.Cookie.length u),(vs none 0 0),(vi 0),(vi 0),(vs none 0 0),(vs none 0 0)] (wS Z) isAgg_32 sizeOf_32 cd ?_
   refine cl (wS Z) (cisameFrame aq _ a (mR_32 (ac.from0 T) ad (ae.from0 T) af (am.from0 T) au (av.from0 T) a0 (ax.from0 T) a1 (ay.from0 T) a2) _ _ (show R_32 aq (va [(vi a.Kind),(vi 0),(vs i a.Cn.length j),(vs f a.Sn.length g),(vi a.Tick),(vs s a.Cookie.length u),(vs none 0 0),(vi 0),(vi 0),(vs none 0 0),(vs none 0 0)]) {Kind:=a.Kind,Id:=0,Cn:=a.Cn,Sn:=a.Sn,Tick:=a.Tick,Cookie:=a.Cookie,Proof:=[],Epoch:=0,Seq:=0,Body:=[],Tag:=[]:PFrame} from ⟨_,_,_,_,_,_,_,_,_,_,_,_,rfl,(ac.from0 T),ad,(ae.from0 T),af,(am.from0 T),au,(Rd.nil _ _),(by simp),(Rd.nil _ _),(by simp),(Rd.nil _ _),(by simp)⟩)) ?_
   rintro _ a3 ⟨ce,rfl⟩
   have cg:=T.extk ce
   refine pk (vb (i_sameFrame a {Kind:=a.Kind,Id:=0,Cn:=a.Cn,Sn:=a.Sn,Tick:=a.Tick,Cookie:=a.Cookie,Proof:=[],Epoch:=0,Seq:=0,Body:=[],Tag:=[]:PFrame})) wN Z ?_
   refine aw (vb (i_sameFrame a {Kind:=a.Kind,Id:=0,Cn:=a.Cn,Sn:=a.Sn,Tick:=a.Tick,Cookie:=a.Cookie,Proof:=[],Epoch:=0,Seq:=0,Body:=[],Tag:=[]:PFrame})) ?_
   refine n3 ?_
   refine rt (vb (i_sameFrame a {Kind:=a.Kind,Id:=0,Cn:=a.Cn,Sn:=a.Sn,Tick:=a.Tick,Cookie:=a.Cookie,Proof:=[],Epoch:=0,Seq:=0,Body:=[],Tag:=[]:PFrame})) ?_
   refine ⟨cg.keep0,?_⟩
   simp only [i_FrameOk,p,A,N,S,V,Z,cond_true,cond_false]
   exact rfl
 have eR:=dF A
 refine cf A ?_
 refine sr ?_
 refine pu (vp d 0) wN ?_
 refine ld (vi a.Kind) wN isAgg_3 x ?_
 refine pu (vb (decide (a.Kind=3))) wN ?_
 refine aw (vb (decide (a.Kind=3))) ?_
 refine n2 ?_
 rcases bf (decide (a.Kind=3)) with B|B
 ·have eS:=dF B
  refine cf B ?_
  refine sr ?_
  refine pu (vp d 0) wN ?_
  refine ld (vi a.Kind) wN isAgg_3 x ?_
  refine cl wN (ciSealed a5 a.Kind) ?_
  rintro _ e ⟨ao,rfl⟩
  have bj:=a7.extk ao
  refine aw (vb (i_Sealed a.Kind)) ?_
  refine n2 ?_
  rcases bf (i_Sealed a.Kind) with ai|ai
  ·refine cf ai ?_
   refine wc_skip<|wq_blk_normal<|wq_then<|sr ?_
   refine mw (vb false) ?_
   refine mw (vb false) ?_
   iterate 3 refine sk (Eq.refl false) ?_
   refine pf (vb false) wN (Eq.refl false) ?_
   refine aw (vb false) ?_
   refine n3 ?_
   refine rt (vb false) ?_
   refine ⟨bj.keep0,?_⟩
   simp only [i_FrameOk,p,A,B,ai,cond_true,cond_false]
   exact rfl
  refine ct ai ?_
  refine wc_seq ?_
  have ci:=(a6.kp ao)
  refine wc_drawT ([(117,[],[],(fun _ v _=>v=(vp d 3))),(118,[],[0],(fun _ v _=>v=(vs f a.Sn.length g))),(119,[],[],(fun _ v _=>v=(vp d 7))),(120,[],[2],(fun _ v _=>v=(vi a.Epoch))),(121,[],[],(fun _ v _=>v=(vp d 8))),(122,[],[4],(fun _ v _=>v=(vi a.Seq))),(123,[],[],(fun _ v _=>v=(vp d 9))),(124,[],[6],(fun _ v _=>v=(vs C a.Body.length D))),(125,[],[],(fun _ v _=>v=(vp d 10))),(126,[],[8],(fun _ v _=>v=(vs L a.Tag.length M))),(127,[],[0,1],(fun _ v _=>v=(vp b 3))),(176,[],[0,1,10],(fun _ _ w=>BK w b 32 3 ([(vs f a.Sn.length g)]))),(128,[],[0,1,2,3,10,11],(fun _ v _=>v=(vp b 7))),(178,[],[0,1,2,3,10,11,12],(fun _ _ w=>BK w b 32 7 ([(vi a.Epoch)]))),(129,[],[0,1,2,3,4,5,10,11,12,13],(fun _ v _=>v=(vp b 8))),(180,[],[0,1,2,3,4,5,10,11,12,13,14],(fun _ _ w=>BK w b 32 8 ([(vi a.Seq)]))),(130,[],[0,1,2,3,4,5,6,7,10,11,12,13,14,15],(fun _ v _=>v=(vp b 9))),(182,[],[0,1,2,3,4,5,6,7,10,11,12,13,14,15,16],(fun _ _ w=>BK w b 32 9 ([(vs C a.Body.length D)])))]:GV) (fun lf o=>Ch (fun k=>k=b) e o∧RK lf o b 32 [(vi a.Kind),(vi 0),(vs none 0 0),(vs none 0 0),(vi 0),(vs none 0 0),(vs none 0 0),(vi 0),(vi 0),(vs none 0 0),(vs none 0 0)] [(11,3,1),(13,7,1),(15,8,1),(17,9,1)]) [(11,TK b 32 3 1),(13,TK b 32 7 1),(15,TK b 32 8 1),(17,TK b 32 9 1)] mixed rfl (by kernel_rfl) (by kernel_rfl) ?_ (fun _ _ h=>⟨h.to _,RK.z ci h⟩) (fun _ _ _ _ h mo k=>by obtain ⟨hc,m⟩:=h;exact ⟨hc.comp k (fun _ _ q=>q.elim),m.kp mo k⟩) ⟨(fun _ _ w o h mo hj t=>by obtain ⟨hc,m⟩:=h;exact ⟨hc.comp t.1 (fun _ _ q=>q),m.st mo hj (.head _) t⟩),⟨(fun _ _ w o h mo hj t=>by obtain ⟨hc,m⟩:=h;exact ⟨hc.comp t.1 (fun _ _ q=>q),m.st mo hj (.tail _ (.head _)) t⟩),⟨(fun _ _ w o h mo hj t=>by obtain ⟨hc,m⟩:=h;exact ⟨hc.comp t.1 (fun _ _ q=>q),m.st mo hj (.tail _ (.tail _ (.head _))) t⟩),⟨(fun _ _ w o h mo hj t=>by obtain ⟨hc,m⟩:=h;exact ⟨hc.comp t.1 (fun _ _ q=>q),m.st mo hj (.tail _ (.tail _ (.tail _ (.head _)))) t⟩),trivial⟩⟩⟩⟩ ?_ ?_ ?_
  ·exact ⟨hV,hE,⟨hV,hE,⟨hV,hE,⟨hV,hE,⟨hV,hE,⟨hV,hE,⟨hV,hE,⟨hV,hE,⟨hV,hE,⟨hV,hE,⟨hV,hE,⟨sK,hE,⟨hV,hE,⟨sK,hE,⟨hV,hE,⟨sK,hE,⟨hV,hE,⟨sK,hE,trivial⟩⟩⟩⟩⟩⟩⟩⟩⟩⟩⟩⟩⟩⟩⟩⟩⟩⟩
  ·exact ⟨⟨.inr hV,⟨.inr hV,⟨.inr hV,⟨.inr hV,⟨.inr hV,⟨.inr hV,⟨.inr hV,⟨.inr hV,⟨.inr hV,⟨.inr hV,⟨.inr hV,⟨.inl rfl,⟨.inr hV,⟨.inr (sKs 1 (.inl rfl)),⟨.inr hV,⟨.inr (sKs 1 (.inl rfl)),⟨.inr hV,⟨.inr (sKs 1 (.inl rfl)),trivial⟩⟩⟩⟩⟩⟩⟩⟩⟩⟩⟩⟩⟩⟩⟩⟩⟩⟩,⟨⟨.inr hV,⟨.inr hV,⟨.inr hV,⟨.inr hV,⟨.inr hV,⟨.inr hV,⟨.inr hV,⟨.inr hV,⟨.inr hV,⟨.inr hV,⟨.inr hV,⟨.inr (sKs 1 (.inr rfl)),⟨.inr hV,⟨.inl rfl,⟨.inr hV,⟨.inr (sKs 1 (.inl rfl)),⟨.inr hV,⟨.inr (sKs 1 (.inl rfl)),trivial⟩⟩⟩⟩⟩⟩⟩⟩⟩⟩⟩⟩⟩⟩⟩⟩⟩⟩,⟨⟨.inr hV,⟨.inr hV,⟨.inr hV,⟨.inr hV,⟨.inr hV,⟨.inr hV,⟨.inr hV,⟨.inr hV,⟨.inr hV,⟨.inr hV,⟨.inr hV,⟨.inr (sKs 1 (.inr rfl)),⟨.inr hV,⟨.inr (sKs 1 (.inr rfl)),⟨.inr hV,⟨.inl rfl,⟨.inr hV,⟨.inr (sKs 1 (.inl rfl)),trivial⟩⟩⟩⟩⟩⟩⟩⟩⟩⟩⟩⟩⟩⟩⟩⟩⟩⟩,⟨⟨.inr hV,⟨.inr hV,⟨.inr hV,⟨.inr hV,⟨.inr hV,⟨.inr hV,⟨.inr hV,⟨.inr hV,⟨.inr hV,⟨.inr hV,⟨.inr hV,⟨.inr (sKs 1 (.inr rfl)),⟨.inr hV,⟨.inr (sKs 1 (.inr rfl)),⟨.inr hV,⟨.inr (sKs 1 (.inr rfl)),⟨.inr hV,⟨.inl rfl,trivial⟩⟩⟩⟩⟩⟩⟩⟩⟩⟩⟩⟩⟩⟩⟩⟩⟩⟩,trivial⟩⟩⟩⟩
  ·refine ⟨?_,⟨?_,⟨?_,⟨?_,⟨?_,⟨?_,⟨?_,⟨?_,⟨?_,⟨?_,⟨?_,⟨?_,⟨?_,⟨?_,⟨?_,⟨?_,⟨?_,⟨?_,trivial⟩⟩⟩⟩⟩⟩⟩⟩⟩⟩⟩⟩⟩⟩⟩⟩⟩⟩
   ·rintro lf y ⟨eT,eU⟩ ⟨eV,eW,eX,eY,-⟩
    rintro _ _ _ _ _ _ _ _ _ _ _ _ _ _ _ _ _ _
    refine sw ?_
    refine pu (vp d 3) wN ?_
    exact f1
   ·rintro lf y ⟨cj,eZ⟩ ⟨fa,fb,fc,fd,-⟩
    rintro _ rfl _ _ _ _ _ _ _ _ _ _ _ _ _ _ _ _ _
    refine sw ?_
    have ck:=((x.kp ao).ch cj (nN (nL r (l))))
    refine ld (vs f a.Sn.length g) wN isAgg_22 ck ?_
    exact f1
   ·rintro lf y ⟨fe,ff⟩ ⟨fg,fh,fi,fj,-⟩
    rintro _ _ _ _ _ _ _ _ _ _ _ _ _ _ _ _ _ _
    refine sw ?_
    refine pu (vp d 7) wN ?_
    exact f1
   ·rintro lf y ⟨cm,fk⟩ ⟨fl,fm,fo,fp,-⟩
    rintro _ _ _ rfl _ _ _ _ _ _ _ _ _ _ _ _ _ _ _
    refine sw ?_
    have cn:=((x.kp ao).ch cm (nN (nL r (l))))
    refine ld (vi a.Epoch) wN isAgg_3 cn ?_
    exact f1
   ·rintro lf y ⟨fq,fr⟩ ⟨fs,ft,fu,fv,-⟩
    rintro _ _ _ _ _ _ _ _ _ _ _ _ _ _ _ _ _ _
    refine sw ?_
    refine pu (vp d 8) wN ?_
    exact f1
   ·rintro lf y ⟨co,fw⟩ ⟨fx,fy,fz,f0,-⟩
    rintro _ _ _ _ _ rfl _ _ _ _ _ _ _ _ _ _ _ _ _
    refine sw ?_
    have cp:=((x.kp ao).ch co (nN (nL r (l))))
    refine ld (vi a.Seq) wN isAgg_3 cp ?_
    exact f1
   ·rintro lf y ⟨f3,f4⟩ ⟨f5,f6,f7,f8,-⟩
    rintro _ _ _ _ _ _ _ _ _ _ _ _ _ _ _ _ _ _
    refine sw ?_
    refine pu (vp d 9) wN ?_
    exact f1
   ·rintro lf y ⟨cq,f9⟩ ⟨fA,fB,fC,fD,-⟩
    rintro _ _ _ _ _ _ _ rfl _ _ _ _ _ _ _ _ _ _ _
    refine sw ?_
    have cr:=((x.kp ao).ch cq (nN (nL r (l))))
    refine ld (vs C a.Body.length D) wN isAgg_22 cr ?_
    exact f1
   ·rintro lf y ⟨fE,fF⟩ ⟨fG,fH,fI,fJ,-⟩
    rintro _ _ _ _ _ _ _ _ _ _ _ _ _ _ _ _ _ _
    refine sw ?_
    refine pu (vp d 10) wN ?_
    exact f1
   ·rintro lf y ⟨cs,fK⟩ ⟨fL,fM,fN,fO,-⟩
    rintro _ _ _ _ _ _ _ _ _ rfl _ _ _ _ _ _ _ _ _
    refine sw ?_
    have cu:=((x.kp ao).ch cs (nN (nL r (l))))
    refine ld (vs L a.Tag.length M) wN isAgg_22 cu ?_
    exact f1
   ·rintro lf y ⟨fP,fQ⟩ ⟨fR,fS,fT,fU,-⟩
    rintro _ rfl _ rfl _ _ _ _ _ _ _ _ _ _ _ _ _ _ _ _
    refine sw ?_
    refine pu (vp b 3) wN ?_
    exact f1
   ·rintro lf y ⟨fV,cv⟩ ⟨fW,fX,fY,fZ,-⟩
    rintro _ rfl _ rfl _ _ _ _ _ _ _ _ _ rfl _ _ _ _ _ _ _
    refine sw ?_
    exact stK (vs f a.Sn.length g) [(vs f a.Sn.length g)] wN sizeOf_22 cv (fun _ h=>h) (fun _ t=>t)
   ·rintro lf y ⟨ga,gb⟩ ⟨gd,ge,gf,gg,-⟩
    rintro _ rfl _ rfl _ rfl _ rfl _ _ _ _ _ _ _ rfl _ _ _ _ _ _ _ _
    refine sw ?_
    refine pu (vp b 7) wN ?_
    exact f1
   ·rintro lf y ⟨gh,cw⟩ ⟨gi,gj,gk,gl,-⟩
    rintro _ rfl _ rfl _ rfl _ rfl _ _ _ _ _ _ _ rfl _ _ _ rfl _ _ _ _ _
    refine sw ?_
    exact stK (vi a.Epoch) [(vi a.Epoch)] wN sizeOf_3 cw (fun _ h=>h) (fun _ t=>t)
   ·rintro lf y ⟨gm,gn⟩ ⟨gp,gq,gr,gs,-⟩
    rintro _ rfl _ rfl _ rfl _ rfl _ rfl _ rfl _ _ _ _ _ rfl _ _ _ rfl _ _ _ _ _ _
    refine sw ?_
    refine pu (vp b 8) wN ?_
    exact f1
   ·rintro lf y ⟨gt,cx⟩ ⟨gu,gv,gw,gx,-⟩
    rintro _ rfl _ rfl _ rfl _ rfl _ rfl _ rfl _ _ _ _ _ rfl _ _ _ rfl _ _ _ rfl _ _ _
    refine sw ?_
    exact stK (vi a.Seq) [(vi a.Seq)] wN sizeOf_3 cx (fun _ h=>h) (fun _ t=>t)
   ·rintro lf y ⟨gy,gz⟩ ⟨g0,g1,g2,g3,-⟩
    rintro _ rfl _ rfl _ rfl _ rfl _ rfl _ rfl _ rfl _ rfl _ _ _ rfl _ _ _ rfl _ _ _ rfl _ _ _ _
    refine sw ?_
    refine pu (vp b 9) wN ?_
    exact f1
   ·rintro lf y ⟨g4,cy⟩ ⟨g5,g6,g7,g8,-⟩
    rintro _ rfl _ rfl _ rfl _ rfl _ rfl _ rfl _ rfl _ rfl _ _ _ rfl _ _ _ rfl _ _ _ rfl _ _ _ rfl _
    refine sw ?_
    exact stK (vs C a.Body.length D) [(vs C a.Body.length D)] wN sizeOf_22 cy (fun _ h=>h) (fun _ t=>t)
  ·rintro lf y ⟨bk,cz⟩
   have c0:=bj.ext bk (fun k hk=>by subst hk;exact nT ah.size l)
   rintro _ rfl _ rfl _ rfl _ rfl _ rfl _ rfl _ rfl _ rfl _ rfl _ rfl _ rfl _ c1 _ rfl _ c2 _ rfl _ c3 _ rfl _ c4
   have c5:Blk y b 32 [(vi a.Kind),(vi 0),(vs none 0 0),(vs f a.Sn.length g),(vi 0),(vs none 0 0),(vs none 0 0),(vi a.Epoch),(vi a.Seq),(vs C a.Body.length D),(vs none 0 0)]:=RK.fin cz [(3,[(vs f a.Sn.length g)]),(7,[(vi a.Epoch)]),(8,[(vi a.Seq)]),(9,[(vs C a.Body.length D)])] ⟨c1,c2,c3,c4,trivial⟩
   refine sw ?_
   refine pu (vp b 10) wN ?_
   refine st (vs L a.Tag.length M) [(vs L a.Tag.length M)] [(vi a.Kind),(vi 0),(vs none 0 0),(vs f a.Sn.length g),(vi 0),(vs none 0 0),(vs none 0 0),(vi a.Epoch),(vi a.Seq),(vs C a.Body.length D),(vs L a.Tag.length M)] wN sizeOf_22 c5 ?_
   intro ap bl c6 g9
   have bm:=c0.ext bl (fun k hk=>by subst hk;exact nT ah.size l)
   refine wl_nil<|wq_then<|wc_region ?_
   refine pu (vp d 3) wN ?_
   have bn:=(((x.kp ao).ch bk (nN (nL r (l)))).ch bl (nN (nL r (l))))
   refine ld (vs f a.Sn.length g) wN isAgg_22 bn ?_
   refine cl wN (ciisNonce ap _ a.Sn (mR_22 (ae.from0 bm) af)) ?_
   rintro _ an ⟨aG,rfl⟩
   have bo:=bm.extk aG
   refine mw (vb (i_isNonce a.Sn)) ?_
   rcases bf (i_isNonce a.Sn) with G|G
   ·have gA:=isNonce_f G
    iterate 3 refine sk G ?_
    refine pf (vb false) wN G ?_
    refine mw (vb false) ?_
    iterate 3 refine sk (Eq.refl false) ?_
    refine pf (vb false) wN (Eq.refl false) ?_
    refine mw (vb false) ?_
    iterate 4 refine sk (Eq.refl false) ?_
    refine pf (vb false) wN (Eq.refl false) ?_
    refine mw (vb false) ?_
    iterate 6 refine sk (Eq.refl false) ?_
    refine pf (vb false) wN (Eq.refl false) ?_
    refine aw (vb false) ?_
    refine wl_nil<|wq_blk_normal<|wq_then<|sr ?_
    refine mw (vb false) ?_
    refine mw (vb false) ?_
    iterate 3 refine sk (Eq.refl false) ?_
    refine pf (vb false) wN (Eq.refl false) ?_
    refine aw (vb false) ?_
    refine n3 ?_
    refine rt (vb false) ?_
    refine ⟨bo.keep0,?_⟩
    simp only [i_FrameOk,p,A,B,ai,G,cond_true,cond_false]
    exact rfl
   have gB:=isNonce_t G
   refine pu (vp d 7) (wS G) ?_
   have bp:=(bn.kp aG)
   refine ld (vi a.Epoch) (wS G) isAgg_3 bp ?_
   refine cl (wS G) (ciwithin an a.Epoch 0 4294967295) ?_
   rintro _ aq ⟨aH,rfl⟩
   have bq:=bo.extk aH
   refine pk (vb (i_within a.Epoch 0 4294967295)) wN G ?_
   refine mw (vb (i_within a.Epoch 0 4294967295)) ?_
   rcases bf (i_within a.Epoch 0 4294967295) with O|O
   ·have gC:=impl_within_f O
    iterate 3 refine sk O ?_
    refine pf (vb false) wN O ?_
    refine mw (vb false) ?_
    iterate 4 refine sk (Eq.refl false) ?_
    refine pf (vb false) wN (Eq.refl false) ?_
    refine mw (vb false) ?_
    iterate 6 refine sk (Eq.refl false) ?_
    refine pf (vb false) wN (Eq.refl false) ?_
    refine aw (vb false) ?_
    refine wl_nil<|wq_blk_normal<|wq_then<|sr ?_
    refine mw (vb false) ?_
    refine mw (vb false) ?_
    iterate 3 refine sk (Eq.refl false) ?_
    refine pf (vb false) wN (Eq.refl false) ?_
    refine aw (vb false) ?_
    refine n3 ?_
    refine rt (vb false) ?_
    refine ⟨bq.keep0,?_⟩
    simp only [i_FrameOk,p,A,B,ai,G,O,cond_true,cond_false]
    exact rfl
   have gD:=impl_within_t O
   refine pu (vp d 8) (wS O) ?_
   have br:=(bp.kp aH)
   refine ld (vi a.Seq) (wS O) isAgg_3 br ?_
   refine cl (wS O) (ciwithin aq a.Seq 0 281474976710655) ?_
   rintro _ a3 ⟨aI,rfl⟩
   have a4:=bq.extk aI
   refine pk (vb (i_within a.Seq 0 281474976710655)) wN O ?_
   refine mw (vb (i_within a.Seq 0 281474976710655)) ?_
   rcases bf (i_within a.Seq 0 281474976710655) with P|P
   ·have gE:=impl_within_f P
    iterate 4 refine sk P ?_
    refine pf (vb false) wN P ?_
    refine mw (vb false) ?_
    iterate 6 refine sk (Eq.refl false) ?_
    refine pf (vb false) wN (Eq.refl false) ?_
    refine aw (vb false) ?_
    refine wl_nil<|wq_blk_normal<|wq_then<|sr ?_
    refine mw (vb false) ?_
    refine mw (vb false) ?_
    iterate 3 refine sk (Eq.refl false) ?_
    refine pf (vb false) wN (Eq.refl false) ?_
    refine aw (vb false) ?_
    refine n3 ?_
    refine rt (vb false) ?_
    refine ⟨a4.keep0,?_⟩
    simp only [i_FrameOk,p,A,B,ai,G,O,P,cond_true,cond_false]
    exact rfl
   have gF:=impl_within_t P
   refine pu (vp d 10) (wS P) ?_
   have a8:=(br.kp aI)
   refine ld (vs L a.Tag.length M) (wS P) isAgg_22 a8 ?_
   refine ln (wS P) slTy_22 (ay.from0 a4) ?_
   refine pu (vb (decide ((a.Tag.length:Int)=16))) (wS P) ?_
   refine pk (vb (decide ((a.Tag.length:Int)=16))) wN P ?_
   refine mw (vb (decide ((a.Tag.length:Int)=16))) ?_
   rcases bf (decide ((a.Tag.length:Int)=16)) with H|H
   ·have gG:=dF H
    iterate 6 refine sk H ?_
    refine pf (vb false) wN H ?_
    refine aw (vb false) ?_
    refine wl_nil<|wq_blk_normal<|wq_then<|sr ?_
    refine mw (vb false) ?_
    refine mw (vb false) ?_
    iterate 3 refine sk (Eq.refl false) ?_
    refine pf (vb false) wN (Eq.refl false) ?_
    refine aw (vb false) ?_
    refine n3 ?_
    refine rt (vb false) ?_
    refine ⟨a4.keep0,?_⟩
    simp only [i_FrameOk,p,A,B,ai,G,O,P,H,cond_true,cond_false]
    exact rfl
   have gH:=dT H
   refine pu (vp d 0) (wS H) ?_
   refine ld (vi a.Kind) (wS H) isAgg_3 a8 ?_
   refine pu (vp d 9) (wS H) ?_
   refine ld (vs C a.Body.length D) (wS H) isAgg_22 a8 ?_
   refine ln (wS H) slTy_22 (ax.from0 a4) ?_
   refine cl (wS H) (cibodyOk a3 a.Kind (a.Body.length:Int)) ?_
   rintro _ aJ ⟨aK,rfl⟩
   have aa:=a4.extk aK
   refine pk (vb (i_bodyOk a.Kind (a.Body.length:Int))) wN H ?_
   refine aw (vb (i_bodyOk a.Kind (a.Body.length:Int))) ?_
   refine wl_nil<|wq_blk_normal<|wq_then<|sr ?_
   refine mw (vb (i_bodyOk a.Kind (a.Body.length:Int))) ?_
   refine mw (vb (i_bodyOk a.Kind (a.Body.length:Int))) ?_
   rcases bf (i_bodyOk a.Kind (a.Body.length:Int)) with ak|ak
   ·iterate 3 refine sk ak ?_
    refine pf (vb false) wN ak ?_
    refine aw (vb false) ?_
    refine n3 ?_
    refine rt (vb false) ?_
    refine ⟨aa.keep0,?_⟩
    simp only [i_FrameOk,p,A,B,ai,G,O,P,H,ak,cond_true,cond_false]
    exact rfl
   have c7:=(a8.kp aK)
   refine lN (L_32 a i j f g s u J K C D L M) (wS ak) isAgg_32 sizeOf_32 c7 ?_
   have c8:=((((c6.kp aG).kp aH).kp aI).kp aK)
   refine lN [(vi a.Kind),(vi 0),(vs none 0 0),(vs f a.Sn.length g),(vi 0),(vs none 0 0),(vs none 0 0),(vi a.Epoch),(vi a.Seq),(vs C a.Body.length D),(vs L a.Tag.length M)] (wS ak) isAgg_32 sizeOf_32 c8 ?_
   refine cl (wS ak) (cisameFrame aJ _ a (mR_32 (ac.from0 aa) ad (ae.from0 aa) af (am.from0 aa) au (av.from0 aa) a0 (ax.from0 aa) a1 (ay.from0 aa) a2) _ _ (show R_32 aJ (va [(vi a.Kind),(vi 0),(vs none 0 0),(vs f a.Sn.length g),(vi 0),(vs none 0 0),(vs none 0 0),(vi a.Epoch),(vi a.Seq),(vs C a.Body.length D),(vs L a.Tag.length M)]) {Kind:=a.Kind,Id:=0,Cn:=[],Sn:=a.Sn,Tick:=0,Cookie:=[],Proof:=[],Epoch:=a.Epoch,Seq:=a.Seq,Body:=a.Body,Tag:=a.Tag:PFrame} from ⟨_,_,_,_,_,_,_,_,_,_,_,_,rfl,(Rd.nil _ _),(by simp),(ae.from0 aa),af,(Rd.nil _ _),(by simp),(Rd.nil _ _),(by simp),(ax.from0 aa),a1,(ay.from0 aa),a2⟩)) ?_
   rintro _ gI ⟨c9,rfl⟩
   have cC:=aa.extk c9
   refine pk (vb (i_sameFrame a {Kind:=a.Kind,Id:=0,Cn:=[],Sn:=a.Sn,Tick:=0,Cookie:=[],Proof:=[],Epoch:=a.Epoch,Seq:=a.Seq,Body:=a.Body,Tag:=a.Tag:PFrame})) wN ak ?_
   refine aw (vb (i_sameFrame a {Kind:=a.Kind,Id:=0,Cn:=[],Sn:=a.Sn,Tick:=0,Cookie:=[],Proof:=[],Epoch:=a.Epoch,Seq:=a.Seq,Body:=a.Body,Tag:=a.Tag:PFrame})) ?_
   refine n3 ?_
   refine rt (vb (i_sameFrame a {Kind:=a.Kind,Id:=0,Cn:=[],Sn:=a.Sn,Tick:=0,Cookie:=[],Proof:=[],Epoch:=a.Epoch,Seq:=a.Seq,Body:=a.Body,Tag:=a.Tag:PFrame})) ?_
   refine ⟨cC.keep0,?_⟩
   simp only [i_FrameOk,p,A,B,ai,G,O,P,H,ak,cond_true,cond_false]
   exact rfl
 have gJ:=dT B
 refine ct B ?_
 refine wc_seq ?_
 refine wc_drawT ([(65,[],[],(fun _ v _=>v=(vp d 1))),(66,[],[0],(fun _ v _=>v=(vi a.Id))),(67,[],[],(fun _ v _=>v=(vp d 2))),(68,[],[2],(fun _ v _=>v=(vs i a.Cn.length j))),(69,[],[],(fun _ v _=>v=(vp d 3))),(70,[],[4],(fun _ v _=>v=(vs f a.Sn.length g))),(71,[],[],(fun _ v _=>v=(vp d 4))),(72,[],[6],(fun _ v _=>v=(vi a.Tick))),(73,[],[],(fun _ v _=>v=(vp d 5))),(74,[],[8],(fun _ v _=>v=(vs s a.Cookie.length u))),(75,[],[],(fun _ v _=>v=(vp d 6))),(76,[],[10],(fun _ v _=>v=(vs J a.Proof.length K))),(77,[],[0,1],(fun _ v _=>v=(vp b 1))),(178,[],[0,1,12],(fun _ _ w=>BK w b 32 1 ([(vi a.Id)]))),(78,[],[0,1,2,3,12,13],(fun _ v _=>v=(vp b 2))),(180,[],[0,1,2,3,12,13,14],(fun _ _ w=>BK w b 32 2 ([(vs i a.Cn.length j)]))),(79,[],[0,1,2,3,4,5,12,13,14,15],(fun _ v _=>v=(vp b 3))),(182,[],[0,1,2,3,4,5,12,13,14,15,16],(fun _ _ w=>BK w b 32 3 ([(vs f a.Sn.length g)]))),(80,[],[0,1,2,3,4,5,6,7,12,13,14,15,16,17],(fun _ v _=>v=(vp b 4))),(184,[],[0,1,2,3,4,5,6,7,12,13,14,15,16,17,18],(fun _ _ w=>BK w b 32 4 ([(vi a.Tick)]))),(81,[],[0,1,2,3,4,5,6,7,8,9,12,13,14,15,16,17,18,19],(fun _ v _=>v=(vp b 5))),(186,[],[0,1,2,3,4,5,6,7,8,9,12,13,14,15,16,17,18,19,20],(fun _ _ w=>BK w b 32 5 ([(vs s a.Cookie.length u)])))]:GV) (fun lf o=>Ch (fun k=>k=b) a5 o∧RK lf o b 32 [(vi a.Kind),(vi 0),(vs none 0 0),(vs none 0 0),(vi 0),(vs none 0 0),(vs none 0 0),(vi 0),(vi 0),(vs none 0 0),(vs none 0 0)] [(13,1,1),(15,2,1),(17,3,1),(19,4,1),(21,5,1)]) [(13,TK b 32 1 1),(15,TK b 32 2 1),(17,TK b 32 3 1),(19,TK b 32 4 1),(21,TK b 32 5 1)] mixed rfl (by kernel_rfl) (by kernel_rfl) ?_ (fun _ _ h=>⟨h.to _,RK.z a6 h⟩) (fun _ _ _ _ h mo k=>by obtain ⟨hc,m⟩:=h;exact ⟨hc.comp k (fun _ _ q=>q.elim),m.kp mo k⟩) ⟨(fun _ _ w o h mo hj t=>by obtain ⟨hc,m⟩:=h;exact ⟨hc.comp t.1 (fun _ _ q=>q),m.st mo hj (.head _) t⟩),⟨(fun _ _ w o h mo hj t=>by obtain ⟨hc,m⟩:=h;exact ⟨hc.comp t.1 (fun _ _ q=>q),m.st mo hj (.tail _ (.head _)) t⟩),⟨(fun _ _ w o h mo hj t=>by obtain ⟨hc,m⟩:=h;exact ⟨hc.comp t.1 (fun _ _ q=>q),m.st mo hj (.tail _ (.tail _ (.head _))) t⟩),⟨(fun _ _ w o h mo hj t=>by obtain ⟨hc,m⟩:=h;exact ⟨hc.comp t.1 (fun _ _ q=>q),m.st mo hj (.tail _ (.tail _ (.tail _ (.head _)))) t⟩),⟨(fun _ _ w o h mo hj t=>by obtain ⟨hc,m⟩:=h;exact ⟨hc.comp t.1 (fun _ _ q=>q),m.st mo hj (.tail _ (.tail _ (.tail _ (.tail _ (.head _))))) t⟩),trivial⟩⟩⟩⟩⟩ ?_ ?_ ?_
 ·exact ⟨hV,hE,⟨hV,hE,⟨hV,hE,⟨hV,hE,⟨hV,hE,⟨hV,hE,⟨hV,hE,⟨hV,hE,⟨hV,hE,⟨hV,hE,⟨hV,hE,⟨hV,hE,⟨hV,hE,⟨sK,hE,⟨hV,hE,⟨sK,hE,⟨hV,hE,⟨sK,hE,⟨hV,hE,⟨sK,hE,⟨hV,hE,⟨sK,hE,trivial⟩⟩⟩⟩⟩⟩⟩⟩⟩⟩⟩⟩⟩⟩⟩⟩⟩⟩⟩⟩⟩⟩
 ·exact ⟨⟨.inr hV,⟨.inr hV,⟨.inr hV,⟨.inr hV,⟨.inr hV,⟨.inr hV,⟨.inr hV,⟨.inr hV,⟨.inr hV,⟨.inr hV,⟨.inr hV,⟨.inr hV,⟨.inr hV,⟨.inl rfl,⟨.inr hV,⟨.inr (sKs 1 (.inl rfl)),⟨.inr hV,⟨.inr (sKs 1 (.inl rfl)),⟨.inr hV,⟨.inr (sKs 1 (.inl rfl)),⟨.inr hV,⟨.inr (sKs 1 (.inl rfl)),trivial⟩⟩⟩⟩⟩⟩⟩⟩⟩⟩⟩⟩⟩⟩⟩⟩⟩⟩⟩⟩⟩⟩,⟨⟨.inr hV,⟨.inr hV,⟨.inr hV,⟨.inr hV,⟨.inr hV,⟨.inr hV,⟨.inr hV,⟨.inr hV,⟨.inr hV,⟨.inr hV,⟨.inr hV,⟨.inr hV,⟨.inr hV,⟨.inr (sKs 1 (.inr rfl)),⟨.inr hV,⟨.inl rfl,⟨.inr hV,⟨.inr (sKs 1 (.inl rfl)),⟨.inr hV,⟨.inr (sKs 1 (.inl rfl)),⟨.inr hV,⟨.inr (sKs 1 (.inl rfl)),trivial⟩⟩⟩⟩⟩⟩⟩⟩⟩⟩⟩⟩⟩⟩⟩⟩⟩⟩⟩⟩⟩⟩,⟨⟨.inr hV,⟨.inr hV,⟨.inr hV,⟨.inr hV,⟨.inr hV,⟨.inr hV,⟨.inr hV,⟨.inr hV,⟨.inr hV,⟨.inr hV,⟨.inr hV,⟨.inr hV,⟨.inr hV,⟨.inr (sKs 1 (.inr rfl)),⟨.inr hV,⟨.inr (sKs 1 (.inr rfl)),⟨.inr hV,⟨.inl rfl,⟨.inr hV,⟨.inr (sKs 1 (.inl rfl)),⟨.inr hV,⟨.inr (sKs 1 (.inl rfl)),trivial⟩⟩⟩⟩⟩⟩⟩⟩⟩⟩⟩⟩⟩⟩⟩⟩⟩⟩⟩⟩⟩⟩,⟨⟨.inr hV,⟨.inr hV,⟨.inr hV,⟨.inr hV,⟨.inr hV,⟨.inr hV,⟨.inr hV,⟨.inr hV,⟨.inr hV,⟨.inr hV,⟨.inr hV,⟨.inr hV,⟨.inr hV,⟨.inr (sKs 1 (.inr rfl)),⟨.inr hV,⟨.inr (sKs 1 (.inr rfl)),⟨.inr hV,⟨.inr (sKs 1 (.inr rfl)),⟨.inr hV,⟨.inl rfl,⟨.inr hV,⟨.inr (sKs 1 (.inl rfl)),trivial⟩⟩⟩⟩⟩⟩⟩⟩⟩⟩⟩⟩⟩⟩⟩⟩⟩⟩⟩⟩⟩⟩,⟨⟨.inr hV,⟨.inr hV,⟨.inr hV,⟨.inr hV,⟨.inr hV,⟨.inr hV,⟨.inr hV,⟨.inr hV,⟨.inr hV,⟨.inr hV,⟨.inr hV,⟨.inr hV,⟨.inr hV,⟨.inr (sKs 1 (.inr rfl)),⟨.inr hV,⟨.inr (sKs 1 (.inr rfl)),⟨.inr hV,⟨.inr (sKs 1 (.inr rfl)),⟨.inr hV,⟨.inr (sKs 1 (.inr rfl)),⟨.inr hV,⟨.inl rfl,trivial⟩⟩⟩⟩⟩⟩⟩⟩⟩⟩⟩⟩⟩⟩⟩⟩⟩⟩⟩⟩⟩⟩,trivial⟩⟩⟩⟩⟩
 ·refine ⟨?_,⟨?_,⟨?_,⟨?_,⟨?_,⟨?_,⟨?_,⟨?_,⟨?_,⟨?_,⟨?_,⟨?_,⟨?_,⟨?_,⟨?_,⟨?_,⟨?_,⟨?_,⟨?_,⟨?_,⟨?_,⟨?_,trivial⟩⟩⟩⟩⟩⟩⟩⟩⟩⟩⟩⟩⟩⟩⟩⟩⟩⟩⟩⟩⟩⟩
  ·rintro lf e ⟨gK,gL⟩ ⟨gM,gN,gO,gP,gQ,-⟩
   rintro _ _ _ _ _ _ _ _ _ _ _ _ _ _ _ _ _ _ _ _ _ _
   refine sw ?_
   refine pu (vp d 1) wN ?_
   exact f1
  ·rintro lf e ⟨cD,gR⟩ ⟨gS,gT,gU,gV,gW,-⟩
   rintro _ rfl _ _ _ _ _ _ _ _ _ _ _ _ _ _ _ _ _ _ _ _ _
   refine sw ?_
   have cE:=(x.ch cD (nN (nL r (l))))
   refine ld (vi a.Id) wN isAgg_3 cE ?_
   exact f1
  ·rintro lf e ⟨gX,gY⟩ ⟨gZ,ha,hb,hd,he,-⟩
   rintro _ _ _ _ _ _ _ _ _ _ _ _ _ _ _ _ _ _ _ _ _ _
   refine sw ?_
   refine pu (vp d 2) wN ?_
   exact f1
  ·rintro lf e ⟨cF,hf⟩ ⟨hg,hh,hi,hl,hm,-⟩
   rintro _ _ _ rfl _ _ _ _ _ _ _ _ _ _ _ _ _ _ _ _ _ _ _
   refine sw ?_
   have cG:=(x.ch cF (nN (nL r (l))))
   refine ld (vs i a.Cn.length j) wN isAgg_22 cG ?_
   exact f1
  ·rintro lf e ⟨hn,ho⟩ ⟨hp,hq,hr,hs,ht,-⟩
   rintro _ _ _ _ _ _ _ _ _ _ _ _ _ _ _ _ _ _ _ _ _ _
   refine sw ?_
   refine pu (vp d 3) wN ?_
   exact f1
  ·rintro lf e ⟨cH,hu⟩ ⟨hv,hw,hx,hy,hz,-⟩
   rintro _ _ _ _ _ rfl _ _ _ _ _ _ _ _ _ _ _ _ _ _ _ _ _
   refine sw ?_
   have cI:=(x.ch cH (nN (nL r (l))))
   refine ld (vs f a.Sn.length g) wN isAgg_22 cI ?_
   exact f1
  ·rintro lf e ⟨h0,h1⟩ ⟨h2,h3,h4,h5,h6,-⟩
   rintro _ _ _ _ _ _ _ _ _ _ _ _ _ _ _ _ _ _ _ _ _ _
   refine sw ?_
   refine pu (vp d 4) wN ?_
   exact f1
  ·rintro lf e ⟨cJ,h7⟩ ⟨h8,h9,hA,hB,hC,-⟩
   rintro _ _ _ _ _ _ _ rfl _ _ _ _ _ _ _ _ _ _ _ _ _ _ _
   refine sw ?_
   have cK:=(x.ch cJ (nN (nL r (l))))
   refine ld (vi a.Tick) wN isAgg_3 cK ?_
   exact f1
  ·rintro lf e ⟨hD,hF⟩ ⟨hG,hH,hI,hJ,hK,-⟩
   rintro _ _ _ _ _ _ _ _ _ _ _ _ _ _ _ _ _ _ _ _ _ _
   refine sw ?_
   refine pu (vp d 5) wN ?_
   exact f1
  ·rintro lf e ⟨cL,hL⟩ ⟨hM,hN,hO,hP,hQ,-⟩
   rintro _ _ _ _ _ _ _ _ _ rfl _ _ _ _ _ _ _ _ _ _ _ _ _
   refine sw ?_
   have cM:=(x.ch cL (nN (nL r (l))))
   refine ld (vs s a.Cookie.length u) wN isAgg_22 cM ?_
   exact f1
  ·rintro lf e ⟨hR,hS⟩ ⟨hT,hU,hW,hX,hY,-⟩
   rintro _ _ _ _ _ _ _ _ _ _ _ _ _ _ _ _ _ _ _ _ _ _
   refine sw ?_
   refine pu (vp d 6) wN ?_
   exact f1
  ·rintro lf e ⟨cN,hZ⟩ ⟨ia,ib,ic,ie,ig,-⟩
   rintro _ _ _ _ _ _ _ _ _ _ _ rfl _ _ _ _ _ _ _ _ _ _ _
   refine sw ?_
   have cO:=(x.ch cN (nN (nL r (l))))
   refine ld (vs J a.Proof.length K) wN isAgg_22 cO ?_
   exact f1
  ·rintro lf e ⟨ih,ii⟩ ⟨ij,ik,il,im,io,-⟩
   rintro _ rfl _ rfl _ _ _ _ _ _ _ _ _ _ _ _ _ _ _ _ _ _ _ _
   refine sw ?_
   refine pu (vp b 1) wN ?_
   exact f1
  ·rintro lf e ⟨ip,cP⟩ ⟨iq,ir,it,iu,iv,-⟩
   rintro _ rfl _ rfl _ _ _ _ _ _ _ _ _ _ _ rfl _ _ _ _ _ _ _ _ _
   refine sw ?_
   exact stK (vi a.Id) [(vi a.Id)] wN sizeOf_3 cP (fun _ h=>h) (fun _ t=>t)
  ·rintro lf e ⟨iw,iy⟩ ⟨iz,i0,i1,i2,i3,-⟩
   rintro _ rfl _ rfl _ rfl _ rfl _ _ _ _ _ _ _ _ _ rfl _ _ _ _ _ _ _ _ _ _
   refine sw ?_
   refine pu (vp b 2) wN ?_
   exact f1
  ·rintro lf e ⟨i4,cQ⟩ ⟨i5,i6,i7,i8,i9,-⟩
   rintro _ rfl _ rfl _ rfl _ rfl _ _ _ _ _ _ _ _ _ rfl _ _ _ rfl _ _ _ _ _ _ _
   refine sw ?_
   exact stK (vs i a.Cn.length j) [(vs i a.Cn.length j)] wN sizeOf_22 cQ (fun _ h=>h) (fun _ t=>t)
  ·rintro lf e ⟨iA,iB⟩ ⟨iC,iD,iE,iF,iG,-⟩
   rintro _ rfl _ rfl _ rfl _ rfl _ rfl _ rfl _ _ _ _ _ _ _ rfl _ _ _ rfl _ _ _ _ _ _ _ _
   refine sw ?_
   refine pu (vp b 3) wN ?_
   exact f1
  ·rintro lf e ⟨iH,cR⟩ ⟨iI,iJ,iK,iL,iM,-⟩
   rintro _ rfl _ rfl _ rfl _ rfl _ rfl _ rfl _ _ _ _ _ _ _ rfl _ _ _ rfl _ _ _ rfl _ _ _ _ _
   refine sw ?_
   exact stK (vs f a.Sn.length g) [(vs f a.Sn.length g)] wN sizeOf_22 cR (fun _ h=>h) (fun _ t=>t)
  ·rintro lf e ⟨iN,iO⟩ ⟨iP,iQ,iR,iS,iT,-⟩
   rintro _ rfl _ rfl _ rfl _ rfl _ rfl _ rfl _ rfl _ rfl _ _ _ _ _ rfl _ _ _ rfl _ _ _ rfl _ _ _ _ _ _
   refine sw ?_
   refine pu (vp b 4) wN ?_
   exact f1
  ·rintro lf e ⟨iU,cS⟩ ⟨iW,iX,iY,iZ,ja,-⟩
   rintro _ rfl _ rfl _ rfl _ rfl _ rfl _ rfl _ rfl _ rfl _ _ _ _ _ rfl _ _ _ rfl _ _ _ rfl _ _ _ rfl _ _ _
   refine sw ?_
   exact stK (vi a.Tick) [(vi a.Tick)] wN sizeOf_3 cS (fun _ h=>h) (fun _ t=>t)
  ·rintro lf e ⟨jb,jc⟩ ⟨jd,je,jf,jg,jh,-⟩
   rintro _ rfl _ rfl _ rfl _ rfl _ rfl _ rfl _ rfl _ rfl _ rfl _ rfl _ _ _ rfl _ _ _ rfl _ _ _ rfl _ _ _ rfl _ _ _ _
   refine sw ?_
   refine pu (vp b 5) wN ?_
   exact f1
  ·rintro lf e ⟨ji,cT⟩ ⟨jj,jk,jl,jm,jn,-⟩
   rintro _ rfl _ rfl _ rfl _ rfl _ rfl _ rfl _ rfl _ rfl _ rfl _ rfl _ _ _ rfl _ _ _ rfl _ _ _ rfl _ _ _ rfl _ _ _ rfl _
   refine sw ?_
   exact stK (vs s a.Cookie.length u) [(vs s a.Cookie.length u)] wN sizeOf_22 cT (fun _ h=>h) (fun _ t=>t)
 ·rintro lf e ⟨bu,cU⟩
  have cV:=a7.ext bu (fun k hk=>by subst hk;exact nT ah.size l)
  rintro _ rfl _ rfl _ rfl _ rfl _ rfl _ rfl _ rfl _ rfl _ rfl _ rfl _ rfl _ rfl _ rfl _ cW _ rfl _ cX _ rfl _ cY _ rfl _ cZ _ rfl _ da
  have db:Blk e b 32 [(vi a.Kind),(vi a.Id),(vs i a.Cn.length j),(vs f a.Sn.length g),(vi a.Tick),(vs s a.Cookie.length u),(vs none 0 0),(vi 0),(vi 0),(vs none 0 0),(vs none 0 0)]:=RK.fin cU [(1,[(vi a.Id)]),(2,[(vs i a.Cn.length j)]),(3,[(vs f a.Sn.length g)]),(4,[(vi a.Tick)]),(5,[(vs s a.Cookie.length u)])] ⟨cW,cX,cY,cZ,da,trivial⟩
  refine sw ?_
  refine pu (vp b 6) wN ?_
  refine st (vs J a.Proof.length K) [(vs J a.Proof.length K)] [(vi a.Kind),(vi a.Id),(vs i a.Cn.length j),(vs f a.Sn.length g),(vi a.Tick),(vs s a.Cookie.length u),(vs J a.Proof.length K),(vi 0),(vi 0),(vs none 0 0),(vs none 0 0)] wN sizeOf_22 db ?_
  intro y bv dc jo
  have dd:=cV.ext bv (fun k hk=>by subst hk;exact nT ah.size l)
  refine wl_nil<|wq_then<|wc_region ?_
  refine pu (vp d 1) wN ?_
  have bw:=((x.ch bu (nN (nL r (l)))).ch bv (nN (nL r (l))))
  refine ld (vi a.Id) wN isAgg_3 bw ?_
  refine cl wN (ciwithin y a.Id 1 9) ?_
  rintro _ ap ⟨aL,rfl⟩
  have aM:=dd.extk aL
  refine mw (vb (i_within a.Id 1 9)) ?_
  rcases bf (i_within a.Id 1 9) with E|E
  ·have jp:=impl_within_f E
   iterate 3 refine sk E ?_
   refine pf (vb false) wN E ?_
   refine mw (vb false) ?_
   iterate 3 refine sk (Eq.refl false) ?_
   refine pf (vb false) wN (Eq.refl false) ?_
   refine mw (vb false) ?_
   iterate 3 refine sk (Eq.refl false) ?_
   refine pf (vb false) wN (Eq.refl false) ?_
   refine mw (vb false) ?_
   iterate 4 refine sk (Eq.refl false) ?_
   refine pf (vb false) wN (Eq.refl false) ?_
   refine mw (vb false) ?_
   iterate 4 refine sk (Eq.refl false) ?_
   refine pf (vb false) wN (Eq.refl false) ?_
   refine aw (vb false) ?_
   refine wl_nil<|wq_blk_normal<|wq_then<|sr ?_
   refine mw (vb false) ?_
   refine mw (vb false) ?_
   iterate 3 refine sk (Eq.refl false) ?_
   refine pf (vb false) wN (Eq.refl false) ?_
   refine aw (vb false) ?_
   refine n3 ?_
   refine rt (vb false) ?_
   refine ⟨aM.keep0,?_⟩
   simp only [i_FrameOk,p,A,B,E,cond_true,cond_false]
   exact rfl
  have jq:=impl_within_t E
  refine pu (vp d 2) (wS E) ?_
  have bz:=(bw.kp aL)
  refine ld (vs i a.Cn.length j) (wS E) isAgg_22 bz ?_
  refine cl (wS E) (ciisNonce ap _ a.Cn (mR_22 (ac.from0 aM) ad)) ?_
  rintro _ an ⟨aN,rfl⟩
  have aO:=aM.extk aN
  refine pk (vb (i_isNonce a.Cn)) wN E ?_
  refine mw (vb (i_isNonce a.Cn)) ?_
  rcases bf (i_isNonce a.Cn) with I|I
  ·have jr:=isNonce_f I
   iterate 3 refine sk I ?_
   refine pf (vb false) wN I ?_
   refine mw (vb false) ?_
   iterate 3 refine sk (Eq.refl false) ?_
   refine pf (vb false) wN (Eq.refl false) ?_
   refine mw (vb false) ?_
   iterate 4 refine sk (Eq.refl false) ?_
   refine pf (vb false) wN (Eq.refl false) ?_
   refine mw (vb false) ?_
   iterate 4 refine sk (Eq.refl false) ?_
   refine pf (vb false) wN (Eq.refl false) ?_
   refine aw (vb false) ?_
   refine wl_nil<|wq_blk_normal<|wq_then<|sr ?_
   refine mw (vb false) ?_
   refine mw (vb false) ?_
   iterate 3 refine sk (Eq.refl false) ?_
   refine pf (vb false) wN (Eq.refl false) ?_
   refine aw (vb false) ?_
   refine n3 ?_
   refine rt (vb false) ?_
   refine ⟨aO.keep0,?_⟩
   simp only [i_FrameOk,p,A,B,E,I,cond_true,cond_false]
   exact rfl
  have js:=isNonce_t I
  refine pu (vp d 3) (wS I) ?_
  have b0:=(bz.kp aN)
  refine ld (vs f a.Sn.length g) (wS I) isAgg_22 b0 ?_
  refine cl (wS I) (ciisNonce an _ a.Sn (mR_22 (ae.from0 aO) af)) ?_
  rintro _ aq ⟨aP,rfl⟩
  have b1:=aO.extk aP
  refine pk (vb (i_isNonce a.Sn)) wN I ?_
  refine mw (vb (i_isNonce a.Sn)) ?_
  rcases bf (i_isNonce a.Sn) with Q|Q
  ·have jt:=isNonce_f Q
   iterate 3 refine sk Q ?_
   refine pf (vb false) wN Q ?_
   refine mw (vb false) ?_
   iterate 4 refine sk (Eq.refl false) ?_
   refine pf (vb false) wN (Eq.refl false) ?_
   refine mw (vb false) ?_
   iterate 4 refine sk (Eq.refl false) ?_
   refine pf (vb false) wN (Eq.refl false) ?_
   refine aw (vb false) ?_
   refine wl_nil<|wq_blk_normal<|wq_then<|sr ?_
   refine mw (vb false) ?_
   refine mw (vb false) ?_
   iterate 3 refine sk (Eq.refl false) ?_
   refine pf (vb false) wN (Eq.refl false) ?_
   refine aw (vb false) ?_
   refine n3 ?_
   refine rt (vb false) ?_
   refine ⟨b1.keep0,?_⟩
   simp only [i_FrameOk,p,A,B,E,I,Q,cond_true,cond_false]
   exact rfl
  have ju:=isNonce_t Q
  refine pu (vp d 4) (wS Q) ?_
  have b2:=(b0.kp aP)
  refine ld (vi a.Tick) (wS Q) isAgg_3 b2 ?_
  refine cl (wS Q) (ciwithin aq a.Tick 0 1000000) ?_
  rintro _ a3 ⟨aQ,rfl⟩
  have F:=b1.extk aQ
  refine pk (vb (i_within a.Tick 0 1000000)) wN Q ?_
  refine mw (vb (i_within a.Tick 0 1000000)) ?_
  rcases bf (i_within a.Tick 0 1000000) with R|R
  ·have jv:=impl_within_f R
   iterate 4 refine sk R ?_
   refine pf (vb false) wN R ?_
   refine mw (vb false) ?_
   iterate 4 refine sk (Eq.refl false) ?_
   refine pf (vb false) wN (Eq.refl false) ?_
   refine aw (vb false) ?_
   refine wl_nil<|wq_blk_normal<|wq_then<|sr ?_
   refine mw (vb false) ?_
   refine mw (vb false) ?_
   iterate 3 refine sk (Eq.refl false) ?_
   refine pf (vb false) wN (Eq.refl false) ?_
   refine aw (vb false) ?_
   refine n3 ?_
   refine rt (vb false) ?_
   refine ⟨F.keep0,?_⟩
   simp only [i_FrameOk,p,A,B,E,I,Q,R,cond_true,cond_false]
   exact rfl
  have jw:=impl_within_t R
  refine pu (vp d 5) (wS R) ?_
  have aR:=(b2.kp aQ)
  refine ld (vs s a.Cookie.length u) (wS R) isAgg_22 aR ?_
  refine ln (wS R) slTy_22 (am.from0 F) ?_
  refine pu (vb (decide ((a.Cookie.length:Int)=16))) (wS R) ?_
  refine pk (vb (decide ((a.Cookie.length:Int)=16))) wN R ?_
  refine mw (vb (decide ((a.Cookie.length:Int)=16))) ?_
  rcases bf (decide ((a.Cookie.length:Int)=16)) with W|W
  ·have jx:=dF W
   iterate 4 refine sk W ?_
   refine pf (vb false) wN W ?_
   refine aw (vb false) ?_
   refine wl_nil<|wq_blk_normal<|wq_then<|sr ?_
   refine mw (vb false) ?_
   refine mw (vb false) ?_
   iterate 3 refine sk (Eq.refl false) ?_
   refine pf (vb false) wN (Eq.refl false) ?_
   refine aw (vb false) ?_
   refine n3 ?_
   refine rt (vb false) ?_
   refine ⟨F.keep0,?_⟩
   simp only [i_FrameOk,p,A,B,E,I,Q,R,W,cond_true,cond_false]
   exact rfl
  have jy:=dT W
  refine pu (vp d 6) (wS W) ?_
  refine ld (vs J a.Proof.length K) (wS W) isAgg_22 aR ?_
  refine ln (wS W) slTy_22 (av.from0 F) ?_
  refine pu (vb (decide ((a.Proof.length:Int)=16))) (wS W) ?_
  refine pk (vb (decide ((a.Proof.length:Int)=16))) wN W ?_
  refine aw (vb (decide ((a.Proof.length:Int)=16))) ?_
  refine wl_nil<|wq_blk_normal<|wq_then<|sr ?_
  refine mw (vb (decide ((a.Proof.length:Int)=16))) ?_
  refine mw (vb (decide ((a.Proof.length:Int)=16))) ?_
  rcases bf (decide ((a.Proof.length:Int)=16)) with ab|ab
  ·have jz:=dF ab
   iterate 3 refine sk ab ?_
   refine pf (vb false) wN ab ?_
   refine aw (vb false) ?_
   refine n3 ?_
   refine rt (vb false) ?_
   refine ⟨F.keep0,?_⟩
   simp only [i_FrameOk,p,A,B,E,I,Q,R,W,ab,cond_true,cond_false]
   exact rfl
  have j0:=dT ab
  refine lN (L_32 a i j f g s u J K C D L M) (wS ab) isAgg_32 sizeOf_32 aR ?_
  have de:=((((dc.kp aL).kp aN).kp aP).kp aQ)
  refine lN [(vi a.Kind),(vi a.Id),(vs i a.Cn.length j),(vs f a.Sn.length g),(vi a.Tick),(vs s a.Cookie.length u),(vs J a.Proof.length K),(vi 0),(vi 0),(vs none 0 0),(vs none 0 0)] (wS ab) isAgg_32 sizeOf_32 de ?_
  refine cl (wS ab) (cisameFrame a3 _ a (mR_32 (ac.from0 F) ad (ae.from0 F) af (am.from0 F) au (av.from0 F) a0 (ax.from0 F) a1 (ay.from0 F) a2) _ _ (show R_32 a3 (va [(vi a.Kind),(vi a.Id),(vs i a.Cn.length j),(vs f a.Sn.length g),(vi a.Tick),(vs s a.Cookie.length u),(vs J a.Proof.length K),(vi 0),(vi 0),(vs none 0 0),(vs none 0 0)]) {Kind:=a.Kind,Id:=a.Id,Cn:=a.Cn,Sn:=a.Sn,Tick:=a.Tick,Cookie:=a.Cookie,Proof:=a.Proof,Epoch:=0,Seq:=0,Body:=[],Tag:=[]:PFrame} from ⟨_,_,_,_,_,_,_,_,_,_,_,_,rfl,(ac.from0 F),ad,(ae.from0 F),af,(am.from0 F),au,(av.from0 F),a0,(Rd.nil _ _),(by simp),(Rd.nil _ _),(by simp)⟩)) ?_
  rintro _ aJ ⟨df,rfl⟩
  have dg:=F.extk df
  refine pk (vb (i_sameFrame a {Kind:=a.Kind,Id:=a.Id,Cn:=a.Cn,Sn:=a.Sn,Tick:=a.Tick,Cookie:=a.Cookie,Proof:=a.Proof,Epoch:=0,Seq:=0,Body:=[],Tag:=[]:PFrame})) wN ab ?_
  refine aw (vb (i_sameFrame a {Kind:=a.Kind,Id:=a.Id,Cn:=a.Cn,Sn:=a.Sn,Tick:=a.Tick,Cookie:=a.Cookie,Proof:=a.Proof,Epoch:=0,Seq:=0,Body:=[],Tag:=[]:PFrame})) ?_
  refine n3 ?_
  refine rt (vb (i_sameFrame a {Kind:=a.Kind,Id:=a.Id,Cn:=a.Cn,Sn:=a.Sn,Tick:=a.Tick,Cookie:=a.Cookie,Proof:=a.Proof,Epoch:=0,Seq:=0,Body:=[],Tag:=[]:PFrame})) ?_
  refine ⟨dg.keep0,?_⟩
  simp only [i_FrameOk,p,A,B,E,I,Q,R,W,ab,cond_true,cond_false]
  exact rfl
theorem frameOk_i {f:PFrame} (h:i_FrameOk f=true):f.Body.length≤40:=by
  have hs:∀ g:PFrame,i_sameFrame f g=true→f.Body=g.Body:=fun g hg=>by
    simp only [i_sameFrame,Bool.cond_false_right,Bool.and_eq_true,b_Equal,eqS_mk,decide_eq_true_eq] at hg
    exact hg.2.2.2.2.2.2.2.2.2.1
  simp only [i_FrameOk,Bool.cond_false_right] at h
  cases h1:decide (f.Kind=1)
  · cases h2:decide (f.Kind=2)
    · cases h3:decide (f.Kind=3)
      · simp only [h1,h2,h3,cond_false,Bool.and_eq_true] at h
        have hb:=h.2.2.2.2.2.1
        simp only [i_bodyOk,cond_eq_ite,decide_eq_true_eq] at hb
        (repeat' split at hb) <;> (have hq:=dT hb;omega)
      · simp only [h1,h2,h3,cond_false,cond_true,Bool.and_eq_true] at h
        have hq:=hs _ h.2.2.2.2.2.2
        rw [hq];exact Nat.zero_le _
    · simp only [h1,h2,cond_false,cond_true,Bool.and_eq_true] at h
      have hq:=hs _ h.2.2.2.2
      rw [hq];exact Nat.zero_le _
  · simp only [h1,cond_true,Bool.and_eq_true] at h
    have hq:=hs _ h.2.2
    rw [hq];exact Nat.zero_le _

theorem ciHeadOf (i:World) (d:Int) (y:Value) (e:List UInt8) (T:R_22 i y e) (a:Int) (b:Int) :Fn Try.prog 46 #[(vi d),y,(vi a),(vi b)] i (fun v A=>Keep i A∧O_22 A i.heap.size v (headOf d e a b)):=by
 obtain ⟨j,k,rfl,B,C⟩:=T
 refine fn_ofS (n:=37) [(vi d),(vs j e.length k),(vi a),(vi b)] Try.func46 rfl rfl ?_
 refine sr ?_
 refine aw (vs none 0 0) ?_
 refine n4 ?_
 refine jT1 [(0,(vi d)),(1,(vs j e.length k)),(2,(vi a)),(3,(vi b)),(8,(vs none 0 0))] (headOf d e a b=[]) ?_ fun r=>?_
 ·intro V D W a0
  have X:=(Ch.base i).extk W
  refine sr ?_
  refine aw (vs none 0 0) ?_
  refine n1 ?_
  refine rt (vs none 0 0) ?_
  refine ⟨X.keep0,?_⟩
  rw [V]
  exact ⟨_,_,rfl,(by first|exact own_nil _ _ _ _|exact OLv.nil _ _ _ _),(by simp),⟨trivial,trivial⟩⟩
 refine mw (vi d) ?_
 refine cl wN (ciisRole i d) ?_
 rintro _ D ⟨l,rfl⟩
 have E:=(Ch.base i).extk l
 refine pu (vb (!(i_isRole d))) wN ?_
 refine mw (vb (!(i_isRole d))) ?_
 rcases bf (i_isRole d) with f|f
 ·have a1:=isRole_f f
  iterate 3 refine sk (cA not f) ?_
  refine pk (vb true) wN (cA not f) ?_
  refine mw (vb true) ?_
  iterate 3 refine sk (Eq.refl true) ?_
  refine pk (vb true) wN (Eq.refl true) ?_
  refine mw (vb true) ?_
  iterate 3 refine sk (Eq.refl true) ?_
  refine pk (vb true) wN (Eq.refl true) ?_
  refine n2 ?_
  refine ct (Eq.refl true) ?_
  have Y:headOf d e a b=[]:=by first|exact headOf_f (by omega)|exact headOf_t (by omega) (by omega) (by omega) (by omega) (by simp [joinB,putN4,putN6])
  exact wj (r Y _ l)
 have a2:=isRole_t f
 refine mv (vs j e.length k) (wS (cA not f)) ?_
 refine cl (wS (cA not f)) (ciisNonce D _ e (mR_22 (B.from0 E) C)) ?_
 rintro _ Z ⟨o,rfl⟩
 refine pu (vb (!(i_isNonce e))) (wS (cA not f)) ?_
 refine pf (vb (!(i_isNonce e))) wN (cA not f) ?_
 refine mw (vb (!(i_isNonce e))) ?_
 rcases bf (i_isNonce e) with g|g
 ·have a3:=isNonce_f g
  iterate 3 refine sk (cA not g) ?_
  refine pk (vb true) wN (cA not g) ?_
  refine mw (vb true) ?_
  iterate 3 refine sk (Eq.refl true) ?_
  refine pk (vb true) wN (Eq.refl true) ?_
  refine n2 ?_
  refine ct (Eq.refl true) ?_
  have aa:headOf d e a b=[]:=by first|exact headOf_f (by omega)|exact headOf_t (by omega) (by omega) (by omega) (by omega) (by simp [joinB,putN4,putN6])
  exact wj (r aa _ (l.trans o))
 have a4:=isNonce_t g
 refine mv (vi a) (wS (cA not g)) ?_
 refine cl (wS (cA not g)) (ciwithin Z a 0 4294967295) ?_
 rintro _ ab ⟨s,rfl⟩
 have ac:=(E.extk o).extk s
 refine pu (vb (!(i_within a 0 4294967295))) (wS (cA not g)) ?_
 refine pf (vb (!(i_within a 0 4294967295))) wN (cA not g) ?_
 refine mw (vb (!(i_within a 0 4294967295))) ?_
 rcases bf (i_within a 0 4294967295) with h|h
 ·have a5:=impl_within_f h
  iterate 3 refine sk (cA not h) ?_
  refine pk (vb true) wN (cA not h) ?_
  refine n2 ?_
  refine ct (Eq.refl true) ?_
  have ad:headOf d e a b=[]:=by first|exact headOf_f (by omega)|exact headOf_t (by omega) (by omega) (by omega) (by omega) (by simp [joinB,putN4,putN6])
  exact wj (r ad _ ((l.trans o).trans s))
 have a6:=impl_within_t h
 refine mv (vi b) (wS (cA not h)) ?_
 refine cl (wS (cA not h)) (ciwithin ab b 0 281474976710655) ?_
 rintro _ a7 ⟨u,rfl⟩
 refine pu (vb (!(i_within b 0 281474976710655))) (wS (cA not h)) ?_
 refine pf (vb (!(i_within b 0 281474976710655))) wN (cA not h) ?_
 refine n2 ?_
 rcases bf (i_within b 0 281474976710655) with p|p
 ·have a8:=impl_within_f p
  refine ct (cA not p) ?_
  have ae:headOf d e a b=[]:=by first|exact headOf_f (by omega)|exact headOf_t (by omega) (by omega) (by omega) (by omega) (by simp [joinB,putN4,putN6])
  exact wj (r ae _ (((l.trans o).trans s).trans u))
 have a9:=impl_within_t p
 refine cf (cA not p) ?_
 refine y1 ?_
 refine mw (vi d) ?_
 refine wl_conv8 d wN rfl rfl (by kernel_rfl) ?_
 refine ltB ([(by8 d)]:List UInt8) wN slTy_22 ?_
 intro F G H I af
 have ah:=(ac.extk u).extk I
 refine mw (vs j e.length k) ?_
 refine mw (vi a) ?_
 refine cl wN (ciPutN H _ _ (show R_22 H (vs none 0 0) [] from ⟨_,_,rfl,(Rd.nil _ _),(by simp)⟩) a 4 (by first|omega|(simp;done)|(simp;omega)|(simp only [List.length_append,List.length_cons,List.length_nil] at *;omega))) ?_
 rintro _ J ⟨x,⟨K,M,rfl,ai,aj,aA⟩⟩
 have aB:=putN_len0 a 4
 refine mw (vi b) ?_
 refine cl wN (ciPutN J _ _ (show R_22 J (vs none 0 0) [] from ⟨_,_,rfl,(Rd.nil _ _),(by simp)⟩) b 6 (by first|omega|(simp;done)|(simp;omega)|(simp only [List.length_append,List.length_cons,List.length_nil] at *;omega))) ?_
 rintro _ aC ⟨t,⟨N,O,rfl,ak,am,aD⟩⟩
 have aE:=putN_len0 b 6
 refine wl_lit [(vs F ([(by8 d)]:List UInt8).length G),(vs j e.length k),(vs K (putN [] a 4).length M),(vs N (putN [] b 6).length O)] wN rfl rfl slTy_56 (m:=4) rfl (by simp only [maxLen];omega) (fun w=>by kernel_rfl) ?_
 intro aF an q P
 obtain ⟨aG,aH,rfl⟩:=own_form P
 have Q:=((ah.extk x).extk t).extk q
 have ao:=(own_kp ak q)
 have ap:=(own_kp (own_kp ai t) q)
 have aq:=(own_kp (own_kp (own_kp af x) t) q)
 refine cl wN (cijoined an _ [([(by8 d)]:List UInt8),e,(putN [] a 4),(putN [] b 6)] (mR_56 (RLv.mk (L:=LT_22) [(([(by8 d)]:List UInt8),[(F,G)]),(e,[(j,k)]),((putN [] a 4),[(K,M)]),((putN [] b 6),[(N,O)])] (Rd.of_own P) rfl ⟨⟨⟨(Rd.of_own aq),(by simp)⟩,trivial⟩,⟨⟨⟨(B.from0 Q),C⟩,trivial⟩,⟨⟨⟨(Rd.of_own ap),aj⟩,trivial⟩,⟨⟨⟨(Rd.of_own ao),am⟩,trivial⟩,trivial⟩⟩⟩⟩ (by first|decide|exact Nat.le_of_ble_eq_true rfl)) (by first|decide|exact Nat.le_of_ble_eq_true rfl)) (by first|omega|(rw [joinB_l2];omega)|(rw [joinB_l2];simp only [List.length_cons,List.length_nil,maskB_len];omega)|(rw [joinB_l3];simp only [List.length_cons,List.length_nil,maskB_len];omega)|(simp only [joinB,List.flatten_cons,List.flatten_nil,List.length_append,List.length_cons,List.length_nil,maskB_len];omega))) ?_
 rintro _ aI ⟨au,⟨R,S,rfl,av,ax,aJ⟩⟩
 have ay:=Q.extk au
 have aK:=(show (joinB [([(by8 d)]:List UInt8),e,(putN [] a 4),(putN [] b 6)]).length=1+e.length+(putN [] a 4).length+(putN [] b 6).length by simp only [joinB,List.flatten_cons,List.flatten_nil,List.length_append,List.length_cons,List.length_nil];omega)
 refine aw (vs R (joinB [([(by8 d)]:List UInt8),e,(putN [] a 4),(putN [] b 6)]).length S) ?_
 refine n3 ?_
 refine rt (vs R (joinB [([(by8 d)]:List UInt8),e,(putN [] a 4),(putN [] b 6)]).length S) ?_
 refine ⟨ay.keep0,?_⟩
 have az:headOf d e a b=(joinB [([(by8 d)]:List UInt8),e,(putN [] a 4),(putN [] b 6)]):=by first|exact headOf_f (by omega)|exact headOf_t (by omega) (by omega) (by omega) (by omega) (by simp [joinB,putN4,putN6])
 rw [az]
 exact ⟨_,_,rfl,(own_lo av (z8 l o s u I x t q)),ax,⟨trivial,trivial⟩⟩

theorem ciBlockKey (b:World) (K:Value) (a:List UInt8) (ab:R_22 b K a) :Fn Try.prog 82 #[K] b (fun v f=>Keep b f∧O_22 f b.heap.size v (blockKey a)):=by
 obtain ⟨h,i,rfl,w,L⟩:=ab
 refine fn_ofS (n:=21) [(vs h a.length i)] Try.func82 rfl rfl ?_
 refine sr ?_
 refine aw (vs none 0 0) ?_
 refine n4 ?_
 refine mw (vs h a.length i) ?_
 refine ln wN slTy_22 w ?_
 refine pu (vb (decide (1048576 < (a.length:Int)))) wN ?_
 refine n2 ?_
 rcases bt (decide (1048576 < (a.length:Int))) with m|m
 ·have a3:=dT m
  refine ct m ?_
  refine sr ?_
  refine aw (vs none 0 0) ?_
  refine n1 ?_
  refine rt (vs none 0 0) ?_
  refine ⟨Ch.refl _ _,?_⟩
  have ac:blockKey a=[]:=by first|exact blockKey_f (by omega)|exact blockKey_l (by omega) (by omega) (by omega) (by simp only [List.length_append,List.length_replicate] at *;omega)|exact blockKey_s (by omega) (by omega) (by simp only [List.length_append,List.length_replicate] at *;omega)
  rw [ac]
  exact ⟨_,_,rfl,(by first|exact own_nil _ _ _ _|exact OLv.nil _ _ _ _),(by simp),⟨trivial,trivial⟩⟩
 have a4:=dF m
 refine cf m ?_
 refine y1 ?_
 refine mw (vs h a.length i) ?_
 refine cl wN (ciclone b _ a (mR_22 w L)) ?_
 rintro _ g ⟨x,⟨y,A,rfl,ad,ae,a5⟩⟩
 have B:=(Ch.base b).extk x
 refine aw (vs y (a).length A) ?_
 refine n4 ?_
 refine mw (vs h a.length i) ?_
 refine ln wN slTy_22 (w.from0 B) ?_
 refine pu (vb (decide (64 < (a.length:Int)))) wN ?_
 refine n2 ?_
 rcases bf (decide (64 < (a.length:Int))) with o|o
 ·have a6:=dF o
  refine cf o ?_
  refine wc_skip<|wq_then<|wc_seq<|wc_block ?_
  have M:((a):List UInt8)=(a)++List.replicate 0 (0:UInt8):=by simp
  refine wc_loopP [(2,(vs none 0 0)),(3,(.slice y ((a)++List.replicate 0 (0:UInt8)).length A))] ⟨rfl,(cA (fun l:List UInt8=>Value.slice y l.length A) M),trivial⟩ (fun e' f=>∃ (j:Nat) (N:Env) (d:Option Addr) (e:Nat),e'=pt N [(2,(vs none 0 0)),(3,(.slice d ((a)++List.replicate j (0:UInt8)).length e))]∧Ch (fun k=>b.heap.size≤k) b f∧Ch (fun k=>b.heap.size≤k) g f∧(a).length+j≤64∧(World.ownsRow f b.heap.size 5 1 (.slice d ((a)++List.replicate j (0:UInt8)).length e) ((a)++List.replicate j (0:UInt8)).length (((a)++List.replicate j (0:UInt8)).map bV)∧((a)++List.replicate j (0:UInt8)).length≤1073741824)) (fun e' _=>64 - (lenOf (e' 3))) ?_ ?_
  ·exact fun u=>⟨0,u,y,A,rfl,B,(Ch.refl (fun k=>b.heap.size≤k) g),(by omega),(M ▸ ⟨ad,ae⟩)⟩
  ·rintro _ p ⟨j,N,d,e,rfl,O,P,a7,⟨q,af⟩⟩
   have hol:((a)++List.replicate j (0:UInt8)).length=(a).length+j:=by rw [List.length_append,List.length_replicate]
   refine wc_seq<|sr ?_
   refine mw (vs d ((a)++List.replicate j (0:UInt8)).length e) ?_
   refine ln wN slTy_22 (Rd.of_own q) ?_
   refine pu (vb (decide ((((a)++List.replicate j (0:UInt8)).length:Int) < 64))) wN ?_
   refine n2 ?_
   rcases bf (decide ((((a)++List.replicate j (0:UInt8)).length:Int) < 64)) with r|r
   ·have a8:=dF r
    refine cf r ?_
    refine wc_exit<|wq_then_exit<|wq_then_exit<|wq_blk_exit<|wq_then<|sr ?_
    refine mw (vs d ((a)++List.replicate j (0:UInt8)).length e) ?_
    refine aw (vs d ((a)++List.replicate j (0:UInt8)).length e) ?_
    refine n3 ?_
    refine rt (vs d ((a)++List.replicate j (0:UInt8)).length e) ?_
    refine ⟨O.keep0,?_⟩
    have ah:blockKey a=((a)++List.replicate j (0:UInt8)):=by first|exact blockKey_f (by omega)|exact blockKey_l (by omega) (by omega) (by omega) (by simp only [List.length_append,List.length_replicate] at *;omega)|exact blockKey_s (by omega) (by omega) (by simp only [List.length_append,List.length_replicate] at *;omega)
    rw [ah]
    exact ⟨_,_,rfl,q,af,⟨trivial,trivial⟩⟩
   have a9:=dT r
   refine ct r ?_
   refine wc_skip<|wq_then<|wc_block<|wc_region ?_
   refine mw (vs d ((a)++List.replicate j (0:UInt8)).length e) ?_
   refine ltB ([0]:List UInt8) wN slTy_22 ?_
   intro aA aB Q C ai
   have aj:=(own_kp q C)
   refine apB ((a)++List.replicate j (0:UInt8)) ([0]:List UInt8) wN slTy_22 aj (Rd.of_own ai) (z3 x P C) ?_
   intro D E ak R am aC an
   have ao:=(O.extk C).ext R (fun k hk=>nT (Nat.le_refl b.heap.size) (own_lt q k hk).1)
   refine aw (vs D (((a)++List.replicate j (0:UInt8))++([0]:List UInt8)).length E) ?_
   refine wl_nil<|wq_blk_normal ?_
   have S:((((a)++List.replicate j (0:UInt8))++([0]:List UInt8)):List UInt8)=(a)++List.replicate (j+1) (0:UInt8):=by rw [List.replicate_succ',List.append_assoc]
   refine wq_loopP (w0:=p) [(2,(vs none 0 0)),(3,(.slice D ((a)++List.replicate (j+1) (0:UInt8)).length E))] ?_ ?_ ?_
   · exact ⟨rfl,(cA (fun l:List UInt8=>Value.slice D l.length E) S),trivial⟩
   · exact fun u=>⟨(j+1),u,D,E,rfl,ao,((((Ch.refl (fun k=>b.heap.size≤k) g).ext P (fun k hk=>hk)).extk C).ext R (fun k hk=>nT (Nat.le_refl b.heap.size) (own_lt q k hk).1)),(by omega),(S ▸ ⟨am,an⟩)⟩
   · show 64 - ((a)++List.replicate (j+1) (0:UInt8)).length < 64 - ((a)++List.replicate j (0:UInt8)).length;simp only [List.length_append,List.length_replicate];omega
 have aD:=dT o
 refine ct o ?_
 refine wc_region ?_
 refine mw (vs h a.length i) ?_
 refine cl wN (ciSha g _ a (mR_22 (w.from0 B) L)) ?_
 rintro _ p ⟨T,⟨F,G,rfl,ap,aq,aE⟩⟩
 have au:=B.extk T
 have aF:=sha_le a
 refine aw (vs F (sha a).length G) ?_
 refine wl_nil<|wq_then<|wc_seq<|wc_block ?_
 have V:((sha a):List UInt8)=(sha a)++List.replicate 0 (0:UInt8):=by simp
 refine wc_loopP [(2,(vs none 0 0)),(3,(.slice F ((sha a)++List.replicate 0 (0:UInt8)).length G))] ⟨rfl,(cA (fun l:List UInt8=>Value.slice F l.length G) V),trivial⟩ (fun e' f=>∃ (j:Nat) (W:Env) (d:Option Addr) (e:Nat),e'=pt W [(2,(vs none 0 0)),(3,(.slice d ((sha a)++List.replicate j (0:UInt8)).length e))]∧Ch (fun k=>b.heap.size≤k) b f∧Ch (fun k=>g.heap.size≤k) p f∧(sha a).length+j≤64∧(World.ownsRow f g.heap.size 5 1 (.slice d ((sha a)++List.replicate j (0:UInt8)).length e) ((sha a)++List.replicate j (0:UInt8)).length (((sha a)++List.replicate j (0:UInt8)).map bV)∧((sha a)++List.replicate j (0:UInt8)).length≤1073741824)) (fun e' _=>64 - (lenOf (e' 3))) ?_ ?_
 ·exact fun u=>⟨0,u,F,G,rfl,au,(Ch.refl (fun k=>g.heap.size≤k) p),(by omega),(V ▸ ⟨ap,aq⟩)⟩
 ·rintro _ Q ⟨j,W,d,e,rfl,X,Y,aG,⟨s,av⟩⟩
  have hol:((sha a)++List.replicate j (0:UInt8)).length=(sha a).length+j:=by rw [List.length_append,List.length_replicate]
  refine wc_seq<|sr ?_
  refine mw (vs d ((sha a)++List.replicate j (0:UInt8)).length e) ?_
  refine ln wN slTy_22 (Rd.of_own s) ?_
  refine pu (vb (decide ((((sha a)++List.replicate j (0:UInt8)).length:Int) < 64))) wN ?_
  refine n2 ?_
  rcases bf (decide ((((sha a)++List.replicate j (0:UInt8)).length:Int) < 64)) with t|t
  ·have aH:=dF t
   refine cf t ?_
   refine wc_exit<|wq_then_exit<|wq_then_exit<|wq_blk_exit<|wq_then<|sr ?_
   refine mw (vs d ((sha a)++List.replicate j (0:UInt8)).length e) ?_
   refine aw (vs d ((sha a)++List.replicate j (0:UInt8)).length e) ?_
   refine n3 ?_
   refine rt (vs d ((sha a)++List.replicate j (0:UInt8)).length e) ?_
   refine ⟨X.keep0,?_⟩
   have ax:blockKey a=((sha a)++List.replicate j (0:UInt8)):=by first|exact blockKey_f (by omega)|exact blockKey_l (by omega) (by omega) (by omega) (by simp only [List.length_append,List.length_replicate] at *;omega)|exact blockKey_s (by omega) (by omega) (by simp only [List.length_append,List.length_replicate] at *;omega)
   rw [ax]
   exact ⟨_,_,rfl,(own_lo s x.size),av,⟨trivial,trivial⟩⟩
  have aI:=dT t
  refine ct t ?_
  refine wc_skip<|wq_then<|wc_block<|wc_region ?_
  refine mw (vs d ((sha a)++List.replicate j (0:UInt8)).length e) ?_
  refine ltB ([0]:List UInt8) wN slTy_22 ?_
  intro aJ aK ak H ay
  have az:=(own_kp s H)
  refine apB ((sha a)++List.replicate j (0:UInt8)) ([0]:List UInt8) wN slTy_22 az (Rd.of_own ay) (z3 T Y H) ?_
  intro I J aL Z a0 aM a1
  have a2:=(X.extk H).ext Z (fun k hk=>nT x.size (own_lt s k hk).1)
  refine aw (vs I (((sha a)++List.replicate j (0:UInt8))++([0]:List UInt8)).length J) ?_
  refine wl_nil<|wq_blk_normal ?_
  have aa:((((sha a)++List.replicate j (0:UInt8))++([0]:List UInt8)):List UInt8)=(sha a)++List.replicate (j+1) (0:UInt8):=by rw [List.replicate_succ',List.append_assoc]
  refine wq_loopP (w0:=Q) [(2,(vs none 0 0)),(3,(.slice I ((sha a)++List.replicate (j+1) (0:UInt8)).length J))] ?_ ?_ ?_
  · exact ⟨rfl,(cA (fun l:List UInt8=>Value.slice I l.length J) aa),trivial⟩
  · exact fun u=>⟨(j+1),u,I,J,rfl,a2,((((Ch.refl (fun k=>g.heap.size≤k) p).ext Y (fun k hk=>hk)).extk H).ext Z (fun k hk=>nT (Nat.le_refl g.heap.size) (own_lt s k hk).1)),(by omega),(aa ▸ ⟨a0,a1⟩)⟩
  · show 64 - ((sha a)++List.replicate (j+1) (0:UInt8)).length < 64 - ((sha a)++List.replicate j (0:UInt8)).length;simp only [List.length_append,List.length_replicate];omega

theorem cimasked (d:World) (B:Value) (a:List UInt8) (K:R_22 d B a) (b:UInt8) :Fn Try.prog 83 #[B,(v8 ((b).toNat:Int))] d (fun v g=>Keep d g∧O_22 g d.heap.size v (maskB a b)):=by
 obtain ⟨h,i,rfl,s,V⟩:=K
 refine fn_ofS (n:=23) [(vs h a.length i),(v8 ((b).toNat:Int))] Try.func83 rfl rfl ?_
 refine sr ?_
 refine aw (vs none 0 0) ?_
 refine nx ?_
 refine wl_lit0 wN rfl rfl slTy_22 (fun w=>by kernel_rfl) ?_
 intro t A C L
 have D:=(Ch.base d).extk C
 refine aw (vs (some t) 0 0) ?_
 refine n4 ?_
 refine mw (vs h a.length i) ?_
 refine ln wN slTy_22 (s.from0 D) ?_
 refine mw (vi 0) ?_
 refine wl_nil<|wq_then<|wc_block ?_
 have E:([]:List UInt8)=(a.take 0).map (fun y=>y^^^b):=by rfl
 have F:0=((a.take 0).map (fun y=>y^^^b)).length:=by rw [← E];try (first|rfl|simp only [List.length_set]|simp)
 refine wc_loopP [(1,(v8 ((b).toNat:Int))),(4,(vs none 0 0)),(5,(.slice (some t) ((a.take 0).map (fun y=>y^^^b)).length 0)),(9,(vs h a.length i)),(10,(vi (a.length:Int))),(11,(vi ((0:Nat):Int)))] ⟨rfl,rfl,rfl,rfl,rfl,(cA (Value.int .i64) (show (0:Int)=((0:Nat):Int) by omega)),trivial⟩ (fun e' g=>∃ (k:Nat) (G:Env) (e:Option Addr) (f:Nat),e'=pt G [(1,(v8 ((b).toNat:Int))),(4,(vs none 0 0)),(5,(.slice e ((a.take k).map (fun y=>y^^^b)).length f)),(9,(vs h a.length i)),(10,(vi (a.length:Int))),(11,(vi ((k:Nat):Int)))]∧Ch (fun k=>d.heap.size≤k) d g∧Ch (fun k=>d.heap.size≤k) A g∧k≤a.length∧(World.ownsRow g d.heap.size 5 1 (.slice e ((a.take k).map (fun y=>y^^^b)).length f) ((a.take k).map (fun y=>y^^^b)).length (((a.take k).map (fun y=>y^^^b)).map bV)∧((a.take k).map (fun y=>y^^^b)).length≤1073741824)) (fun e' _=>a.length - ((intOf (e' 11))).toNat) ?_ ?_
 ·exact fun u=>⟨0,u,(some t),0,rfl,D,(Ch.refl (fun k=>d.heap.size≤k) A),(by omega),⟨(by rw [← F,← E];exact L),(by rw [← F];first|exact (by simp)|(simp only [List.length_append,List.length_take,List.length_replicate];omega))⟩⟩
 ·rintro _ M ⟨k,G,e,f,rfl,m,H,W,⟨o,N⟩⟩
  have hml:((a.take k).map (fun y=>y^^^b)).length=min k a.length:=by rw [List.length_map,List.length_take]
  refine sr ?_
  refine pu (vb (decide (((k:Nat):Int) < (a.length:Int)))) wN ?_
  refine wl_nil<|wq_then<|wc_seq ?_
  rcases bf (decide (((k:Nat):Int) < (a.length:Int))) with j|j
  ·have X:=dF j
   refine cf j ?_
   refine wc_exit<|wq_then_exit<|wq_then_exit<|wq_blk_exit<|wq_then<|sr ?_
   refine mw (vs e ((a.take k).map (fun y=>y^^^b)).length f) ?_
   refine aw (vs e ((a.take k).map (fun y=>y^^^b)).length f) ?_
   refine n3 ?_
   refine rt (vs e ((a.take k).map (fun y=>y^^^b)).length f) ?_
   refine ⟨m.keep0,?_⟩
   have O:maskB a b=((a.take k).map (fun y=>y^^^b)):=by exact (map_end (by omega)).symm
   rw [O]
   exact ⟨_,_,rfl,o,N,⟨trivial,trivial⟩⟩
  have Y:=dT j
  refine ct j ?_
  refine wc_skip<|wq_then<|wc_seq<|wc_block<|sr ?_
  refine ix wN ((k:Nat):Int) slTy_22 (s.from0 m) ?_
  refine eb (x:=a) k wN isAgg_5 (s.from0 m) ?_
  refine aw (v8 ((a.getD k 0).toNat:Int)) ?_
  refine wl_nil<|wq_then<|wc_region ?_
  refine mw (vs e ((a.take k).map (fun y=>y^^^b)).length f) ?_
  refine mw (v8 ((a.getD k 0).toNat:Int)) ?_
  refine mw (v8 ((b).toNat:Int)) ?_
  refine wl_xor8 (a.getD k 0) (b) wN rfl rfl (by kernel_rfl) ?_
  refine ltB ([((a.getD k 0)^^^(b))]:List UInt8) wN slTy_22 ?_
  intro Z aa ab p P
  have Q:=(own_kp o p)
  refine apB ((a.take k).map (fun y=>y^^^b)) ([((a.getD k 0)^^^(b))]:List UInt8) wN slTy_22 Q (Rd.of_own P) (z3 C H p) ?_
  intro q r ac I R ad S
  have T:=(m.extk p).ext I (fun k hk=>nT (Nat.le_refl d.heap.size) (own_lt o k hk).1)
  refine aw (vs q (((a.take k).map (fun y=>y^^^b))++([((a.getD k 0)^^^(b))]:List UInt8)).length r) ?_
  refine wl_nil<|wq_blk_normal<|wq_then<|wc_region ?_
  refine ar (((k:Nat):Int)+1) wN ?_
  refine mw (vi (((k:Nat):Int)+1)) ?_
  refine wl_nil ?_
  have J:((((a.take k).map (fun y=>y^^^b))++([((a.getD k 0)^^^(b))]:List UInt8)):List UInt8)=(a.take (k+1)).map (fun y=>y^^^b):=by exact map_next (z:=0) (by omega)
  refine wq_loopP (w0:=M) [(1,(v8 ((b).toNat:Int))),(4,(vs none 0 0)),(5,(.slice q ((a.take (k+1)).map (fun y=>y^^^b)).length r)),(9,(vs h a.length i)),(10,(vi (a.length:Int))),(11,(vi (((k+1):Nat):Int)))] ?_ ?_ ?_
  · exact ⟨rfl,rfl,(cA (fun l:List UInt8=>Value.slice q l.length r) J),rfl,rfl,(cA (Value.int .i64) (show ((((k:Nat):Int)+1):Int)=(((k+1):Nat):Int) by omega)),trivial⟩
  · exact fun u=>⟨(k+1),u,q,r,rfl,T,((((Ch.refl (fun k=>d.heap.size≤k) A).ext H (fun k hk=>hk)).extk p).ext I (fun k hk=>nT (Nat.le_refl d.heap.size) (own_lt o k hk).1)),(by omega),(J ▸ ⟨R,S⟩)⟩
  · show a.length - ((((k+1):Nat):Int)).toNat < a.length - (((k:Nat):Int)).toNat;omega

theorem ciHmac (e:World) (u:Value) (a:List UInt8) (V:R_22 e u a) (x:Value) (b:List UInt8) (W:R_22 e x b) :Fn Try.prog 66 #[u,x] e (fun v y=>Keep e y∧O_22 y e.heap.size v (hmac a b)):=by
 obtain ⟨i,j,rfl,A,X⟩:=V
 obtain ⟨f,g,rfl,B,Y⟩:=W
 refine fn_ofS (n:=27) [(vs i a.length j),(vs f b.length g)] Try.func66 rfl rfl ?_
 refine sr ?_
 refine aw (vs none 0 0) ?_
 refine n4 ?_
 refine jT1 [(0,(vs i a.length j)),(1,(vs f b.length g)),(4,(vs none 0 0))] (hmac a b=[]) ?_ fun C=>?_
 ·intro Z D aa aA
  have ab:=(Ch.base e).extk aa
  refine sr ?_
  refine aw (vs none 0 0) ?_
  refine n1 ?_
  refine rt (vs none 0 0) ?_
  refine ⟨ab.keep0,?_⟩
  rw [Z]
  exact ⟨_,_,rfl,(by first|exact own_nil _ _ _ _|exact OLv.nil _ _ _ _),(by simp),⟨trivial,trivial⟩⟩
 refine mw (vs i a.length j) ?_
 refine ln wN slTy_22 A ?_
 refine pu (vb (decide (1048576 < (a.length:Int)))) wN ?_
 refine mw (vb (decide (1048576 < (a.length:Int)))) ?_
 rcases bt (decide (1048576 < (a.length:Int))) with d|d
 ·have aB:=dT d
  iterate 3 refine sk d ?_
  refine pk (vb true) wN d ?_
  refine n2 ?_
  refine ct (Eq.refl true) ?_
  have ac:hmac a b=[]:=by first|exact hmac_f (by omega)|exact hmac_g (by omega) (by omega)|exact hmac_i (by omega) (by omega)
  exact wj (C ac _ (Ch.refl _ _))
 have aC:=dF d
 refine mv (vs f b.length g) (wS d) ?_
 refine ln (wS d) slTy_22 B ?_
 refine pu (vb (decide (1048512 < (b.length:Int)))) (wS d) ?_
 refine pf (vb (decide (1048512 < (b.length:Int)))) wN d ?_
 refine n2 ?_
 rcases bt (decide (1048512 < (b.length:Int))) with h|h
 ·have aD:=dT h
  refine ct h ?_
  have ad:hmac a b=[]:=by first|exact hmac_f (by omega)|exact hmac_g (by omega) (by omega)|exact hmac_i (by omega) (by omega)
  exact wj (C ad _ (Ch.refl _ _))
 have aE:=dF h
 refine cf h ?_
 refine y1 ?_
 refine mw (vs i a.length j) ?_
 refine cl wN (ciBlockKey e _ a (mR_22 A X)) ?_
 rintro _ D ⟨E,⟨o,p,rfl,F,G,aF⟩⟩
 have aG:=blockKey_le a
 refine aw (vs o (blockKey a).length p) ?_
 refine nx ?_
 refine mw (vs o (blockKey a).length p) ?_
 refine cl wN (cimasked D _ (blockKey a) (mR_22 (Rd.of_own F) G) 92) ?_
 rintro _ ae ⟨q,⟨H,I,rfl,af,ah,aH⟩⟩
 have ai:=((Ch.base e).extk E).extk q
 have aI:=maskB_len (blockKey a) 92
 refine mw (vs o (blockKey a).length p) ?_
 have aj:=(own_kp F q)
 refine cl wN (cimasked ae _ (blockKey a) (mR_22 (Rd.of_own aj) G) 54) ?_
 rintro _ aJ ⟨r,⟨J,K,rfl,ak,am,aK⟩⟩
 have aL:=maskB_len (blockKey a) 54
 refine mw (vs f b.length g) ?_
 refine wl_lit [(vs J (maskB (blockKey a) 54).length K),(vs f b.length g)] wN rfl rfl slTy_56 (m:=2) rfl (by simp only [maxLen];omega) (fun w=>by kernel_rfl) ?_
 intro aM an k M
 obtain ⟨aN,aO,rfl⟩:=own_form M
 have N:=(ai.extk r).extk k
 have ao:=(own_kp ak k)
 refine cl wN (cijoined an _ [(maskB (blockKey a) 54),b] (mR_56 (RLv.mk (L:=LT_22) [((maskB (blockKey a) 54),[(J,K)]),(b,[(f,g)])] (Rd.of_own M) rfl ⟨⟨⟨(Rd.of_own ao),am⟩,trivial⟩,⟨⟨⟨(B.from0 N),Y⟩,trivial⟩,trivial⟩⟩ (by first|decide|exact Nat.le_of_ble_eq_true rfl)) (by first|decide|exact Nat.le_of_ble_eq_true rfl)) (by first|omega|(rw [joinB_l2];omega)|(rw [joinB_l2];simp only [List.length_cons,List.length_nil,maskB_len];omega)|(rw [joinB_l3];simp only [List.length_cons,List.length_nil,maskB_len];omega)|(simp only [joinB,List.flatten_cons,List.flatten_nil,List.length_append,List.length_cons,List.length_nil,maskB_len];omega))) ?_
 rintro _ ap ⟨s,⟨aP,aQ,rfl,aq,au,aR⟩⟩
 have aS:=(show (joinB [(maskB (blockKey a) 54),b]).length=(maskB (blockKey a) 54).length+b.length by simp only [joinB,List.flatten_cons,List.flatten_nil,List.length_append,List.length_cons,List.length_nil];omega)
 refine cl wN (ciSha ap _ (joinB [(maskB (blockKey a) 54),b]) (mR_22 (Rd.of_own aq) au)) ?_
 rintro _ aT ⟨t,⟨O,P,rfl,av,ax,aU⟩⟩
 have ay:=(N.extk s).extk t
 have aV:=sha_le (joinB [(maskB (blockKey a) 54),b])
 refine wl_lit [(vs H (maskB (blockKey a) 92).length I),(vs O (sha (joinB [(maskB (blockKey a) 54),b])).length P)] wN rfl rfl slTy_56 (m:=2) rfl (by simp only [maxLen];omega) (fun w=>by kernel_rfl) ?_
 intro aW az l Q
 obtain ⟨aX,aY,rfl⟩:=own_form Q
 have a0:=(own_kp av l)
 have a1:=(own_kp (own_kp (own_kp (own_kp (own_kp af r) k) s) t) l)
 refine cl wN (cijoined az _ [(maskB (blockKey a) 92),(sha (joinB [(maskB (blockKey a) 54),b]))] (mR_56 (RLv.mk (L:=LT_22) [((maskB (blockKey a) 92),[(H,I)]),((sha (joinB [(maskB (blockKey a) 54),b])),[(O,P)])] (Rd.of_own Q) rfl ⟨⟨⟨(Rd.of_own a1),ah⟩,trivial⟩,⟨⟨⟨(Rd.of_own a0),ax⟩,trivial⟩,trivial⟩⟩ (by first|decide|exact Nat.le_of_ble_eq_true rfl)) (by first|decide|exact Nat.le_of_ble_eq_true rfl)) (by first|omega|(rw [joinB_l2];omega)|(rw [joinB_l2];simp only [List.length_cons,List.length_nil,maskB_len];omega)|(rw [joinB_l3];simp only [List.length_cons,List.length_nil,maskB_len];omega)|(simp only [joinB,List.flatten_cons,List.flatten_nil,List.length_append,List.length_cons,List.length_nil,maskB_len];omega))) ?_
 rintro _ a2 ⟨R,⟨aZ,ba,rfl,a3,a4,bb⟩⟩
 have bc:=(show (joinB [(maskB (blockKey a) 92),(sha (joinB [(maskB (blockKey a) 54),b]))]).length=(maskB (blockKey a) 92).length+(sha (joinB [(maskB (blockKey a) 54),b])).length by simp only [joinB,List.flatten_cons,List.flatten_nil,List.length_append,List.length_cons,List.length_nil];omega)
 refine cl wN (ciSha a2 _ (joinB [(maskB (blockKey a) 92),(sha (joinB [(maskB (blockKey a) 54),b]))]) (mR_22 (Rd.of_own a3) a4)) ?_
 rintro _ bd ⟨a5,⟨S,T,rfl,a6,a7,be⟩⟩
 have a8:=((ay.extk l).extk R).extk a5
 have bg:=sha_le (joinB [(maskB (blockKey a) 92),(sha (joinB [(maskB (blockKey a) 54),b]))])
 refine aw (vs S (sha (joinB [(maskB (blockKey a) 92),(sha (joinB [(maskB (blockKey a) 54),b]))])).length T) ?_
 refine n3 ?_
 refine rt (vs S (sha (joinB [(maskB (blockKey a) 92),(sha (joinB [(maskB (blockKey a) 54),b]))])).length T) ?_
 refine ⟨a8.keep0,?_⟩
 have a9:hmac a b=(sha (joinB [(maskB (blockKey a) 92),(sha (joinB [(maskB (blockKey a) 54),b]))])):=by first|exact hmac_f (by omega)|exact hmac_g (by omega) (by omega)|exact hmac_i (by omega) (by omega)
 rw [a9]
 exact ⟨_,_,rfl,(own_lo a6 (z8 E q r k s t l R)),a7,⟨trivial,trivial⟩⟩
end Go.Proofs.Ytacoceibbheccaa.K
