import Derived.Test.YtacoceibbheccaaGreatCore
import Derived.Test.YtacoceibbheccaaGreatProg
import Derived.Test.YtacoceibbheccaaGreatHeld
import Derived.Test.YtacoceibbheccaaGreatFun
import Derived.Test.YtacoceibbheccaaGreatFunZ
import Derived.Test.YtacoceibbheccaaGreatSqz
import Derived.Test.YtacoceibbheccaaGreatHash
import Derived.Test.YtacoceibbheccaaGreatCur
import Derived.Test.YtacoceibbheccaaGreatDrawW
import Derived.Test.YtacoceibbheccaaGreatAead
import Derived.Test.YtacoceibbheccaaGreatWj6
namespace Go.Proofs.YtacoceibbheccaaGreat.K
open Go.RowKit
set_option linter.unusedVariables false
set_option linter.unusedSimpArgs false
set_option maxRecDepth 100000
set_option maxHeartbeats 4000000
def SL (w:World) (v:Value) (x:(List UInt8)):Prop:=∃ (a:Option Addr) (b:Nat),v=.slice a x.length b∧Rd w 1 (.slice a x.length b) x.length (x.map bV)∧x.length≤9223372036854775807
def ow (a:List UInt8) (b:Int):(Int):=bif (decide ((b - (a.length:Int)) < 0)) then ((-1)) else ((b - (a.length:Int)))
theorem Fd (e:World) (f:Value) (b:List UInt8) (j:SL e f b) (a:Int) (l:0≤a) (m:a≤1048576):Fn Tryz.prog 30 #[f,(vi a)] e (fun v g=>Keep e g∧O_3 g e.heap.size v (ow b a)):=by
 obtain ⟨h,i,rfl,k,o⟩:=j
 refine Cl (n:=12) [(vs h b.length i),(vi a)] Tryz.func30 rfl rfl ?_
 refine sr ?_
 refine aw (vi 0) ?_
 refine nx ?_
 refine mw (vi a) ?_
 refine mw (vs h b.length i) ?_
 refine ln wN tD k ?_
 refine ar (a - (b.length:Int)) wN ?_
 refine aw (vi (a - (b.length:Int))) ?_
 refine n4 ?_
 refine mw (vi (a - (b.length:Int))) ?_
 refine pu (vb (decide ((a - (b.length:Int)) < 0))) wN ?_
 refine n2 ?_
 rcases bt (decide ((a - (b.length:Int)) < 0)) with d|d
 ·have p:=dT d
  refine ct d ?_
  refine sr ?_
  refine aw (vi (-1)) ?_
  refine n1 ?_
  refine rt (vi (-1)) ?_
  refine ⟨Ch.refl _ _,?_⟩
  simp only [ow,d,cond_true,cond_false]
  exact rfl
 have q:=dF d
 refine cf d ?_
 refine y1 ?_
 refine mw (vi (a - (b.length:Int))) ?_
 refine aw (vi (a - (b.length:Int))) ?_
 refine n3 ?_
 refine rt (vi (a - (b.length:Int))) ?_
 refine ⟨Ch.refl _ _,?_⟩
 simp only [ow,d,cond_true,cond_false]
 exact rfl
theorem CO (x:List UInt8) (l:Int):ow x l = -1∨(ow x l=l - ((x.length:Int))∧(0≤ow x l∨l < 0∨False)):=by

  simp only [ow,cond_eq_ite,decide_eq_true_eq]
  (repeat' split) <;> omega

def SK (w:World) (v:Value) (x:(List Int)):Prop:=∃ (a:Option Addr) (b:Nat),v=.slice a x.length b∧Rd w 1 (.slice a x.length b) x.length (x.map iV)∧x.length≤9223372036854775807
def Ef (a:List Int) (b:Int):(Int):=bif (decide ((b - (a.length:Int)) < 0)) then ((-1)) else ((b - (a.length:Int)))
theorem Po (e:World) (f:Value) (b:List Int) (j:SK e f b) (a:Int) (l:0≤a) (m:a≤1048576):Fn Tryz.prog 106 #[f,(vi a)] e (fun v g=>Keep e g∧O_3 g e.heap.size v (Ef b a)):=by
 obtain ⟨h,i,rfl,k,o⟩:=j
 refine Cl (n:=12) [(vs h b.length i),(vi a)] Tryz.func106 rfl rfl ?_
 refine sr ?_
 refine aw (vi 0) ?_
 refine nx ?_
 refine mw (vi a) ?_
 refine mw (vs h b.length i) ?_
 refine ln wN Cd k ?_
 refine ar (a - (b.length:Int)) wN ?_
 refine aw (vi (a - (b.length:Int))) ?_
 refine n4 ?_
 refine mw (vi (a - (b.length:Int))) ?_
 refine pu (vb (decide ((a - (b.length:Int)) < 0))) wN ?_
 refine n2 ?_
 rcases bt (decide ((a - (b.length:Int)) < 0)) with d|d
 ·have p:=dT d
  refine ct d ?_
  refine sr ?_
  refine aw (vi (-1)) ?_
  refine n1 ?_
  refine rt (vi (-1)) ?_
  refine ⟨Ch.refl _ _,?_⟩
  simp only [Ef,d,cond_true,cond_false]
  exact rfl
 have q:=dF d
 refine cf d ?_
 refine y1 ?_
 refine mw (vi (a - (b.length:Int))) ?_
 refine aw (vi (a - (b.length:Int))) ?_
 refine n3 ?_
 refine rt (vi (a - (b.length:Int))) ?_
 refine ⟨Ch.refl _ _,?_⟩
 simp only [Ef,d,cond_true,cond_false]
 exact rfl
theorem Hc (x:List Int) (l:Int):Ef x l = -1∨(Ef x l=l - ((x.length:Int))∧(0≤Ef x l∨l < 0∨False)):=by

  simp only [Ef,cond_eq_ite,decide_eq_true_eq]
  (repeat' split) <;> omega

def SJ (w:World) (v:Value) (x:(PWin)):Prop:=∃ (a:Option Addr) (b:Nat),v=.agg #[.int .i64 x.Top,.slice a x.Bits.length b]∧Rd w 1 (.slice a x.Bits.length b) x.Bits.length (x.Bits.map iV)∧x.Bits.length≤9223372036854775807
theorem Sj {w:World} {x:List Int} {a:Option Addr} {b:Nat} (d:Rd w 1 (.slice a x.length b) x.length (x.map iV)) (e:x.length≤9223372036854775807):SK w (vs a x.length b) x:=⟨_,_,rfl,d,e⟩
def EO (a:PWin) (b:Int):(Int):=bif (decide ((Ef a.Bits b) < 0)) then ((-1)) else ((Ef a.Bits b))
theorem QN (e:World) (h:Value) (b:PWin) (l:SJ e h b) (a:Int) (u:0≤a) (w:a≤1048576):Fn Tryz.prog 68 #[h,(vi a)] e (fun v i=>Keep e i∧O_3 i e.heap.size v (EO b a)):=by
 obtain ⟨f,g,rfl,m,o⟩:=l
 refine Cl (n:=12) [(va (DW b f g)),(vi a)] Tryz.func68 rfl rfl ?_
 refine sr ?_
 refine bx (DW b f g) wN ?_
 intro p q x y r s
 have j:=(Ch.base e).extk r
 refine aw (vi 0) ?_
 refine nx ?_
 refine pu (vp p 1) wN ?_
 refine ld (vs f b.Bits.length g) wN Dk s ?_
 refine mw (vi a) ?_
 refine cl wN (Po q _ b.Bits (Sj (m.from0 j) o) a (by omega) (by omega)) ?_
 rintro _ A ⟨t,rfl⟩
 have k:=j.extk t
 have B:=Hc b.Bits a
 refine aw (vi (Ef b.Bits a)) ?_
 refine n4 ?_
 refine mw (vi (Ef b.Bits a)) ?_
 refine pu (vb (decide ((Ef b.Bits a) < 0))) wN ?_
 refine n2 ?_
 rcases bt (decide ((Ef b.Bits a) < 0)) with d|d
 ·have C:=dT d
  refine ct d ?_
  refine sr ?_
  refine aw (vi (-1)) ?_
  refine n1 ?_
  refine rt (vi (-1)) ?_
  refine ⟨k.keep0,?_⟩
  simp only [EO,d,cond_true,cond_false]
  exact rfl
 have D:=dF d
 refine cf d ?_
 refine y1 ?_
 refine mw (vi (Ef b.Bits a)) ?_
 refine aw (vi (Ef b.Bits a)) ?_
 refine n3 ?_
 refine rt (vi (Ef b.Bits a)) ?_
 refine ⟨k.keep0,?_⟩
 simp only [EO,d,cond_true,cond_false]
 exact rfl
theorem Ht (x:PWin) (l:Int):EO x l = -1∨(EO x l=l - ((x.Bits.length:Int))∧(0≤EO x l∨l < 0∨False)):=by
  have a:=Hc x.Bits l
  simp only [EO,cond_eq_ite,decide_eq_true_eq]
  (repeat' split) <;> omega

theorem LY:∀ w,(isAgg 25).run Tryz.prog w=.ok true w:=fun w=>by kernel_rfl
theorem Ku:∀ w,(sizeOf 25).run Tryz.prog w=.ok 2 w:=fun w=>by kernel_rfl
abbrev SQ (x:PWin) (a:Option Addr) (b:Nat):List Value:=[vi x.Top,vs a x.Bits.length b]
def SI (w:World) (v:Value) (x:(PEp)):Prop:=∃ (a:Option Addr) (b:Nat) (d:Option Addr) (e:Nat),v=.agg #[.int .i64 x.N,.slice a x.Key.length b,.int .i64 x.Seq,.int .i64 x.Win.Top,.slice d x.Win.Bits.length e]∧Rd w 1 (.slice a x.Key.length b) x.Key.length (x.Key.map bV)∧x.Key.length≤9223372036854775807∧Rd w 1 (.slice d x.Win.Bits.length e) x.Win.Bits.length (x.Win.Bits.map iV)∧x.Win.Bits.length≤9223372036854775807
theorem JS {w:World} {x:List UInt8} {a:Option Addr} {b:Nat} (d:Rd w 1 (.slice a x.length b) x.length (x.map bV)) (e:x.length≤9223372036854775807):SL w (vs a x.length b) x:=⟨_,_,rfl,d,e⟩
theorem Si {w:World} {x:PWin} {a:Option Addr} {b:Nat} (d:Rd w 1 (.slice a x.Bits.length b) x.Bits.length (x.Bits.map iV)) (e:x.Bits.length≤9223372036854775807):SJ w (va (SQ x a b)) x:=⟨_,_,rfl,d,e⟩
def Di (a:PEp) (b:Int):(Int):=bif (decide ((ow a.Key b) < 0)) then ((-1)) else (bif (decide ((EO a.Win (ow a.Key b)) < 0)) then ((-1)) else ((EO a.Win (ow a.Key b))))
theorem Qa (f:World) (l:Value) (a:PEp) (t:SI f l a) (b:Int) (F:0≤b) (G:b≤1048576):Fn Tryz.prog 31 #[l,(vi b)] f (fun v m=>Keep f m∧O_3 m f.heap.size v (Di a b)):=by
 obtain ⟨g,h,i,j,rfl,u,w,x,y⟩:=t
 refine Cl (n:=18) [(va (Dd a g h i j)),(vi b)] Tryz.func31 rfl rfl ?_
 refine sr ?_
 refine bx (Dd a g h i j) wN ?_
 intro o A H I B p
 have q:=(Ch.base f).extk B
 refine aw (vi 0) ?_
 refine nx ?_
 refine pu (vp o 1) wN ?_
 refine ld (vs g a.Key.length h) wN BT p ?_
 refine mw (vi b) ?_
 refine cl wN (Fd A _ a.Key (JS (u.from0 q) w) b (by omega) (by omega)) ?_
 rintro _ C ⟨r,rfl⟩
 have k:=q.extk r
 have J:=CO a.Key b
 refine aw (vi (ow a.Key b)) ?_
 refine n4 ?_
 refine mw (vi (ow a.Key b)) ?_
 refine pu (vb (decide ((ow a.Key b) < 0))) wN ?_
 refine n2 ?_
 rcases bt (decide ((ow a.Key b) < 0)) with d|d
 ·have K:=dT d
  refine ct d ?_
  refine sr ?_
  refine aw (vi (-1)) ?_
  refine n1 ?_
  refine rt (vi (-1)) ?_
  refine ⟨k.keep0,?_⟩
  simp only [Di,d,cond_true,cond_false]
  exact rfl
 have L:=dF d
 refine cf d ?_
 refine y1 ?_
 refine pu (vp o 3) wN ?_
 have D:=(p.kp r)
 refine lN (DW a.Win i j) wN LY Ku D ?_
 refine mw (vi (ow a.Key b)) ?_
 refine cl wN (QN C _ a.Win (Si (x.from0 k) y) (ow a.Key b) (by omega) (by omega)) ?_
 rintro _ M ⟨E,rfl⟩
 have s:=k.extk E
 have N:=Ht a.Win (ow a.Key b)
 refine aw (vi (EO a.Win (ow a.Key b))) ?_
 refine n4 ?_
 refine mw (vi (EO a.Win (ow a.Key b))) ?_
 refine pu (vb (decide ((EO a.Win (ow a.Key b)) < 0))) wN ?_
 refine n2 ?_
 rcases bt (decide ((EO a.Win (ow a.Key b)) < 0)) with e|e
 ·have O:=dT e
  refine ct e ?_
  refine sr ?_
  refine aw (vi (-1)) ?_
  refine n1 ?_
  refine rt (vi (-1)) ?_
  refine ⟨s.keep0,?_⟩
  simp only [Di,d,e,cond_true,cond_false]
  exact rfl
 have P:=dF e
 refine cf e ?_
 refine y1 ?_
 refine mw (vi (EO a.Win (ow a.Key b))) ?_
 refine aw (vi (EO a.Win (ow a.Key b))) ?_
 refine n3 ?_
 refine rt (vi (EO a.Win (ow a.Key b))) ?_
 refine ⟨s.keep0,?_⟩
 simp only [Di,d,e,cond_true,cond_false]
 exact rfl
theorem Gh (x:PEp) (l:Int):Di x l = -1∨(Di x l=l - ((x.Key.length:Int)+(x.Win.Bits.length:Int))∧(0≤Di x l∨l < 0∨False)):=by
  have a:=CO x.Key l
  have b:=Ht x.Win (ow x.Key l)
  simp only [Di,cond_eq_ite,decide_eq_true_eq]
  (repeat' split) <;> omega

theorem Ij:∀ w,(isAgg 27).run Tryz.prog w=.ok true w:=fun w=>by kernel_rfl
theorem Ho:∀ w,(sizeOf 27).run Tryz.prog w=.ok 5 w:=fun w=>by kernel_rfl
abbrev SP (x:PEp) (a:Option Addr) (b:Nat) (d:Option Addr) (e:Nat):List Value:=[vi x.N,vs a x.Key.length b,vi x.Seq,vi x.Win.Top,vs d x.Win.Bits.length e]
def Sy (w:World) (v:Value) (x:(PChan)):Prop:=∃ (a:Option Addr) (b:Nat) (d:Option Addr) (e:Nat) (f:Option Addr) (g:Nat) (h:Option Addr) (i:Nat) (j:Option Addr) (k:Nat) (l:Option Addr) (m:Nat),v=.agg #[.int .i64 x.Role,.slice a x.Sn.length b,.int .i64 x.Cur.N,.slice d x.Cur.Key.length e,.int .i64 x.Cur.Seq,.int .i64 x.Cur.Win.Top,.slice f x.Cur.Win.Bits.length g,.int .i64 x.Old.N,.slice h x.Old.Key.length i,.int .i64 x.Old.Seq,.int .i64 x.Old.Win.Top,.slice j x.Old.Win.Bits.length k,.bool x.HasOld,.int .i64 x.Until,.slice l x.Next.length m]∧Rd w 1 (.slice a x.Sn.length b) x.Sn.length (x.Sn.map bV)∧x.Sn.length≤9223372036854775807∧Rd w 1 (.slice d x.Cur.Key.length e) x.Cur.Key.length (x.Cur.Key.map bV)∧x.Cur.Key.length≤9223372036854775807∧Rd w 1 (.slice f x.Cur.Win.Bits.length g) x.Cur.Win.Bits.length (x.Cur.Win.Bits.map iV)∧x.Cur.Win.Bits.length≤9223372036854775807∧Rd w 1 (.slice h x.Old.Key.length i) x.Old.Key.length (x.Old.Key.map bV)∧x.Old.Key.length≤9223372036854775807∧Rd w 1 (.slice j x.Old.Win.Bits.length k) x.Old.Win.Bits.length (x.Old.Win.Bits.map iV)∧x.Old.Win.Bits.length≤9223372036854775807∧Rd w 1 (.slice l x.Next.length m) x.Next.length (x.Next.map bV)∧x.Next.length≤9223372036854775807
theorem Rv {w:World} {x:PEp} {a:Option Addr} {b:Nat} {d:Option Addr} {e:Nat} (f:Rd w 1 (.slice a x.Key.length b) x.Key.length (x.Key.map bV)) (g:x.Key.length≤9223372036854775807) (h:Rd w 1 (.slice d x.Win.Bits.length e) x.Win.Bits.length (x.Win.Bits.map iV)) (i:x.Win.Bits.length≤9223372036854775807):SI w (va (SP x a b d e)) x:=⟨_,_,_,_,rfl,f,g,h,i⟩
def l_szChan (a:PChan) (b:Int):(Int):=bif (decide ((ow a.Sn b) < 0)) then ((-1)) else (bif (decide ((Di a.Cur (ow a.Sn b)) < 0)) then ((-1)) else (bif (decide ((Di a.Old (Di a.Cur (ow a.Sn b))) < 0)) then ((-1)) else (bif (decide ((ow a.Next (Di a.Old (Di a.Cur (ow a.Sn b)))) < 0)) then ((-1)) else ((ow a.Next (Di a.Old (Di a.Cur (ow a.Sn b))))))))
theorem Pp (h:World) (B:Value) (a:PChan) (L:Sy h B a) (b:Int) (ah:0≤b) (ai:b≤1048576):Fn Tryz.prog 6 #[B,(vi b)] h (fun v C=>Keep h C∧O_3 C h.heap.size v (l_szChan a b)):=by
 obtain ⟨l,m,o,p,q,r,s,t,u,w,x,y,rfl,M,N,O,P,Q,R,S,T,V,W,X,Y⟩:=L
 refine Cl (n:=30) [(va (Dv a l m o p q r s t u w x y)),(vi b)] Tryz.func6 rfl rfl ?_
 refine sr ?_
 refine bx (Dv a l m o p q r s t u w x y) wN ?_
 intro i Z aj ak aa D
 have E:=(Ch.base h).extk aa
 refine aw (vi 0) ?_
 refine nx ?_
 refine pu (vp i 1) wN ?_
 refine ld (vs l a.Sn.length m) wN BT D ?_
 refine mw (vi b) ?_
 refine cl wN (Fd Z _ a.Sn (JS (M.from0 E) N) b (by omega) (by omega)) ?_
 rintro _ ab ⟨F,rfl⟩
 have j:=E.extk F
 have am:=CO a.Sn b
 refine aw (vi (ow a.Sn b)) ?_
 refine n4 ?_
 refine mw (vi (ow a.Sn b)) ?_
 refine pu (vb (decide ((ow a.Sn b) < 0))) wN ?_
 refine n2 ?_
 rcases bt (decide ((ow a.Sn b) < 0)) with d|d
 ·have an:=dT d
  refine ct d ?_
  refine sr ?_
  refine aw (vi (-1)) ?_
  refine n1 ?_
  refine rt (vi (-1)) ?_
  refine ⟨j.keep0,?_⟩
  simp only [l_szChan,d,cond_true,cond_false]
  exact rfl
 have ao:=dF d
 refine cf d ?_
 refine y1 ?_
 refine pu (vp i 2) wN ?_
 have G:=(D.kp F)
 refine lN (Dd a.Cur o p q r) wN Ij Ho G ?_
 refine mw (vi (ow a.Sn b)) ?_
 refine cl wN (Qa ab _ a.Cur (Rv (O.from0 j) P (Q.from0 j) R) (ow a.Sn b) (by omega) (by omega)) ?_
 rintro _ ac ⟨H,rfl⟩
 have k:=j.extk H
 have ap:=Gh a.Cur (ow a.Sn b)
 refine aw (vi (Di a.Cur (ow a.Sn b))) ?_
 refine n4 ?_
 refine mw (vi (Di a.Cur (ow a.Sn b))) ?_
 refine pu (vb (decide ((Di a.Cur (ow a.Sn b)) < 0))) wN ?_
 refine n2 ?_
 rcases bt (decide ((Di a.Cur (ow a.Sn b)) < 0)) with e|e
 ·have aq:=dT e
  refine ct e ?_
  refine sr ?_
  refine aw (vi (-1)) ?_
  refine n1 ?_
  refine rt (vi (-1)) ?_
  refine ⟨k.keep0,?_⟩
  simp only [l_szChan,d,e,cond_true,cond_false]
  exact rfl
 have au:=dF e
 refine cf e ?_
 refine y1 ?_
 refine pu (vp i 7) wN ?_
 have I:=(G.kp H)
 refine lN (Dd a.Old s t u w) wN Ij Ho I ?_
 refine mw (vi (Di a.Cur (ow a.Sn b))) ?_
 refine cl wN (Qa ac _ a.Old (Rv (S.from0 k) T (V.from0 k) W) (Di a.Cur (ow a.Sn b)) (by omega) (by omega)) ?_
 rintro _ ad ⟨J,rfl⟩
 have A:=k.extk J
 have av:=Gh a.Old (Di a.Cur (ow a.Sn b))
 refine aw (vi (Di a.Old (Di a.Cur (ow a.Sn b)))) ?_
 refine n4 ?_
 refine mw (vi (Di a.Old (Di a.Cur (ow a.Sn b)))) ?_
 refine pu (vb (decide ((Di a.Old (Di a.Cur (ow a.Sn b))) < 0))) wN ?_
 refine n2 ?_
 rcases bt (decide ((Di a.Old (Di a.Cur (ow a.Sn b))) < 0)) with f|f
 ·have ax:=dT f
  refine ct f ?_
  refine sr ?_
  refine aw (vi (-1)) ?_
  refine n1 ?_
  refine rt (vi (-1)) ?_
  refine ⟨A.keep0,?_⟩
  simp only [l_szChan,d,e,f,cond_true,cond_false]
  exact rfl
 have ay:=dF f
 refine cf f ?_
 refine y1 ?_
 refine pu (vp i 14) wN ?_
 have ae:=(I.kp J)
 refine ld (vs x a.Next.length y) wN BT ae ?_
 refine mw (vi (Di a.Old (Di a.Cur (ow a.Sn b)))) ?_
 refine cl wN (Fd ad _ a.Next (JS (X.from0 A) Y) (Di a.Old (Di a.Cur (ow a.Sn b))) (by omega) (by omega)) ?_
 rintro _ az ⟨af,rfl⟩
 have K:=A.extk af
 have a0:=CO a.Next (Di a.Old (Di a.Cur (ow a.Sn b)))
 refine aw (vi (ow a.Next (Di a.Old (Di a.Cur (ow a.Sn b))))) ?_
 refine n4 ?_
 refine mw (vi (ow a.Next (Di a.Old (Di a.Cur (ow a.Sn b))))) ?_
 refine pu (vb (decide ((ow a.Next (Di a.Old (Di a.Cur (ow a.Sn b)))) < 0))) wN ?_
 refine n2 ?_
 rcases bt (decide ((ow a.Next (Di a.Old (Di a.Cur (ow a.Sn b)))) < 0)) with g|g
 ·have a1:=dT g
  refine ct g ?_
  refine sr ?_
  refine aw (vi (-1)) ?_
  refine n1 ?_
  refine rt (vi (-1)) ?_
  refine ⟨K.keep0,?_⟩
  simp only [l_szChan,d,e,f,g,cond_true,cond_false]
  exact rfl
 have a2:=dF g
 refine cf g ?_
 refine y1 ?_
 refine mw (vi (ow a.Next (Di a.Old (Di a.Cur (ow a.Sn b))))) ?_
 refine aw (vi (ow a.Next (Di a.Old (Di a.Cur (ow a.Sn b))))) ?_
 refine n3 ?_
 refine rt (vi (ow a.Next (Di a.Old (Di a.Cur (ow a.Sn b))))) ?_
 refine ⟨K.keep0,?_⟩
 simp only [l_szChan,d,e,f,g,cond_true,cond_false]
 exact rfl
theorem IY (x:PChan) (l:Int):l_szChan x l = -1∨(l_szChan x l=l - ((x.Sn.length:Int)+(x.Cur.Key.length:Int)+(x.Cur.Win.Bits.length:Int)+(x.Old.Key.length:Int)+(x.Old.Win.Bits.length:Int)+(x.Next.length:Int))∧(0≤l_szChan x l∨l < 0∨False)):=by
  have a:=CO x.Sn l
  have b:=Gh x.Cur (ow x.Sn l)
  have d:=Gh x.Old (Di x.Cur (ow x.Sn l))
  have e:=CO x.Next (Di x.Old (Di x.Cur (ow x.Sn l)))
  simp only [l_szChan,cond_eq_ite,decide_eq_true_eq]
  (repeat' split) <;> omega

def Sx (w:World) (v:Value) (x:(PFrame)):Prop:=∃ (a:Option Addr) (b:Nat) (d:Option Addr) (e:Nat) (f:Option Addr) (g:Nat) (h:Option Addr) (i:Nat) (j:Option Addr) (k:Nat) (l:Option Addr) (m:Nat),v=.agg #[.int .i64 x.Kind,.int .i64 x.Id,.slice a x.Cn.length b,.slice d x.Sn.length e,.int .i64 x.Tick,.slice f x.Cookie.length g,.slice h x.Proof.length i,.int .i64 x.Epoch,.int .i64 x.Seq,.slice j x.Body.length k,.slice l x.Tag.length m]∧Rd w 1 (.slice a x.Cn.length b) x.Cn.length (x.Cn.map bV)∧x.Cn.length≤9223372036854775807∧Rd w 1 (.slice d x.Sn.length e) x.Sn.length (x.Sn.map bV)∧x.Sn.length≤9223372036854775807∧Rd w 1 (.slice f x.Cookie.length g) x.Cookie.length (x.Cookie.map bV)∧x.Cookie.length≤9223372036854775807∧Rd w 1 (.slice h x.Proof.length i) x.Proof.length (x.Proof.map bV)∧x.Proof.length≤9223372036854775807∧Rd w 1 (.slice j x.Body.length k) x.Body.length (x.Body.map bV)∧x.Body.length≤9223372036854775807∧Rd w 1 (.slice l x.Tag.length m) x.Tag.length (x.Tag.map bV)∧x.Tag.length≤9223372036854775807
def l_szFrame (a:PFrame) (b:Int):(Int):=bif (decide ((ow a.Cn b) < 0)) then ((-1)) else (bif (decide ((ow a.Sn (ow a.Cn b)) < 0)) then ((-1)) else (bif (decide ((ow a.Cookie (ow a.Sn (ow a.Cn b))) < 0)) then ((-1)) else (bif (decide ((ow a.Proof (ow a.Cookie (ow a.Sn (ow a.Cn b)))) < 0)) then ((-1)) else (bif (decide ((ow a.Body (ow a.Proof (ow a.Cookie (ow a.Sn (ow a.Cn b))))) < 0)) then ((-1)) else (bif (decide ((ow a.Tag (ow a.Body (ow a.Proof (ow a.Cookie (ow a.Sn (ow a.Cn b)))))) < 0)) then ((-1)) else ((ow a.Tag (ow a.Body (ow a.Proof (ow a.Cookie (ow a.Sn (ow a.Cn b))))))))))))
theorem NZ (k:World) (F:Value) (a:PFrame) (T:Sx k F a) (b:Int) (av:0≤b) (ax:b≤1048576):Fn Tryz.prog 7 #[F,(vi b)] k (fun v G=>Keep k G∧O_3 G k.heap.size v (l_szFrame a b)):=by
 obtain ⟨l,m,o,p,q,r,s,t,u,w,x,y,rfl,V,W,X,Y,Z,aa,ab,ac,ad,ae,af,ah⟩:=T
 refine Cl (n:=42) [(va (EB a l m o p q r s t u w x y)),(vi b)] Tryz.func7 rfl rfl ?_
 refine sr ?_
 refine bx (EB a l m o p q r s t u w x y) wN ?_
 intro j ai ay az aj H
 have I:=(Ch.base k).extk aj
 refine aw (vi 0) ?_
 refine nx ?_
 refine pu (vp j 2) wN ?_
 refine ld (vs l a.Cn.length m) wN BT H ?_
 refine mw (vi b) ?_
 refine cl wN (Fd ai _ a.Cn (JS (V.from0 I) W) b (by omega) (by omega)) ?_
 rintro _ ak ⟨J,rfl⟩
 have A:=I.extk J
 have a0:=CO a.Cn b
 refine aw (vi (ow a.Cn b)) ?_
 refine n4 ?_
 refine mw (vi (ow a.Cn b)) ?_
 refine pu (vb (decide ((ow a.Cn b) < 0))) wN ?_
 refine n2 ?_
 rcases bt (decide ((ow a.Cn b) < 0)) with d|d
 ·have a1:=dT d
  refine ct d ?_
  refine sr ?_
  refine aw (vi (-1)) ?_
  refine n1 ?_
  refine rt (vi (-1)) ?_
  refine ⟨A.keep0,?_⟩
  simp only [l_szFrame,d,cond_true,cond_false]
  exact rfl
 have a2:=dF d
 refine cf d ?_
 refine y1 ?_
 refine pu (vp j 3) wN ?_
 have K:=(H.kp J)
 refine ld (vs o a.Sn.length p) wN BT K ?_
 refine mw (vi (ow a.Cn b)) ?_
 refine cl wN (Fd ak _ a.Sn (JS (X.from0 A) Y) (ow a.Cn b) (by omega) (by omega)) ?_
 rintro _ am ⟨L,rfl⟩
 have B:=A.extk L
 have a3:=CO a.Sn (ow a.Cn b)
 refine aw (vi (ow a.Sn (ow a.Cn b))) ?_
 refine n4 ?_
 refine mw (vi (ow a.Sn (ow a.Cn b))) ?_
 refine pu (vb (decide ((ow a.Sn (ow a.Cn b)) < 0))) wN ?_
 refine n2 ?_
 rcases bt (decide ((ow a.Sn (ow a.Cn b)) < 0)) with e|e
 ·have a4:=dT e
  refine ct e ?_
  refine sr ?_
  refine aw (vi (-1)) ?_
  refine n1 ?_
  refine rt (vi (-1)) ?_
  refine ⟨B.keep0,?_⟩
  simp only [l_szFrame,d,e,cond_true,cond_false]
  exact rfl
 have a5:=dF e
 refine cf e ?_
 refine y1 ?_
 refine pu (vp j 5) wN ?_
 have M:=(K.kp L)
 refine ld (vs q a.Cookie.length r) wN BT M ?_
 refine mw (vi (ow a.Sn (ow a.Cn b))) ?_
 refine cl wN (Fd am _ a.Cookie (JS (Z.from0 B) aa) (ow a.Sn (ow a.Cn b)) (by omega) (by omega)) ?_
 rintro _ an ⟨N,rfl⟩
 have C:=B.extk N
 have a6:=CO a.Cookie (ow a.Sn (ow a.Cn b))
 refine aw (vi (ow a.Cookie (ow a.Sn (ow a.Cn b)))) ?_
 refine n4 ?_
 refine mw (vi (ow a.Cookie (ow a.Sn (ow a.Cn b)))) ?_
 refine pu (vb (decide ((ow a.Cookie (ow a.Sn (ow a.Cn b))) < 0))) wN ?_
 refine n2 ?_
 rcases bt (decide ((ow a.Cookie (ow a.Sn (ow a.Cn b))) < 0)) with f|f
 ·have a7:=dT f
  refine ct f ?_
  refine sr ?_
  refine aw (vi (-1)) ?_
  refine n1 ?_
  refine rt (vi (-1)) ?_
  refine ⟨C.keep0,?_⟩
  simp only [l_szFrame,d,e,f,cond_true,cond_false]
  exact rfl
 have a8:=dF f
 refine cf f ?_
 refine y1 ?_
 refine pu (vp j 6) wN ?_
 have O:=(M.kp N)
 refine ld (vs s a.Proof.length t) wN BT O ?_
 refine mw (vi (ow a.Cookie (ow a.Sn (ow a.Cn b)))) ?_
 refine cl wN (Fd an _ a.Proof (JS (ab.from0 C) ac) (ow a.Cookie (ow a.Sn (ow a.Cn b))) (by omega) (by omega)) ?_
 rintro _ ao ⟨P,rfl⟩
 have D:=C.extk P
 have a9:=CO a.Proof (ow a.Cookie (ow a.Sn (ow a.Cn b)))
 refine aw (vi (ow a.Proof (ow a.Cookie (ow a.Sn (ow a.Cn b))))) ?_
 refine n4 ?_
 refine mw (vi (ow a.Proof (ow a.Cookie (ow a.Sn (ow a.Cn b))))) ?_
 refine pu (vb (decide ((ow a.Proof (ow a.Cookie (ow a.Sn (ow a.Cn b)))) < 0))) wN ?_
 refine n2 ?_
 rcases bt (decide ((ow a.Proof (ow a.Cookie (ow a.Sn (ow a.Cn b)))) < 0)) with g|g
 ·have aA:=dT g
  refine ct g ?_
  refine sr ?_
  refine aw (vi (-1)) ?_
  refine n1 ?_
  refine rt (vi (-1)) ?_
  refine ⟨D.keep0,?_⟩
  simp only [l_szFrame,d,e,f,g,cond_true,cond_false]
  exact rfl
 have aB:=dF g
 refine cf g ?_
 refine y1 ?_
 refine pu (vp j 9) wN ?_
 have Q:=(O.kp P)
 refine ld (vs u a.Body.length w) wN BT Q ?_
 refine mw (vi (ow a.Proof (ow a.Cookie (ow a.Sn (ow a.Cn b))))) ?_
 refine cl wN (Fd ao _ a.Body (JS (ad.from0 D) ae) (ow a.Proof (ow a.Cookie (ow a.Sn (ow a.Cn b)))) (by omega) (by omega)) ?_
 rintro _ ap ⟨R,rfl⟩
 have E:=D.extk R
 have aC:=CO a.Body (ow a.Proof (ow a.Cookie (ow a.Sn (ow a.Cn b))))
 refine aw (vi (ow a.Body (ow a.Proof (ow a.Cookie (ow a.Sn (ow a.Cn b)))))) ?_
 refine n4 ?_
 refine mw (vi (ow a.Body (ow a.Proof (ow a.Cookie (ow a.Sn (ow a.Cn b)))))) ?_
 refine pu (vb (decide ((ow a.Body (ow a.Proof (ow a.Cookie (ow a.Sn (ow a.Cn b))))) < 0))) wN ?_
 refine n2 ?_
 rcases bt (decide ((ow a.Body (ow a.Proof (ow a.Cookie (ow a.Sn (ow a.Cn b))))) < 0)) with h|h
 ·have aD:=dT h
  refine ct h ?_
  refine sr ?_
  refine aw (vi (-1)) ?_
  refine n1 ?_
  refine rt (vi (-1)) ?_
  refine ⟨E.keep0,?_⟩
  simp only [l_szFrame,d,e,f,g,h,cond_true,cond_false]
  exact rfl
 have aE:=dF h
 refine cf h ?_
 refine y1 ?_
 refine pu (vp j 10) wN ?_
 have aq:=(Q.kp R)
 refine ld (vs x a.Tag.length y) wN BT aq ?_
 refine mw (vi (ow a.Body (ow a.Proof (ow a.Cookie (ow a.Sn (ow a.Cn b)))))) ?_
 refine cl wN (Fd ap _ a.Tag (JS (af.from0 E) ah) (ow a.Body (ow a.Proof (ow a.Cookie (ow a.Sn (ow a.Cn b))))) (by omega) (by omega)) ?_
 rintro _ aF ⟨au,rfl⟩
 have S:=E.extk au
 have aG:=CO a.Tag (ow a.Body (ow a.Proof (ow a.Cookie (ow a.Sn (ow a.Cn b)))))
 refine aw (vi (ow a.Tag (ow a.Body (ow a.Proof (ow a.Cookie (ow a.Sn (ow a.Cn b))))))) ?_
 refine n4 ?_
 refine mw (vi (ow a.Tag (ow a.Body (ow a.Proof (ow a.Cookie (ow a.Sn (ow a.Cn b))))))) ?_
 refine pu (vb (decide ((ow a.Tag (ow a.Body (ow a.Proof (ow a.Cookie (ow a.Sn (ow a.Cn b)))))) < 0))) wN ?_
 refine n2 ?_
 rcases bt (decide ((ow a.Tag (ow a.Body (ow a.Proof (ow a.Cookie (ow a.Sn (ow a.Cn b)))))) < 0)) with i|i
 ·have aH:=dT i
  refine ct i ?_
  refine sr ?_
  refine aw (vi (-1)) ?_
  refine n1 ?_
  refine rt (vi (-1)) ?_
  refine ⟨S.keep0,?_⟩
  simp only [l_szFrame,d,e,f,g,h,i,cond_true,cond_false]
  exact rfl
 have aI:=dF i
 refine cf i ?_
 refine y1 ?_
 refine mw (vi (ow a.Tag (ow a.Body (ow a.Proof (ow a.Cookie (ow a.Sn (ow a.Cn b))))))) ?_
 refine aw (vi (ow a.Tag (ow a.Body (ow a.Proof (ow a.Cookie (ow a.Sn (ow a.Cn b))))))) ?_
 refine n3 ?_
 refine rt (vi (ow a.Tag (ow a.Body (ow a.Proof (ow a.Cookie (ow a.Sn (ow a.Cn b))))))) ?_
 refine ⟨S.keep0,?_⟩
 simp only [l_szFrame,d,e,f,g,h,i,cond_true,cond_false]
 exact rfl
theorem IG (x:PFrame) (l:Int):l_szFrame x l = -1∨(l_szFrame x l=l - ((x.Cn.length:Int)+(x.Sn.length:Int)+(x.Cookie.length:Int)+(x.Proof.length:Int)+(x.Body.length:Int)+(x.Tag.length:Int))∧(0≤l_szFrame x l∨l < 0∨False)):=by
  have a:=CO x.Cn l
  have b:=CO x.Sn (ow x.Cn l)
  have d:=CO x.Cookie (ow x.Sn (ow x.Cn l))
  have e:=CO x.Proof (ow x.Cookie (ow x.Sn (ow x.Cn l)))
  have f:=CO x.Body (ow x.Proof (ow x.Cookie (ow x.Sn (ow x.Cn l))))
  have g:=CO x.Tag (ow x.Body (ow x.Proof (ow x.Cookie (ow x.Sn (ow x.Cn l)))))
  simp only [l_szFrame,cond_eq_ite,decide_eq_true_eq]
  (repeat' split) <;> omega

theorem LL:∀ w,(sizeOf 5).run Tryz.prog w=.ok 1 w:=fun w=>by kernel_rfl
theorem Fc (b:World) (q:Value) (a:List UInt8) (w:EP b q a) :Fn Tryz.prog 39 #[q] b (fun v h=>Keep b h∧GE h b.heap.size v (cpB a)):=by
 obtain ⟨f,g,rfl,l,I⟩:=w
 refine Cl (n:=22) [(vs f a.length g)] Tryz.func39 rfl rfl ?_
 refine sr ?_
 refine aw (vs none 0 0) ?_
 refine nx ?_
 refine mw (vs f a.length g) ?_
 refine ln wN tD l ?_
 refine OL (a.length) wN rfl rfl rfl tD (a.length:Int) rfl (by omega) (by first|(simp only [List.length_append,List.length_cons,List.length_nil,List.length_replicate,List.length_take,List.length_drop];omega)|omega) (by first|(simp only [List.length_append,List.length_cons,List.length_nil,List.length_replicate,List.length_take,List.length_drop];omega)|omega) ?_
 intro d e o y p
 have A:=(Ch.base b).extk y
 refine aw (vs d (List.replicate a.length (0:UInt8)).length e) ?_
 refine n4 ?_
 refine aw (vi 0) ?_
 refine BU<|re<|Ca ?_
 have B:((List.replicate a.length (0:UInt8)):List UInt8)=a.take 0++List.replicate (a.length - 0) (0:UInt8):=by first|exact Mi (by omega)|simp
 refine CJ [(0,(vs f a.length g)),(2,(vs none 0 0)),(3,(vs d (List.replicate a.length (0:UInt8)).length e)),(4,(vi ((0:Nat):Int)))] ⟨rfl,rfl,rfl,(cA (Value.int .i64) (show (0:Int)=((0:Nat):Int) by omega)),trivial⟩ (fun e' h=>∃ (k:Nat) (r:Env),e'=pt r [(0,(vs f a.length g)),(2,(vs none 0 0)),(3,(vs d (List.replicate a.length (0:UInt8)).length e)),(4,(vi ((k:Nat):Int)))]∧Ch (fun k=>b.heap.size≤k) b h∧Ch (fun k=>b.heap.size≤k) o h∧k≤a.length∧World.ownsRow h b.heap.size 5 1 (.slice d (List.replicate a.length (0:UInt8)).length e) (List.replicate a.length (0:UInt8)).length ((a.take k++List.replicate (a.length - k) (0:UInt8)).map bV)) (fun e' _=>a.length - ((intOf (e' 4))).toNat) ?_ ?_
 ·exact fun u=>⟨0,u,rfl,A,(Ch.refl (fun k=>b.heap.size≤k) o),(by omega),(by rw [← B];exact p)⟩
 ·rintro _ C ⟨k,r,rfl,i,D,J,m⟩
  refine Cc<|sr ?_
  refine mw (vi ((k:Nat):Int)) ?_
  refine mw (vs f a.length g) ?_
  refine ln wN tD (l.from0 i) ?_
  refine pu (vb (decide (((k:Nat):Int) < (a.length:Int)))) wN ?_
  refine n2 ?_
  rcases bf (decide (((k:Nat):Int) < (a.length:Int))) with j|j
  ·have K:=dF j
   refine cf j ?_
   refine CS<|wb<|wb<|Ce<|re<|sr ?_
   refine mw (vs d (List.replicate a.length (0:UInt8)).length e) ?_
   refine aw (vs d (List.replicate a.length (0:UInt8)).length e) ?_
   refine n3 ?_
   refine rt (vs d (List.replicate a.length (0:UInt8)).length e) ?_
   refine ⟨i.keep0,?_⟩
   have E:cpB a=(a.take k++List.replicate (a.length - k) (0:UInt8)):=by exact QL (by omega)
   rw [E]
   have s:(List.replicate a.length (0:UInt8)).length=((a.take k++List.replicate (a.length - k) (0:UInt8))).length:=by first|(simp only [List.length_append,List.length_take,List.length_replicate,List.length_set,List.length_map];done)|(simp only [List.length_append,List.length_take,List.length_replicate,List.length_set,List.length_map];omega)
   rw [s] at m ⊢
   exact ⟨_,_,rfl,m,(by rw [← s];rw [List.length_replicate];first|assumption|omega),⟨trivial,trivial⟩⟩
  have L:=dT j
  refine ct j ?_
  refine Ct<|re<|Cc<|Ca<|BZ ?_
  refine mw (vs d (List.replicate a.length (0:UInt8)).length e) ?_
  refine mw (vi ((k:Nat):Int)) ?_
  refine mw (vs f a.length g) ?_
  refine mw (vi ((k:Nat):Int)) ?_
  refine ix wN ((k:Nat):Int) tD (l.from0 i) ?_
  refine eb (x:=a) k wN EF (l.from0 i) ?_
  refine ix wN ((k:Nat):Int) tD (Rd.of_own m) ?_
  refine Kr (a.take k++List.replicate (a.length - k) (0:UInt8)) (k) ((a.getD k 0)) wN rfl rfl rfl (by simp) rfl LL m (by first|omega|(simp only [List.length_append,List.length_replicate,List.length_take,List.length_set,List.length_map];omega)) ?_
  intro M t F
  have G:=i.ext t (fun k hk=>nT (Nat.le_refl b.heap.size) (Cm p k hk).1)
  refine BU<|BS<|re<|BZ ?_
  refine mw (vi ((k:Nat):Int)) ?_
  refine ar (((k:Nat):Int)+1) wN ?_
  refine aw (vi (((k:Nat):Int)+1)) ?_
  refine BU ?_
  have H:(((a.take k++List.replicate (a.length - k) (0:UInt8)).set k (a.getD k 0)):List UInt8)=a.take (k+1)++List.replicate (a.length - (k+1)) (0:UInt8):=by first|exact Mi (by omega)|simp
  refine CI (w0:=C) [(0,(vs f a.length g)),(2,(vs none 0 0)),(3,(vs d (List.replicate a.length (0:UInt8)).length e)),(4,(vi (((k+1):Nat):Int)))] ?_ ?_ ?_
  · exact ⟨rfl,rfl,rfl,(cA (Value.int .i64) (show ((((k:Nat):Int)+1):Int)=(((k+1):Nat):Int) by omega)),trivial⟩
  · exact fun u=>⟨(k+1),u,rfl,G,(((Ch.refl (fun k=>b.heap.size≤k) o).ext D (fun k hk=>hk)).ext t (fun k hk=>nT (Nat.le_refl b.heap.size) (Cm p k hk).1)),(by omega),(by rw [← H];exact F)⟩
  · show a.length - ((((k+1):Nat):Int)).toNat < a.length - (((k:Nat):Int)).toNat;omega

theorem Pn (b:World) (q:Value) (a:List Int) (w:Mw b q a) :Fn Tryz.prog 114 #[q] b (fun v h=>Keep b h∧Qm h b.heap.size v (cpI a)):=by
 obtain ⟨f,g,rfl,l,I⟩:=w
 refine Cl (n:=22) [(vs f a.length g)] Tryz.func114 rfl rfl ?_
 refine sr ?_
 refine aw (vs none 0 0) ?_
 refine nx ?_
 refine mw (vs f a.length g) ?_
 refine ln wN Cd l ?_
 refine JH (a.length) wN rfl rfl rfl Cd (a.length:Int) rfl (by omega) (by first|(simp only [List.length_append,List.length_cons,List.length_nil,List.length_replicate,List.length_take,List.length_drop];omega)|omega) (by first|(simp only [List.length_append,List.length_cons,List.length_nil,List.length_replicate,List.length_take,List.length_drop];omega)|omega) ?_
 intro d e o y p
 have A:=(Ch.base b).extk y
 refine aw (vs d (List.replicate a.length (0:Int)).length e) ?_
 refine n4 ?_
 refine aw (vi 0) ?_
 refine BU<|re<|Ca ?_
 have B:((List.replicate a.length (0:Int)):List Int)=a.take 0++List.replicate (a.length - 0) (0:Int):=by first|exact Mh (by omega)|simp
 refine CJ [(0,(vs f a.length g)),(2,(vs none 0 0)),(3,(vs d (List.replicate a.length (0:Int)).length e)),(4,(vi ((0:Nat):Int)))] ⟨rfl,rfl,rfl,(cA (Value.int .i64) (show (0:Int)=((0:Nat):Int) by omega)),trivial⟩ (fun e' h=>∃ (k:Nat) (r:Env),e'=pt r [(0,(vs f a.length g)),(2,(vs none 0 0)),(3,(vs d (List.replicate a.length (0:Int)).length e)),(4,(vi ((k:Nat):Int)))]∧Ch (fun k=>b.heap.size≤k) b h∧Ch (fun k=>b.heap.size≤k) o h∧k≤a.length∧World.ownsRow h b.heap.size 3 1 (.slice d (List.replicate a.length (0:Int)).length e) (List.replicate a.length (0:Int)).length ((a.take k++List.replicate (a.length - k) (0:Int)).map iV)) (fun e' _=>a.length - ((intOf (e' 4))).toNat) ?_ ?_
 ·exact fun u=>⟨0,u,rfl,A,(Ch.refl (fun k=>b.heap.size≤k) o),(by omega),(by rw [← B];exact p)⟩
 ·rintro _ C ⟨k,r,rfl,i,D,J,m⟩
  refine Cc<|sr ?_
  refine mw (vi ((k:Nat):Int)) ?_
  refine mw (vs f a.length g) ?_
  refine ln wN Cd (l.from0 i) ?_
  refine pu (vb (decide (((k:Nat):Int) < (a.length:Int)))) wN ?_
  refine n2 ?_
  rcases bf (decide (((k:Nat):Int) < (a.length:Int))) with j|j
  ·have K:=dF j
   refine cf j ?_
   refine CS<|wb<|wb<|Ce<|re<|sr ?_
   refine mw (vs d (List.replicate a.length (0:Int)).length e) ?_
   refine aw (vs d (List.replicate a.length (0:Int)).length e) ?_
   refine n3 ?_
   refine rt (vs d (List.replicate a.length (0:Int)).length e) ?_
   refine ⟨i.keep0,?_⟩
   have E:cpI a=(a.take k++List.replicate (a.length - k) (0:Int)):=by exact QK (by omega)
   rw [E]
   have s:(List.replicate a.length (0:Int)).length=((a.take k++List.replicate (a.length - k) (0:Int))).length:=by first|(simp only [List.length_append,List.length_take,List.length_replicate,List.length_set,List.length_map];done)|(simp only [List.length_append,List.length_take,List.length_replicate,List.length_set,List.length_map];omega)
   rw [s] at m ⊢
   exact ⟨_,_,rfl,m,(by rw [← s];rw [List.length_replicate];first|assumption|omega),⟨trivial,trivial⟩⟩
  have L:=dT j
  refine ct j ?_
  refine Ct<|re<|Cc<|Ca<|BZ ?_
  refine mw (vs d (List.replicate a.length (0:Int)).length e) ?_
  refine mw (vi ((k:Nat):Int)) ?_
  refine mw (vs f a.length g) ?_
  refine mw (vi ((k:Nat):Int)) ?_
  refine ix wN ((k:Nat):Int) Cd (l.from0 i) ?_
  refine ei (x:=a) k wN tE (l.from0 i) ?_
  refine ix wN ((k:Nat):Int) Cd (Rd.of_own m) ?_
  refine EC (a.take k++List.replicate (a.length - k) (0:Int)) (k) ((a.getD k 0)) wN rfl rfl rfl (by simp) rfl CZ m (by first|omega|(simp only [List.length_append,List.length_replicate,List.length_take,List.length_set,List.length_map];omega)) ?_
  intro M t F
  have G:=i.ext t (fun k hk=>nT (Nat.le_refl b.heap.size) (Cm p k hk).1)
  refine BU<|BS<|re<|BZ ?_
  refine mw (vi ((k:Nat):Int)) ?_
  refine ar (((k:Nat):Int)+1) wN ?_
  refine aw (vi (((k:Nat):Int)+1)) ?_
  refine BU ?_
  have H:(((a.take k++List.replicate (a.length - k) (0:Int)).set k (a.getD k 0)):List Int)=a.take (k+1)++List.replicate (a.length - (k+1)) (0:Int):=by first|exact Mh (by omega)|simp
  refine CI (w0:=C) [(0,(vs f a.length g)),(2,(vs none 0 0)),(3,(vs d (List.replicate a.length (0:Int)).length e)),(4,(vi (((k+1):Nat):Int)))] ?_ ?_ ?_
  · exact ⟨rfl,rfl,rfl,(cA (Value.int .i64) (show ((((k:Nat):Int)+1):Int)=(((k+1):Nat):Int) by omega)),trivial⟩
  · exact fun u=>⟨(k+1),u,rfl,G,(((Ch.refl (fun k=>b.heap.size≤k) o).ext D (fun k hk=>hk)).ext t (fun k hk=>nT (Nat.le_refl b.heap.size) (Cm p k hk).1)),(by omega),(by rw [← H];exact F)⟩
  · show a.length - ((((k+1):Nat):Int)).toNat < a.length - (((k:Nat):Int)).toNat;omega

def SH (w:World) (v:Value) (x:(PWin)):Prop:=∃ (a:Option Addr) (b:Nat),v=.agg #[.int .i64 x.Top,.slice a x.Bits.length b]∧Rd w 1 (.slice a x.Bits.length b) x.Bits.length (x.Bits.map iV)∧x.Bits.length≤1073741824
def EE (a:PWin):(PWin):={Top:=a.Top,Bits:=(cpI a.Bits):PWin}
theorem QM (g:World) (s:Value) (a:PWin) (B:SH g s a) :Fn Tryz.prog 77 #[s] g (fun v t=>Keep g t∧RQ t g.heap.size v (EE a)):=by
 obtain ⟨l,m,rfl,C,D⟩:=B
 refine Cl (n:=12) [(va (DW a l m))] Tryz.func77 rfl rfl ?_
 refine sr ?_
 refine bx (DW a l m) wN ?_
 intro u Y Z E h F
 refine al [(vi 0),(vs none 0 0)] wN FA ?_
 intro aa ab G o e H
 have I:=((Ch.base g).extk h).extk e
 refine nx ?_
 refine al [(vi 0),(vs none 0 0)] wN FA ?_
 intro w ac i J j K
 refine nx ?_
 refine pu (vp u 0) wN ?_
 have x:=((F.kp e).kp j)
 refine ld (vi a.Top) wN tE x ?_
 refine pu (vp w 0) wN ?_
 refine st (vi a.Top) [(vi a.Top)] [(vi a.Top),(vs none 0 0)] wN CZ K ?_
 intro L f M ad
 have y:=(I.extk j).ext f (fun k hk=>by subst hk;exact nT (z2 h e) i)
 refine nx ?_
 refine pu (vp u 1) wN ?_
 have N:=(x.ch f (nN (nL E (nT e.size i))))
 refine ld (vs l a.Bits.length m) wN Dk N ?_
 refine cl wN (Pn L _ a.Bits (GY (C.from0 y) D)) ?_
 rintro _ ae ⟨p,⟨b,d,rfl,q,O,af⟩⟩
 refine pu (vp w 1) wN ?_
 have P:=(M.kp p)
 refine st (vs b (cpI a.Bits).length d) [(vs b (cpI a.Bits).length d)] [(vi a.Top),(vs b (cpI a.Bits).length d)] wN Kv P ?_
 intro ah r Q ai
 have R:=(y.extk p).ext r (fun k hk=>by subst hk;exact nT (z2 h e) i)
 refine nx ?_
 refine lN [(vi a.Top),(vs b (cpI a.Bits).length d)] wN CM Cj Q ?_
 have S:=((((H.kp j).ch f (nN (nL o (i)))).kp p).ch r (nN (nL o (i))))
 refine sv [(vi a.Top),(vs b (cpI a.Bits).length d)] wN Cj S ?_
 intro aj A T ak
 have V:=R.ext A (fun k hk=>by subst hk;exact nT h.size G)
 refine n3 ?_
 have W:=(tC (tC q r (ne1 q (nL J f.size))) A (ne1 q (nL o (z2 j f))))
 refine EY (.inl rfl) (va [(vi a.Top),(vs b (cpI a.Bits).length d)]) rfl (Fe [(vi a.Top),(vs b (cpI a.Bits).length d)] rfl T CM Cj) ?_
 refine ⟨V.keep0,?_⟩
 have X:EE a={Top:=a.Top,Bits:=(cpI a.Bits):PWin}:=by rfl
 rw [X]
 exact ⟨_,_,rfl,(tB W (z4 h e j f)),O,⟨trivial,trivial⟩⟩

def SG (w:World) (v:Value) (x:(PEp)):Prop:=∃ (a:Option Addr) (b:Nat) (d:Option Addr) (e:Nat),v=.agg #[.int .i64 x.N,.slice a x.Key.length b,.int .i64 x.Seq,.int .i64 x.Win.Top,.slice d x.Win.Bits.length e]∧Rd w 1 (.slice a x.Key.length b) x.Key.length (x.Key.map bV)∧x.Key.length≤1073741824∧Rd w 1 (.slice d x.Win.Bits.length e) x.Win.Bits.length (x.Win.Bits.map iV)∧x.Win.Bits.length≤1073741824
theorem Sf {w:World} {x:PWin} {a:Option Addr} {b:Nat} (d:Rd w 1 (.slice a x.Bits.length b) x.Bits.length (x.Bits.map iV)) (e:x.Bits.length≤1073741824):SH w (va (SQ x a b)) x:=⟨_,_,rfl,d,e⟩
def CA (a:PEp):(PEp):={N:=a.N,Key:=(cpB a.Key),Seq:=a.Seq,Win:=(EE a.Win):PEp}
theorem PZ (r:World) (I:Value) (a:PEp) (R:SG r I a) :Fn Tryz.prog 40 #[I] r (fun v J=>Keep r J∧Qk J r.heap.size v (CA a)):=by
 obtain ⟨A,B,C,D,rfl,S,T,V,W⟩:=R
 refine Cl (n:=19) [(va (Dd a A B C D))] Tryz.func40 rfl rfl ?_
 refine sr ?_
 refine bx (Dd a A B C D) wN ?_
 intro s a1 a2 E g X
 refine al HC wN Ev ?_
 intro a3 a4 Y F b Z
 have aa:=((Ch.base r).extk g).extk b
 refine nx ?_
 refine al HC wN Ev ?_
 intro t a5 h K l ab
 refine nx ?_
 refine pu (vp s 0) wN ?_
 have L:=((X.kp b).kp l)
 refine ld (vi a.N) wN tE L ?_
 refine pu (vp t 0) wN ?_
 refine st (vi a.N) [(vi a.N)] [(vi a.N),(vs none 0 0),(vi 0),(vi 0),(vs none 0 0)] wN CZ ab ?_
 intro ac d ad a6
 have M:=(aa.extk l).ext d (fun k hk=>by subst hk;exact nT (z2 g b) h)
 refine nx ?_
 refine pu (vp s 1) wN ?_
 have O:=(L.ch d (nN (nL E (nT b.size h))))
 refine ld (vs A a.Key.length B) wN BT O ?_
 refine cl wN (Fc ac _ a.Key (CC (S.from0 M) T)) ?_
 rintro _ a7 ⟨m,⟨e,f,rfl,q,ae,a8⟩⟩
 refine pu (vp t 1) wN ?_
 have af:=(ad.kp m)
 refine st (vs e (cpB a.Key).length f) [(vs e (cpB a.Key).length f)] [(vi a.N),(vs e (cpB a.Key).length f),(vi 0),(vi 0),(vs none 0 0)] wN Dj af ?_
 intro a9 i ah aA
 have ai:=(M.extk m).ext i (fun k hk=>by subst hk;exact nT (z2 g b) h)
 refine nx ?_
 refine pu (vp s 2) wN ?_
 have P:=((O.kp m).ch i (nN (nL E (nT b.size h))))
 refine ld (vi a.Seq) wN tE P ?_
 refine pu (vp t 2) wN ?_
 refine st (vi a.Seq) [(vi a.Seq)] [(vi a.N),(vs e (cpB a.Key).length f),(vi a.Seq),(vi 0),(vs none 0 0)] wN CZ ah ?_
 intro aj j ak aB
 have Q:=ai.ext j (fun k hk=>by subst hk;exact nT (z2 g b) h)
 refine nx ?_
 refine pu (vp s 3) wN ?_
 have am:=(P.ch j (nN (nL E (nT b.size h))))
 refine lN (DW a.Win C D) wN LY Ku am ?_
 refine cl wN (QM aj _ a.Win (Sf (V.from0 Q) W)) ?_
 rintro _ aC ⟨u,⟨o,p,rfl,w,an,aD⟩⟩
 refine pu (vp t 3) wN ?_
 have ao:=(ak.kp u)
 refine st (va (DW (EE a.Win) o p)) (DW (EE a.Win) o p) [(vi a.N),(vs e (cpB a.Key).length f),(vi a.Seq),(vi ((EE a.Win).Top)),(vs o ((EE a.Win).Bits).length p)] wN Cj ao ?_
 intro aE x ap aF
 have aq:=(Q.extk u).ext x (fun k hk=>by subst hk;exact nT (z2 g b) h)
 refine nx ?_
 refine lN [(vi a.N),(vs e (cpB a.Key).length f),(vi a.Seq),(vi ((EE a.Win).Top)),(vs o ((EE a.Win).Bits).length p)] wN Cs BW ap ?_
 have y:=nL F (h)
 have au:=(((((((Z.kp l).ch d (nN y)).kp m).ch i (nN y)).ch j (nN y)).kp u).ch x (nN y))
 refine sv [(vi a.N),(vs e (cpB a.Key).length f),(vi a.Seq),(vi ((EE a.Win).Top)),(vs o ((EE a.Win).Bits).length p)] wN BW au ?_
 intro aG G av aH
 have ax:=aq.ext G (fun k hk=>by subst hk;exact nT g.size Y)
 refine n3 ?_
 have H:=nL K d.size
 have ay:=(tC (tC (gc (tC (tC q i (ne1 q H)) j (ne1 q H)) u) x (ne1 q H)) G (ne1 q (nL F (z2 l d))))
 have az:=(tC (tC w x (ne1 w (nL K (z4 d m i j)))) G (ne1 w (nL F (z5 l d m i j))))
 refine EY (.inl rfl) (va [(vi a.N),(vs e (cpB a.Key).length f),(vi a.Seq),(vi ((EE a.Win).Top)),(vs o ((EE a.Win).Bits).length p)]) rfl (Fe [(vi a.N),(vs e (cpB a.Key).length f),(vi a.Seq),(vi ((EE a.Win).Top)),(vs o ((EE a.Win).Bits).length p)] rfl av Cs BW) ?_
 refine ⟨ax.keep0,?_⟩
 have a0:CA a={N:=a.N,Key:=(cpB a.Key),Seq:=a.Seq,Win:=(EE a.Win):PEp}:=by rfl
 rw [a0]
 exact ⟨_,_,_,_,rfl,(tB ay (z4 g b l d)),ae,(tB az (z7 g b l d m i j)),an,⟨⟨(Ap.lt q w (z2 i j)),trivial⟩,⟨trivial,trivial⟩⟩⟩

def SF (w:World) (v:Value) (x:(PChan)):Prop:=∃ (a:Option Addr) (b:Nat) (d:Option Addr) (e:Nat) (f:Option Addr) (g:Nat) (h:Option Addr) (i:Nat) (j:Option Addr) (k:Nat) (l:Option Addr) (m:Nat),v=.agg #[.int .i64 x.Role,.slice a x.Sn.length b,.int .i64 x.Cur.N,.slice d x.Cur.Key.length e,.int .i64 x.Cur.Seq,.int .i64 x.Cur.Win.Top,.slice f x.Cur.Win.Bits.length g,.int .i64 x.Old.N,.slice h x.Old.Key.length i,.int .i64 x.Old.Seq,.int .i64 x.Old.Win.Top,.slice j x.Old.Win.Bits.length k,.bool x.HasOld,.int .i64 x.Until,.slice l x.Next.length m]∧Rd w 1 (.slice a x.Sn.length b) x.Sn.length (x.Sn.map bV)∧x.Sn.length≤1073741824∧Rd w 1 (.slice d x.Cur.Key.length e) x.Cur.Key.length (x.Cur.Key.map bV)∧x.Cur.Key.length≤1073741824∧Rd w 1 (.slice f x.Cur.Win.Bits.length g) x.Cur.Win.Bits.length (x.Cur.Win.Bits.map iV)∧x.Cur.Win.Bits.length≤1073741824∧Rd w 1 (.slice h x.Old.Key.length i) x.Old.Key.length (x.Old.Key.map bV)∧x.Old.Key.length≤1073741824∧Rd w 1 (.slice j x.Old.Win.Bits.length k) x.Old.Win.Bits.length (x.Old.Win.Bits.map iV)∧x.Old.Win.Bits.length≤1073741824∧Rd w 1 (.slice l x.Next.length m) x.Next.length (x.Next.map bV)∧x.Next.length≤1073741824
theorem Ru {w:World} {x:PEp} {a:Option Addr} {b:Nat} {d:Option Addr} {e:Nat} (f:Rd w 1 (.slice a x.Key.length b) x.Key.length (x.Key.map bV)) (g:x.Key.length≤1073741824) (h:Rd w 1 (.slice d x.Win.Bits.length e) x.Win.Bits.length (x.Win.Bits.map iV)) (i:x.Win.Bits.length≤1073741824):SG w (va (SP x a b d e)) x:=⟨_,_,_,_,rfl,f,g,h,i⟩
def l_toChan (a:PChan):(PChan):={Role:=a.Role,Sn:=(cpB a.Sn),Cur:=(CA a.Cur),Old:=(CA a.Old),HasOld:=a.HasOld,Until:=a.Until,Next:=(cpB a.Next):PChan}
theorem Ip (X:World) (a0:Value) (a:PChan) (aE:SF X a0 a) :Fn Tryz.prog 9 #[a0] X (fun v a1=>Keep X a1∧Rc a1 X.heap.size v (l_toChan a)):=by
 obtain ⟨ae,af,ah,ai,aj,ak,am,an,ao,ap,aq,au,rfl,aF,aG,aH,aI,aJ,aK,aL,aM,aN,aO,aP,aQ⟩:=aE
 refine Cl (n:=30) [(va (Dv a ae af ah ai aj ak am an ao ap aq au))] Tryz.func9 rfl rfl ?_
 refine sr ?_
 refine bx (Dv a ae af ah ai aj ak am an ao ap aq au) wN ?_
 intro I bA bB O g aR
 refine al Mr wN Fz ?_
 intro bC bD aS Y b aT
 have aU:=((Ch.base X).extk g).extk b
 refine nx ?_
 refine al Mr wN Fz ?_
 intro J bE j ac q aV
 refine nx ?_
 refine pu (vp I 0) wN ?_
 have a2:=((aR.kp b).kp q)
 refine ld (vi a.Role) wN tE a2 ?_
 refine pu (vp J 0) wN ?_
 refine st (vi a.Role) [(vi a.Role)] [(vi a.Role),(vs none 0 0),(vi 0),(vs none 0 0),(vi 0),(vi 0),(vs none 0 0),(vi 0),(vs none 0 0),(vi 0),(vi 0),(vs none 0 0),(vb false),(vi 0),(vs none 0 0)] wN CZ aV ?_
 intro aW f aX bF
 have a3:=(aU.extk q).ext f (fun k hk=>by subst hk;exact nT (z2 g b) j)
 refine nx ?_
 refine pu (vp I 1) wN ?_
 have a4:=(a2.ch f (nN (nL O (nT b.size j))))
 refine ld (vs ae a.Sn.length af) wN BT a4 ?_
 refine cl wN (Fc aW _ a.Sn (CC (aF.from0 a3) aG)) ?_
 rintro _ bG ⟨h,⟨s,t,rfl,r,aY,bH⟩⟩
 refine pu (vp J 1) wN ?_
 have aZ:=(aX.kp h)
 refine st (vs s (cpB a.Sn).length t) [(vs s (cpB a.Sn).length t)] [(vi a.Role),(vs s (cpB a.Sn).length t),(vi 0),(vs none 0 0),(vi 0),(vi 0),(vs none 0 0),(vi 0),(vs none 0 0),(vi 0),(vi 0),(vs none 0 0),(vb false),(vi 0),(vs none 0 0)] wN Dj aZ ?_
 intro av e ba bI
 have ax:=(a3.extk h).ext e (fun k hk=>by subst hk;exact nT (z2 g b) j)
 refine nx ?_
 refine pu (vp I 2) wN ?_
 have a5:=((a4.kp h).ch e (nN (nL O (nT b.size j))))
 refine lN (Dd a.Cur ah ai aj ak) wN Ij Ho a5 ?_
 refine cl wN (PZ av _ a.Cur (Ru (aH.from0 ax) aI (aJ.from0 ax) aK)) ?_
 rintro _ a6 ⟨i,⟨x,y,A,B,rfl,P,bb,Q,bc,bd⟩⟩
 refine pu (vp J 2) wN ?_
 have be:=(ba.kp i)
 refine st (va (Dd (CA a.Cur) x y A B)) (Dd (CA a.Cur) x y A B) [(vi a.Role),(vs s (cpB a.Sn).length t),(vi ((CA a.Cur).N)),(vs x ((CA a.Cur).Key).length y),(vi ((CA a.Cur).Seq)),(vi (((CA a.Cur).Win).Top)),(vs A (((CA a.Cur).Win).Bits).length B),(vi 0),(vs none 0 0),(vi 0),(vi 0),(vs none 0 0),(vb false),(vi 0),(vs none 0 0)] wN BW be ?_
 intro ay d bg bJ
 have az:=(ax.extk i).ext d (fun k hk=>by subst hk;exact nT (z2 g b) j)
 refine nx ?_
 refine pu (vp I 7) wN ?_
 have a7:=((a5.kp i).ch d (nN (nL O (nT b.size j))))
 refine lN (Dd a.Old am an ao ap) wN Ij Ho a7 ?_
 refine cl wN (PZ ay _ a.Old (Ru (aL.from0 az) aM (aN.from0 az) aO)) ?_
 rintro _ a8 ⟨u,⟨C,D,F,G,rfl,R,bh,S,bi,bj⟩⟩
 refine pu (vp J 7) wN ?_
 have bk:=(bg.kp u)
 refine st (va (Dd (CA a.Old) C D F G)) (Dd (CA a.Old) C D F G) [(vi a.Role),(vs s (cpB a.Sn).length t),(vi ((CA a.Cur).N)),(vs x ((CA a.Cur).Key).length y),(vi ((CA a.Cur).Seq)),(vi (((CA a.Cur).Win).Top)),(vs A (((CA a.Cur).Win).Bits).length B),(vi ((CA a.Old).N)),(vs C ((CA a.Old).Key).length D),(vi ((CA a.Old).Seq)),(vi (((CA a.Old).Win).Top)),(vs F (((CA a.Old).Win).Bits).length G),(vb false),(vi 0),(vs none 0 0)] wN BW bk ?_
 intro bK l bl bL
 have bm:=(az.extk u).ext l (fun k hk=>by subst hk;exact nT (z2 g b) j)
 refine nx ?_
 refine pu (vp I 12) wN ?_
 have a9:=((a7.kp u).ch l (nN (nL O (nT b.size j))))
 refine ld (vb a.HasOld) wN FZ a9 ?_
 refine pu (vp J 12) wN ?_
 refine st (vb a.HasOld) [(vb a.HasOld)] [(vi a.Role),(vs s (cpB a.Sn).length t),(vi ((CA a.Cur).N)),(vs x ((CA a.Cur).Key).length y),(vi ((CA a.Cur).Seq)),(vi (((CA a.Cur).Win).Top)),(vs A (((CA a.Cur).Win).Bits).length B),(vi ((CA a.Old).N)),(vs C ((CA a.Old).Key).length D),(vi ((CA a.Old).Seq)),(vi (((CA a.Old).Win).Top)),(vs F (((CA a.Old).Win).Bits).length G),(vb a.HasOld),(vi 0),(vs none 0 0)] wN Ib bl ?_
 intro bM m bn bN
 have bo:=bm.ext m (fun k hk=>by subst hk;exact nT (z2 g b) j)
 refine nx ?_
 refine pu (vp I 13) wN ?_
 have aA:=(a9.ch m (nN (nL O (nT b.size j))))
 refine ld (vi a.Until) wN tE aA ?_
 refine pu (vp J 13) wN ?_
 refine st (vi a.Until) [(vi a.Until)] [(vi a.Role),(vs s (cpB a.Sn).length t),(vi ((CA a.Cur).N)),(vs x ((CA a.Cur).Key).length y),(vi ((CA a.Cur).Seq)),(vi (((CA a.Cur).Win).Top)),(vs A (((CA a.Cur).Win).Bits).length B),(vi ((CA a.Old).N)),(vs C ((CA a.Old).Key).length D),(vi ((CA a.Old).Seq)),(vi (((CA a.Old).Win).Top)),(vs F (((CA a.Old).Win).Bits).length G),(vb a.HasOld),(vi a.Until),(vs none 0 0)] wN CZ bn ?_
 intro bp p bq bO
 have aB:=bo.ext p (fun k hk=>by subst hk;exact nT (z2 g b) j)
 refine nx ?_
 refine pu (vp I 14) wN ?_
 have br:=(aA.ch p (nN (nL O (nT b.size j))))
 refine ld (vs aq a.Next.length au) wN BT br ?_
 refine cl wN (Fc bp _ a.Next (CC (aP.from0 aB) aQ)) ?_
 rintro _ bP ⟨T,⟨K,L,rfl,H,bu,bQ⟩⟩
 refine pu (vp J 14) wN ?_
 have bv:=(bq.kp T)
 refine st (vs K (cpB a.Next).length L) [(vs K (cpB a.Next).length L)] [(vi a.Role),(vs s (cpB a.Sn).length t),(vi ((CA a.Cur).N)),(vs x ((CA a.Cur).Key).length y),(vi ((CA a.Cur).Seq)),(vi (((CA a.Cur).Win).Top)),(vs A (((CA a.Cur).Win).Bits).length B),(vi ((CA a.Old).N)),(vs C ((CA a.Old).Key).length D),(vi ((CA a.Old).Seq)),(vi (((CA a.Old).Win).Top)),(vs F (((CA a.Old).Win).Bits).length G),(vb a.HasOld),(vi a.Until),(vs K (cpB a.Next).length L)] wN Dj bv ?_
 intro bR V bw bS
 have bz:=(aB.extk T).ext V (fun k hk=>by subst hk;exact nT (z2 g b) j)
 refine nx ?_
 refine lN [(vi a.Role),(vs s (cpB a.Sn).length t),(vi ((CA a.Cur).N)),(vs x ((CA a.Cur).Key).length y),(vi ((CA a.Cur).Seq)),(vi (((CA a.Cur).Win).Top)),(vs A (((CA a.Cur).Win).Bits).length B),(vi ((CA a.Old).N)),(vs C ((CA a.Old).Key).length D),(vi ((CA a.Old).Seq)),(vi (((CA a.Old).Win).Top)),(vs F (((CA a.Old).Win).Bits).length G),(vb a.HasOld),(vi a.Until),(vs K (cpB a.Next).length L)] wN Cv BY bw ?_
 have M:=nL Y (j)
 have b0:=((((((((((((aT.kp q).ch f (nN M)).kp h).ch e (nN M)).kp i).ch d (nN M)).kp u).ch l (nN M)).ch m (nN M)).ch p (nN M)).kp T).ch V (nN M))
 refine sv [(vi a.Role),(vs s (cpB a.Sn).length t),(vi ((CA a.Cur).N)),(vs x ((CA a.Cur).Key).length y),(vi ((CA a.Cur).Seq)),(vi (((CA a.Cur).Win).Top)),(vs A (((CA a.Cur).Win).Bits).length B),(vi ((CA a.Old).N)),(vs C ((CA a.Old).Key).length D),(vi ((CA a.Old).Seq)),(vi (((CA a.Old).Win).Top)),(vs F (((CA a.Old).Win).Bits).length G),(vb a.HasOld),(vi a.Until),(vs K (cpB a.Next).length L)] wN BY b0 ?_
 intro bT Z b1 bU
 have b2:=bz.ext Z (fun k hk=>by subst hk;exact nT g.size aS)
 refine n3 ?_
 have W:=nL ac f.size
 have b3:=(tC (tC (gc (tC (tC (tC (gc (tC (gc (tC r e (ne1 r W)) i) d (ne1 r W)) u) l (ne1 r W)) m (ne1 r W)) p (ne1 r W)) T) V (ne1 r W)) Z (ne1 r (nL Y (z2 q f))))
 have aa:=nL ac (z3 f h e)
 have aC:=fun (E sz n:Nat) (v:Value) (ab:List Value) (o:World.ownsRow a6 av.heap.size E sz v n ab) (w:World.ownsRow a6 av.heap.size E sz v n ab)=>(tC (tC (gc (tC (tC (tC (gc (tC o d (ne1 w aa)) u) l (ne1 w aa)) m (ne1 w aa)) p (ne1 w aa)) T) V (ne1 w aa)) Z (ne1 w (nL Y (z4 q f h e))))
 have b4:=(aC _ _ _ _ _ P P)
 have b5:=(aC _ _ _ _ _ Q Q)
 have ad:=nL ac (z5 f h e i d)
 have aD:=fun (E sz n:Nat) (v:Value) (ab:List Value) (o:World.ownsRow a8 ay.heap.size E sz v n ab) (w:World.ownsRow a8 ay.heap.size E sz v n ab)=>(tC (tC (gc (tC (tC (tC o l (ne1 w ad)) m (ne1 w ad)) p (ne1 w ad)) T) V (ne1 w ad)) Z (ne1 w (nL Y (z6 q f h e i d))))
 have b6:=(aD _ _ _ _ _ R R)
 have b7:=(aD _ _ _ _ _ S S)
 have b8:=(tC (tC H V (ne1 H (nL ac (z9 f h e i d u l m p)))) Z (ne1 H (nL Y (z10 q f h e i d u l m p))))
 refine EY (.inl rfl) (va [(vi a.Role),(vs s (cpB a.Sn).length t),(vi ((CA a.Cur).N)),(vs x ((CA a.Cur).Key).length y),(vi ((CA a.Cur).Seq)),(vi (((CA a.Cur).Win).Top)),(vs A (((CA a.Cur).Win).Bits).length B),(vi ((CA a.Old).N)),(vs C ((CA a.Old).Key).length D),(vi ((CA a.Old).Seq)),(vi (((CA a.Old).Win).Top)),(vs F (((CA a.Old).Win).Bits).length G),(vb a.HasOld),(vi a.Until),(vs K (cpB a.Next).length L)]) rfl (Fe [(vi a.Role),(vs s (cpB a.Sn).length t),(vi ((CA a.Cur).N)),(vs x ((CA a.Cur).Key).length y),(vi ((CA a.Cur).Seq)),(vi (((CA a.Cur).Win).Top)),(vs A (((CA a.Cur).Win).Bits).length B),(vi ((CA a.Old).N)),(vs C ((CA a.Old).Key).length D),(vi ((CA a.Old).Seq)),(vi (((CA a.Old).Win).Top)),(vs F (((CA a.Old).Win).Bits).length G),(vb a.HasOld),(vi a.Until),(vs K (cpB a.Next).length L)] rfl b1 Cv BY) ?_
 refine ⟨b2.keep0,?_⟩
 have b9:l_toChan a={Role:=a.Role,Sn:=(cpB a.Sn),Cur:=(CA a.Cur),Old:=(CA a.Old),HasOld:=a.HasOld,Until:=a.Until,Next:=(cpB a.Next):PChan}:=by rfl
 rw [b9]
 exact ⟨_,_,_,_,_,_,_,_,_,_,_,_,rfl,(tB b3 (z4 g b q f)),aY,(tB b4 (z6 g b q f h e)),bb,(tB b5 (z6 g b q f h e)),bc,(tB b6 (z8 g b q f h e i d)),bh,(tB b7 (z8 g b q f h e i d)),bi,(tB b8 (z12 g b q f h e i d u l m p)),bu,⟨⟨(Ap.lt r P e.size),⟨(Ap.lt r Q e.size),⟨(Ap.lt r R (z3 e i d)),⟨(Ap.lt r S (z3 e i d)),⟨(Ap.lt r H (z7 e i d u l m p)),trivial⟩⟩⟩⟩⟩,⟨⟨(bd.1.1),⟨(Ap.lt P R d.size),⟨(Ap.lt P S d.size),⟨(Ap.lt P H (z5 d u l m p)),trivial⟩⟩⟩⟩,⟨⟨(Ap.lt Q R d.size),⟨(Ap.lt Q S d.size),⟨(Ap.lt Q H (z5 d u l m p)),trivial⟩⟩⟩,⟨⟨(bj.1.1),⟨(Ap.lt R H (z3 l m p)),trivial⟩⟩,⟨⟨(Ap.lt S H (z3 l m p)),trivial⟩,⟨trivial,trivial⟩⟩⟩⟩⟩⟩⟩

def SE (w:World) (v:Value) (x:(PFrame)):Prop:=∃ (a:Option Addr) (b:Nat) (d:Option Addr) (e:Nat) (f:Option Addr) (g:Nat) (h:Option Addr) (i:Nat) (j:Option Addr) (k:Nat) (l:Option Addr) (m:Nat),v=.agg #[.int .i64 x.Kind,.int .i64 x.Id,.slice a x.Cn.length b,.slice d x.Sn.length e,.int .i64 x.Tick,.slice f x.Cookie.length g,.slice h x.Proof.length i,.int .i64 x.Epoch,.int .i64 x.Seq,.slice j x.Body.length k,.slice l x.Tag.length m]∧Rd w 1 (.slice a x.Cn.length b) x.Cn.length (x.Cn.map bV)∧x.Cn.length≤1073741824∧Rd w 1 (.slice d x.Sn.length e) x.Sn.length (x.Sn.map bV)∧x.Sn.length≤1073741824∧Rd w 1 (.slice f x.Cookie.length g) x.Cookie.length (x.Cookie.map bV)∧x.Cookie.length≤1073741824∧Rd w 1 (.slice h x.Proof.length i) x.Proof.length (x.Proof.map bV)∧x.Proof.length≤1073741824∧Rd w 1 (.slice j x.Body.length k) x.Body.length (x.Body.map bV)∧x.Body.length≤1073741824∧Rd w 1 (.slice l x.Tag.length m) x.Tag.length (x.Tag.map bV)∧x.Tag.length≤1073741824
def SM (w:World) (lo:Nat) (v:Value) (x:(PFrame)):Prop:=∃ (a:Option Addr) (b:Nat) (d:Option Addr) (e:Nat) (f:Option Addr) (g:Nat) (h:Option Addr) (i:Nat) (j:Option Addr) (k:Nat) (l:Option Addr) (m:Nat),v=.agg #[.int .i64 x.Kind,.int .i64 x.Id,.slice a x.Cn.length b,.slice d x.Sn.length e,.int .i64 x.Tick,.slice f x.Cookie.length g,.slice h x.Proof.length i,.int .i64 x.Epoch,.int .i64 x.Seq,.slice j x.Body.length k,.slice l x.Tag.length m]∧w.ownsRow lo 5 1 (.slice a x.Cn.length b) x.Cn.length (x.Cn.map bV)∧x.Cn.length≤1073741824∧w.ownsRow lo 5 1 (.slice d x.Sn.length e) x.Sn.length (x.Sn.map bV)∧x.Sn.length≤1073741824∧w.ownsRow lo 5 1 (.slice f x.Cookie.length g) x.Cookie.length (x.Cookie.map bV)∧x.Cookie.length≤1073741824∧w.ownsRow lo 5 1 (.slice h x.Proof.length i) x.Proof.length (x.Proof.map bV)∧x.Proof.length≤1073741824∧w.ownsRow lo 5 1 (.slice j x.Body.length k) x.Body.length (x.Body.map bV)∧x.Body.length≤1073741824∧w.ownsRow lo 5 1 (.slice l x.Tag.length m) x.Tag.length (x.Tag.map bV)∧x.Tag.length≤1073741824∧Aps [(a,b),(d,e),(f,g),(h,i),(j,k),(l,m)]
def l_toFrame (a:PFrame):(PFrame):={Kind:=a.Kind,Id:=a.Id,Cn:=(cpB a.Cn),Sn:=(cpB a.Sn),Tick:=a.Tick,Cookie:=(cpB a.Cookie),Proof:=(cpB a.Proof),Epoch:=a.Epoch,Seq:=a.Seq,Body:=(cpB a.Body),Tag:=(cpB a.Tag):PFrame}
theorem Hy (ae:World) (az:Value) (a:PFrame) (aH:SE ae az a) :Fn Tryz.prog 10 #[az] ae (fun v a0=>Keep ae a0∧SM a0 ae.heap.size v (l_toFrame a)):=by
 obtain ⟨ah,ai,aj,ak,am,an,ao,ap,aq,au,av,ax,rfl,aI,aJ,aK,aL,aM,aN,aO,aP,aQ,aR,aS,aT⟩:=aH
 refine Cl (n:=44) [(va (EB a ah ai aj ak am an ao ap aq au av ax))] Tryz.func10 rfl rfl ?_
 refine sr ?_
 refine bx (EB a ah ai aj ak am an ao ap aq au av ax) wN ?_
 intro J bN bO O t aU
 refine al Rb wN JF ?_
 intro bP bQ aV Y b aW
 have aX:=((Ch.base ae).extk t).extk b
 refine nx ?_
 refine al Rb wN JF ?_
 intro K bR h Z E aY
 refine nx ?_
 refine pu (vp J 0) wN ?_
 have a1:=((aU.kp b).kp E)
 refine ld (vi a.Kind) wN tE a1 ?_
 refine pu (vp K 0) wN ?_
 refine st (vi a.Kind) [(vi a.Kind)] [(vi a.Kind),(vi 0),(vs none 0 0),(vs none 0 0),(vi 0),(vs none 0 0),(vs none 0 0),(vi 0),(vi 0),(vs none 0 0),(vs none 0 0)] wN CZ aY ?_
 intro bS m aZ bT
 have ba:=(aX.extk E).ext m (fun k hk=>by subst hk;exact nT (z2 t b) h)
 refine nx ?_
 refine pu (vp J 1) wN ?_
 have a2:=(a1.ch m (nN (nL O (nT b.size h))))
 refine ld (vi a.Id) wN tE a2 ?_
 refine pu (vp K 1) wN ?_
 refine st (vi a.Id) [(vi a.Id)] [(vi a.Kind),(vi a.Id),(vs none 0 0),(vs none 0 0),(vi 0),(vs none 0 0),(vs none 0 0),(vi 0),(vi 0),(vs none 0 0),(vs none 0 0)] wN CZ aZ ?_
 intro bb o bc bU
 have a3:=ba.ext o (fun k hk=>by subst hk;exact nT (z2 t b) h)
 refine nx ?_
 refine pu (vp J 2) wN ?_
 have a4:=(a2.ch o (nN (nL O (nT b.size h))))
 refine ld (vs ah a.Cn.length ai) wN BT a4 ?_
 refine cl wN (Fc bb _ a.Cn (CC (aI.from0 a3) aJ)) ?_
 rintro _ bW ⟨s,⟨x,y,rfl,u,bd,bX⟩⟩
 refine pu (vp K 2) wN ?_
 have be:=(bc.kp s)
 refine st (vs x (cpB a.Cn).length y) [(vs x (cpB a.Cn).length y)] [(vi a.Kind),(vi a.Id),(vs x (cpB a.Cn).length y),(vs none 0 0),(vi 0),(vs none 0 0),(vs none 0 0),(vi 0),(vi 0),(vs none 0 0),(vs none 0 0)] wN Dj be ?_
 intro bg f bh bY
 have a5:=(a3.extk s).ext f (fun k hk=>by subst hk;exact nT (z2 t b) h)
 refine nx ?_
 refine pu (vp J 3) wN ?_
 have a6:=((a4.kp s).ch f (nN (nL O (nT b.size h))))
 refine ld (vs aj a.Sn.length ak) wN BT a6 ?_
 refine cl wN (Fc bg _ a.Sn (CC (aK.from0 a5) aL)) ?_
 rintro _ bZ ⟨p,⟨C,D,rfl,A,bi,ca⟩⟩
 refine pu (vp K 3) wN ?_
 have bj:=(bh.kp p)
 refine st (vs C (cpB a.Sn).length D) [(vs C (cpB a.Sn).length D)] [(vi a.Kind),(vi a.Id),(vs x (cpB a.Cn).length y),(vs C (cpB a.Sn).length D),(vi 0),(vs none 0 0),(vs none 0 0),(vi 0),(vi 0),(vs none 0 0),(vs none 0 0)] wN Dj bj ?_
 intro cb d bk cc
 have bl:=(a5.extk p).ext d (fun k hk=>by subst hk;exact nT (z2 t b) h)
 refine nx ?_
 refine pu (vp J 4) wN ?_
 have a7:=((a6.kp p).ch d (nN (nL O (nT b.size h))))
 refine ld (vi a.Tick) wN tE a7 ?_
 refine pu (vp K 4) wN ?_
 refine st (vi a.Tick) [(vi a.Tick)] [(vi a.Kind),(vi a.Id),(vs x (cpB a.Cn).length y),(vs C (cpB a.Sn).length D),(vi a.Tick),(vs none 0 0),(vs none 0 0),(vi 0),(vi 0),(vs none 0 0),(vs none 0 0)] wN CZ bk ?_
 intro bm e bn cd
 have a8:=bl.ext e (fun k hk=>by subst hk;exact nT (z2 t b) h)
 refine nx ?_
 refine pu (vp J 5) wN ?_
 have a9:=(a7.ch e (nN (nL O (nT b.size h))))
 refine ld (vs am a.Cookie.length an) wN BT a9 ?_
 refine cl wN (Fc bm _ a.Cookie (CC (aM.from0 a8) aN)) ?_
 rintro _ ce ⟨q,⟨G,H,rfl,F,bo,cg⟩⟩
 refine pu (vp K 5) wN ?_
 have bp:=(bn.kp q)
 refine st (vs G (cpB a.Cookie).length H) [(vs G (cpB a.Cookie).length H)] [(vi a.Kind),(vi a.Id),(vs x (cpB a.Cn).length y),(vs C (cpB a.Sn).length D),(vi a.Tick),(vs G (cpB a.Cookie).length H),(vs none 0 0),(vi 0),(vi 0),(vs none 0 0),(vs none 0 0)] wN Dj bp ?_
 intro bq g br ci
 have aA:=(a8.extk q).ext g (fun k hk=>by subst hk;exact nT (z2 t b) h)
 refine nx ?_
 refine pu (vp J 6) wN ?_
 have aB:=((a9.kp q).ch g (nN (nL O (nT b.size h))))
 refine ld (vs ao a.Proof.length ap) wN BT aB ?_
 refine cl wN (Fc bq _ a.Proof (CC (aO.from0 aA) aP)) ?_
 rintro _ cj ⟨r,⟨L,M,rfl,I,bu,ck⟩⟩
 refine pu (vp K 6) wN ?_
 have bv:=(br.kp r)
 refine st (vs L (cpB a.Proof).length M) [(vs L (cpB a.Proof).length M)] [(vi a.Kind),(vi a.Id),(vs x (cpB a.Cn).length y),(vs C (cpB a.Sn).length D),(vi a.Tick),(vs G (cpB a.Cookie).length H),(vs L (cpB a.Proof).length M),(vi 0),(vi 0),(vs none 0 0),(vs none 0 0)] wN Dj bv ?_
 intro cm i bw cn
 have bz:=(aA.extk r).ext i (fun k hk=>by subst hk;exact nT (z2 t b) h)
 refine nx ?_
 refine pu (vp J 7) wN ?_
 have aC:=((aB.kp r).ch i (nN (nL O (nT b.size h))))
 refine ld (vi a.Epoch) wN tE aC ?_
 refine pu (vp K 7) wN ?_
 refine st (vi a.Epoch) [(vi a.Epoch)] [(vi a.Kind),(vi a.Id),(vs x (cpB a.Cn).length y),(vs C (cpB a.Sn).length D),(vi a.Tick),(vs G (cpB a.Cookie).length H),(vs L (cpB a.Proof).length M),(vi a.Epoch),(vi 0),(vs none 0 0),(vs none 0 0)] wN CZ bw ?_
 intro co j b0 cp
 have b1:=bz.ext j (fun k hk=>by subst hk;exact nT (z2 t b) h)
 refine nx ?_
 refine pu (vp J 8) wN ?_
 have aD:=(aC.ch j (nN (nL O (nT b.size h))))
 refine ld (vi a.Seq) wN tE aD ?_
 refine pu (vp K 8) wN ?_
 refine st (vi a.Seq) [(vi a.Seq)] [(vi a.Kind),(vi a.Id),(vs x (cpB a.Cn).length y),(vs C (cpB a.Sn).length D),(vi a.Tick),(vs G (cpB a.Cookie).length H),(vs L (cpB a.Proof).length M),(vi a.Epoch),(vi a.Seq),(vs none 0 0),(vs none 0 0)] wN CZ b0 ?_
 intro b2 l b3 cq
 have aE:=b1.ext l (fun k hk=>by subst hk;exact nT (z2 t b) h)
 refine nx ?_
 refine pu (vp J 9) wN ?_
 have aF:=(aD.ch l (nN (nL O (nT b.size h))))
 refine ld (vs aq a.Body.length au) wN BT aF ?_
 refine cl wN (Fc b2 _ a.Body (CC (aQ.from0 aE) aR)) ?_
 rintro _ cr ⟨B,⟨R,S,rfl,P,b4,cs⟩⟩
 refine pu (vp K 9) wN ?_
 have b5:=(b3.kp B)
 refine st (vs R (cpB a.Body).length S) [(vs R (cpB a.Body).length S)] [(vi a.Kind),(vi a.Id),(vs x (cpB a.Cn).length y),(vs C (cpB a.Sn).length D),(vi a.Tick),(vs G (cpB a.Cookie).length H),(vs L (cpB a.Proof).length M),(vi a.Epoch),(vi a.Seq),(vs R (cpB a.Body).length S),(vs none 0 0)] wN Dj b5 ?_
 intro b6 w b7 cu
 have aG:=(aE.extk B).ext w (fun k hk=>by subst hk;exact nT (z2 t b) h)
 refine nx ?_
 refine pu (vp J 10) wN ?_
 have b8:=((aF.kp B).ch w (nN (nL O (nT b.size h))))
 refine ld (vs av a.Tag.length ax) wN BT b8 ?_
 refine cl wN (Fc b6 _ a.Tag (CC (aS.from0 aG) aT)) ?_
 rintro _ cv ⟨T,⟨aa,ab,rfl,V,b9,cw⟩⟩
 refine pu (vp K 10) wN ?_
 have bA:=(b7.kp T)
 refine st (vs aa (cpB a.Tag).length ab) [(vs aa (cpB a.Tag).length ab)] [(vi a.Kind),(vi a.Id),(vs x (cpB a.Cn).length y),(vs C (cpB a.Sn).length D),(vi a.Tick),(vs G (cpB a.Cookie).length H),(vs L (cpB a.Proof).length M),(vi a.Epoch),(vi a.Seq),(vs R (cpB a.Body).length S),(vs aa (cpB a.Tag).length ab)] wN Dj bA ?_
 intro cx W bB cy
 have bC:=(aG.extk T).ext W (fun k hk=>by subst hk;exact nT (z2 t b) h)
 refine nx ?_
 refine lN [(vi a.Kind),(vi a.Id),(vs x (cpB a.Cn).length y),(vs C (cpB a.Sn).length D),(vi a.Tick),(vs G (cpB a.Cookie).length H),(vs L (cpB a.Proof).length M),(vi a.Epoch),(vi a.Seq),(vs R (cpB a.Body).length S),(vs aa (cpB a.Tag).length ab)] wN Dn CV bB ?_
 have N:=nL Y (h)
 have bD:=((((((((((((((((((aW.kp E).ch m (nN N)).ch o (nN N)).kp s).ch f (nN N)).kp p).ch d (nN N)).ch e (nN N)).kp q).ch g (nN N)).kp r).ch i (nN N)).ch j (nN N)).ch l (nN N)).kp B).ch w (nN N)).kp T).ch W (nN N))
 refine sv [(vi a.Kind),(vi a.Id),(vs x (cpB a.Cn).length y),(vs C (cpB a.Sn).length D),(vi a.Tick),(vs G (cpB a.Cookie).length H),(vs L (cpB a.Proof).length M),(vi a.Epoch),(vi a.Seq),(vs R (cpB a.Body).length S),(vs aa (cpB a.Tag).length ab)] wN CV bD ?_
 intro cz ac bE c0
 have bF:=bC.ext ac (fun k hk=>by subst hk;exact nT t.size aV)
 refine n3 ?_
 have Q:=nL Z (z2 m o)
 have bG:=(tC (tC (gc (tC (gc (tC (tC (tC (gc (tC (gc (tC (tC (gc (tC u f (ne1 u Q)) p) d (ne1 u Q)) e (ne1 u Q)) q) g (ne1 u Q)) r) i (ne1 u Q)) j (ne1 u Q)) l (ne1 u Q)) B) w (ne1 u Q)) T) W (ne1 u Q)) ac (ne1 u (nL Y (z3 E m o))))
 have X:=nL Z (z4 m o s f)
 have bH:=(tC (tC (gc (tC (gc (tC (tC (tC (gc (tC (gc (tC (tC A d (ne1 A X)) e (ne1 A X)) q) g (ne1 A X)) r) i (ne1 A X)) j (ne1 A X)) l (ne1 A X)) B) w (ne1 A X)) T) W (ne1 A X)) ac (ne1 A (nL Y (z5 E m o s f))))
 have ad:=nL Z (z7 m o s f p d e)
 have bI:=(tC (tC (gc (tC (gc (tC (tC (tC (gc (tC F g (ne1 F ad)) r) i (ne1 F ad)) j (ne1 F ad)) l (ne1 F ad)) B) w (ne1 F ad)) T) W (ne1 F ad)) ac (ne1 F (nL Y (z8 E m o s f p d e))))
 have af:=nL Z (z9 m o s f p d e q g)
 have bJ:=(tC (tC (gc (tC (gc (tC (tC (tC I i (ne1 I af)) j (ne1 I af)) l (ne1 I af)) B) w (ne1 I af)) T) W (ne1 I af)) ac (ne1 I (nL Y (z10 E m o s f p d e q g))))
 have bK:=(tC (tC (gc (tC P w (ne1 P (nL Z (nT (z12 m o s f p d e q g r i j) l.size)))) T) W (ne1 P (nL Z (nT (z12 m o s f p d e q g r i j) l.size)))) ac (ne1 P (nL Y (t3 (z12 E m o s f p d e q g r i) j.size l.size))))
 have bL:=(tC (tC V W (ne1 V (nL Z (t4 (z12 m o s f p d e q g r i j) l.size B.size w.size)))) ac (ne1 V (nL Y (t5 (z12 E m o s f p d e q g r i) j.size l.size B.size w.size))))
 refine EY (.inl rfl) (va [(vi a.Kind),(vi a.Id),(vs x (cpB a.Cn).length y),(vs C (cpB a.Sn).length D),(vi a.Tick),(vs G (cpB a.Cookie).length H),(vs L (cpB a.Proof).length M),(vi a.Epoch),(vi a.Seq),(vs R (cpB a.Body).length S),(vs aa (cpB a.Tag).length ab)]) rfl (Fe [(vi a.Kind),(vi a.Id),(vs x (cpB a.Cn).length y),(vs C (cpB a.Sn).length D),(vi a.Tick),(vs G (cpB a.Cookie).length H),(vs L (cpB a.Proof).length M),(vi a.Epoch),(vi a.Seq),(vs R (cpB a.Body).length S),(vs aa (cpB a.Tag).length ab)] rfl bE Dn CV) ?_
 refine ⟨bF.keep0,?_⟩
 have bM:l_toFrame a={Kind:=a.Kind,Id:=a.Id,Cn:=(cpB a.Cn),Sn:=(cpB a.Sn),Tick:=a.Tick,Cookie:=(cpB a.Cookie),Proof:=(cpB a.Proof),Epoch:=a.Epoch,Seq:=a.Seq,Body:=(cpB a.Body),Tag:=(cpB a.Tag):PFrame}:=by rfl
 rw [bM]
 have ay:=z12 t b E m o s f p d e q g
 exact ⟨_,_,_,_,_,_,_,_,_,_,_,_,rfl,(tB bG (z5 t b E m o)),bd,(tB bH (z7 t b E m o s f)),bi,(tB bI (z10 t b E m o s f p d e)),bo,(tB bJ ay),bu,(tB bK (t5 ay r.size i.size j.size l.size)),b4,(tB bL (t7 ay r.size i.size j.size l.size B.size w.size)),b9,⟨⟨(Ap.lt u A f.size),⟨(Ap.lt u F (z4 f p d e)),⟨(Ap.lt u I (z6 f p d e q g)),⟨(Ap.lt u P (z10 f p d e q g r i j l)),⟨(Ap.lt u V (z12 f p d e q g r i j l B w)),trivial⟩⟩⟩⟩⟩,⟨⟨(Ap.lt A F (z2 d e)),⟨(Ap.lt A I (z4 d e q g)),⟨(Ap.lt A P (z8 d e q g r i j l)),⟨(Ap.lt A V (z10 d e q g r i j l B w)),trivial⟩⟩⟩⟩,⟨⟨(Ap.lt F I g.size),⟨(Ap.lt F P (z5 g r i j l)),⟨(Ap.lt F V (z7 g r i j l B w)),trivial⟩⟩⟩,⟨⟨(Ap.lt I P (z3 i j l)),⟨(Ap.lt I V (z5 i j l B w)),trivial⟩⟩,⟨⟨(Ap.lt P V w.size),trivial⟩,⟨trivial,trivial⟩⟩⟩⟩⟩⟩⟩

theorem Es (d:World) (t:Value) (a:List UInt8) (D:EP d t a) (w:Value) (b:List UInt8) (E:EP d w b) :Fn Tryz.prog 13 #[t,w] d (fun v l=>Keep d l∧O_4 l d.heap.size v (eqB a b)):=by
 obtain ⟨e,f,rfl,r,R⟩:=D
 obtain ⟨g,i,rfl,s,S⟩:=E
 refine Cl (n:=26) [(vs e a.length f),(vs g b.length i)] Tryz.func13 rfl rfl ?_
 refine sr ?_
 refine aw (vb false) ?_
 refine n4 ?_
 refine mw (vs e a.length f) ?_
 refine ln wN tD r ?_
 refine mw (vs g b.length i) ?_
 refine ln wN tD s ?_
 refine pu (vb (!(decide ((a.length:Int)=(b.length:Int))))) wN ?_
 refine n2 ?_
 rcases bf (decide ((a.length:Int)=(b.length:Int))) with o|o
 ·have T:=dF o
  refine ct (cA not o) ?_
  refine sr ?_
  refine aw (vb false) ?_
  refine n1 ?_
  refine rt (vb false) ?_
  refine ⟨Ch.refl _ _,?_⟩
  have F:eqB a b=false:=by first|exact Lu (by assumption)|exact NM (by assumption)|exact Lv (by assumption) (by omega) (by omega)
  rw [F]
  exact rfl
 have V:=dT o
 refine cf (cA not o) ?_
 refine y2 ?_
 refine aw (vi 0) ?_
 refine BU<|re<|Ca ?_
 refine CJ [(0,(vs e a.length f)),(1,(vs g b.length i)),(5,(vi ((0:Nat):Int)))] ⟨rfl,rfl,(cA (Value.int .i64) (show (0:Int)=((0:Nat):Int) by omega)),trivial⟩ (fun e' l=>∃ (k:Nat) (y:Env),e'=pt y [(0,(vs e a.length f)),(1,(vs g b.length i)),(5,(vi ((k:Nat):Int)))]∧Ch (fun k=>d.heap.size≤k) d l∧Ch (fun k=>d.heap.size≤k) d l∧k≤a.length∧a.take k=b.take k) (fun e' _=>a.length - ((intOf (e' 5))).toNat) ?_ ?_
 ·exact fun u=>⟨0,u,rfl,(Ch.base d),(Ch.refl (fun k=>d.heap.size≤k) d),(by omega),(by first|rfl|exact Mc (by assumption) (by omega) (by omega) (by assumption))⟩
 ·rintro _ A ⟨k,y,rfl,m,G,W,X⟩
  refine Cc<|sr ?_
  refine mw (vi ((k:Nat):Int)) ?_
  refine mw (vs e a.length f) ?_
  refine ln wN tD (r.from0 m) ?_
  refine pu (vb (decide (((k:Nat):Int) < (a.length:Int)))) wN ?_
  refine n2 ?_
  rcases bf (decide (((k:Nat):Int) < (a.length:Int))) with p|p
  ·have Y:=dF p
   refine cf p ?_
   refine CS<|wb<|wb<|Ce<|re<|sr ?_
   refine aw (vb true) ?_
   refine n3 ?_
   refine rt (vb true) ?_
   refine ⟨m.keep0,?_⟩
   have H:eqB a b=true:=by first|exact Lu (by assumption)|exact NM (by assumption)|exact Lv (by assumption) (by omega) (by omega)
   rw [H]
   exact rfl
  have Z:=dT p
  refine ct p ?_
  refine Ct<|re<|Cc<|Ca<|Cc ?_
  refine CU ([(17,[],[],(fun _ v _=>v=(vs e a.length f))),(18,[],[],(fun _ v _=>v=(vi ((k:Nat):Int)))),(19,[],[0,1],(fun _ v _=>v=(ve (vs e a.length f) ((((k:Nat):Int)).toNat*1)))),(20,[],[0,1,2],(fun _ v _=>v=(v8 ((a.getD k 0).toNat:Int)))),(21,[],[],(fun _ v _=>v=(vs g b.length i))),(22,[],[],(fun _ v _=>v=(vi ((k:Nat):Int)))),(23,[],[4,5],(fun _ v _=>v=(ve (vs g b.length i) ((((k:Nat):Int)).toNat*1)))),(24,[],[4,5,6],(fun _ v _=>v=(v8 ((b.getD k 0).toNat:Int))))]:GV) (fun _ l=>Keep A l) [] DN rfl (by kernel_rfl) (by kernel_rfl) ?_ (fun _ _ h=>h) (fun _ _ _ _ h _ k=>h.trans k) trivial ?_ ?_ ?_
  ·exact ⟨hV,hE,⟨hV,hE,⟨hV,hE,⟨hV,hE,⟨hV,hE,⟨hV,hE,⟨hV,hE,⟨hV,hE,trivial⟩⟩⟩⟩⟩⟩⟩⟩
  ·exact trivial
  ·refine ⟨?_,⟨?_,⟨?_,⟨?_,⟨?_,⟨?_,⟨?_,⟨?_,trivial⟩⟩⟩⟩⟩⟩⟩⟩
   ·intro _ j aa _
    rintro _ _ _ _ _ _ _ _
    refine sw ?_
    refine mw (vs e a.length f) ?_
    exact f1
   ·intro _ j ab _
    rintro _ _ _ _ _ _ _ _
    refine sw ?_
    refine mw (vi ((k:Nat):Int)) ?_
    exact f1
   ·intro _ j I _
    have J:=m.extk I
    rintro _ rfl _ rfl _ _ _ _ _ _
    refine sw ?_
    refine ix wN ((k:Nat):Int) tD (r.from0 J) ?_
    exact f1
   ·intro _ j K _
    have L:=m.extk K
    rintro _ rfl _ rfl _ rfl _ _ _ _ _
    refine sw ?_
    refine eb (x:=a) k wN EF (r.from0 L) ?_
    exact f1
   ·intro _ j ac _
    rintro _ _ _ _ _ _ _ _
    refine sw ?_
    refine mw (vs g b.length i) ?_
    exact f1
   ·intro _ j ad _
    rintro _ _ _ _ _ _ _ _
    refine sw ?_
    refine mw (vi ((k:Nat):Int)) ?_
    exact f1
   ·intro _ j M _
    have N:=m.extk M
    rintro _ _ _ _ _ rfl _ rfl _ _
    refine sw ?_
    refine ix wN ((k:Nat):Int) tD (s.from0 N) ?_
    exact f1
   ·intro _ j O _
    have P:=m.extk O
    rintro _ _ _ _ _ rfl _ rfl _ rfl _
    refine sw ?_
    refine eb (x:=b) k wN EF (s.from0 P) ?_
    exact f1
  ·intro _ j B
   have C:=m.extk B
   rintro _ rfl _ rfl _ rfl _ rfl _ rfl _ rfl _ rfl _ rfl
   refine sw ?_
   refine pu (vb (!(decide (((a.getD k 0).toNat:Int)=((b.getD k 0).toNat:Int))))) wN ?_
   refine n2 ?_
   rcases bf (decide (((a.getD k 0).toNat:Int)=((b.getD k 0).toNat:Int))) with q|q
   ·have ae:=dF q
    refine ct (cA not q) ?_
    refine sr ?_
    refine aw (vb false) ?_
    refine BU<|re<|DJ<|CB<|Cb<|Cb<|CB<|Cb ?_
    refine rt (vb false) ?_
    refine ⟨C.keep0,?_⟩
    have Q:eqB a b=false:=by first|exact Lu (by assumption)|exact NM (by assumption)|exact Lv (by assumption) (by omega) (by omega)
    rw [Q]
    exact rfl
   have af:=dT q
   refine cf (cA not q) ?_
   refine Ct<|BS<|re<|BZ ?_
   refine mw (vi ((k:Nat):Int)) ?_
   refine ar (((k:Nat):Int)+1) wN ?_
   refine aw (vi (((k:Nat):Int)+1)) ?_
   refine BU ?_
   refine CI (w0:=A) [(0,(vs e a.length f)),(1,(vs g b.length i)),(5,(vi (((k+1):Nat):Int)))] ?_ ?_ ?_
   · exact ⟨rfl,rfl,(cA (Value.int .i64) (show ((((k:Nat):Int)+1):Int)=(((k+1):Nat):Int) by omega)),trivial⟩
   · exact fun u=>⟨(k+1),u,rfl,C,(((Ch.refl (fun k=>d.heap.size≤k) d).ext G (fun k hk=>hk)).extk B),(by omega),(by first|rfl|exact Mc (by assumption) (by omega) (by omega) (by assumption))⟩
   · show a.length - ((((k+1):Nat):Int)).toNat < a.length - (((k:Nat):Int)).toNat;omega

theorem Pq (d:World) (t:Value) (a:List Int) (D:Mw d t a) (w:Value) (b:List Int) (E:Mw d w b) :Fn Tryz.prog 123 #[t,w] d (fun v l=>Keep d l∧O_4 l d.heap.size v (eqI a b)):=by
 obtain ⟨e,f,rfl,r,R⟩:=D
 obtain ⟨g,i,rfl,s,S⟩:=E
 refine Cl (n:=26) [(vs e a.length f),(vs g b.length i)] Tryz.func123 rfl rfl ?_
 refine sr ?_
 refine aw (vb false) ?_
 refine n4 ?_
 refine mw (vs e a.length f) ?_
 refine ln wN Cd r ?_
 refine mw (vs g b.length i) ?_
 refine ln wN Cd s ?_
 refine pu (vb (!(decide ((a.length:Int)=(b.length:Int))))) wN ?_
 refine n2 ?_
 rcases bf (decide ((a.length:Int)=(b.length:Int))) with o|o
 ·have T:=dF o
  refine ct (cA not o) ?_
  refine sr ?_
  refine aw (vb false) ?_
  refine n1 ?_
  refine rt (vb false) ?_
  refine ⟨Ch.refl _ _,?_⟩
  have F:eqI a b=false:=by first|exact HN (by assumption)|exact Jt (by assumption)|exact HO (by assumption) (by omega) (by omega)
  rw [F]
  exact rfl
 have V:=dT o
 refine cf (cA not o) ?_
 refine y2 ?_
 refine aw (vi 0) ?_
 refine BU<|re<|Ca ?_
 refine CJ [(0,(vs e a.length f)),(1,(vs g b.length i)),(5,(vi ((0:Nat):Int)))] ⟨rfl,rfl,(cA (Value.int .i64) (show (0:Int)=((0:Nat):Int) by omega)),trivial⟩ (fun e' l=>∃ (k:Nat) (y:Env),e'=pt y [(0,(vs e a.length f)),(1,(vs g b.length i)),(5,(vi ((k:Nat):Int)))]∧Ch (fun k=>d.heap.size≤k) d l∧Ch (fun k=>d.heap.size≤k) d l∧k≤a.length∧a.take k=b.take k) (fun e' _=>a.length - ((intOf (e' 5))).toNat) ?_ ?_
 ·exact fun u=>⟨0,u,rfl,(Ch.base d),(Ch.refl (fun k=>d.heap.size≤k) d),(by omega),(by first|rfl|exact Im (by assumption) (by omega) (by omega) (by assumption))⟩
 ·rintro _ A ⟨k,y,rfl,m,G,W,X⟩
  refine Cc<|sr ?_
  refine mw (vi ((k:Nat):Int)) ?_
  refine mw (vs e a.length f) ?_
  refine ln wN Cd (r.from0 m) ?_
  refine pu (vb (decide (((k:Nat):Int) < (a.length:Int)))) wN ?_
  refine n2 ?_
  rcases bf (decide (((k:Nat):Int) < (a.length:Int))) with p|p
  ·have Y:=dF p
   refine cf p ?_
   refine CS<|wb<|wb<|Ce<|re<|sr ?_
   refine aw (vb true) ?_
   refine n3 ?_
   refine rt (vb true) ?_
   refine ⟨m.keep0,?_⟩
   have H:eqI a b=true:=by first|exact HN (by assumption)|exact Jt (by assumption)|exact HO (by assumption) (by omega) (by omega)
   rw [H]
   exact rfl
  have Z:=dT p
  refine ct p ?_
  refine Ct<|re<|Cc<|Ca<|Cc ?_
  refine CU ([(17,[],[],(fun _ v _=>v=(vs e a.length f))),(18,[],[],(fun _ v _=>v=(vi ((k:Nat):Int)))),(19,[],[0,1],(fun _ v _=>v=(ve (vs e a.length f) ((((k:Nat):Int)).toNat*1)))),(20,[],[0,1,2],(fun _ v _=>v=(vi (a.getD k 0)))),(21,[],[],(fun _ v _=>v=(vs g b.length i))),(22,[],[],(fun _ v _=>v=(vi ((k:Nat):Int)))),(23,[],[4,5],(fun _ v _=>v=(ve (vs g b.length i) ((((k:Nat):Int)).toNat*1)))),(24,[],[4,5,6],(fun _ v _=>v=(vi (b.getD k 0))))]:GV) (fun _ l=>Keep A l) [] DN rfl (by kernel_rfl) (by kernel_rfl) ?_ (fun _ _ h=>h) (fun _ _ _ _ h _ k=>h.trans k) trivial ?_ ?_ ?_
  ·exact ⟨hV,hE,⟨hV,hE,⟨hV,hE,⟨hV,hE,⟨hV,hE,⟨hV,hE,⟨hV,hE,⟨hV,hE,trivial⟩⟩⟩⟩⟩⟩⟩⟩
  ·exact trivial
  ·refine ⟨?_,⟨?_,⟨?_,⟨?_,⟨?_,⟨?_,⟨?_,⟨?_,trivial⟩⟩⟩⟩⟩⟩⟩⟩
   ·intro _ j aa _
    rintro _ _ _ _ _ _ _ _
    refine sw ?_
    refine mw (vs e a.length f) ?_
    exact f1
   ·intro _ j ab _
    rintro _ _ _ _ _ _ _ _
    refine sw ?_
    refine mw (vi ((k:Nat):Int)) ?_
    exact f1
   ·intro _ j I _
    have J:=m.extk I
    rintro _ rfl _ rfl _ _ _ _ _ _
    refine sw ?_
    refine ix wN ((k:Nat):Int) Cd (r.from0 J) ?_
    exact f1
   ·intro _ j K _
    have L:=m.extk K
    rintro _ rfl _ rfl _ rfl _ _ _ _ _
    refine sw ?_
    refine ei (x:=a) k wN tE (r.from0 L) ?_
    exact f1
   ·intro _ j ac _
    rintro _ _ _ _ _ _ _ _
    refine sw ?_
    refine mw (vs g b.length i) ?_
    exact f1
   ·intro _ j ad _
    rintro _ _ _ _ _ _ _ _
    refine sw ?_
    refine mw (vi ((k:Nat):Int)) ?_
    exact f1
   ·intro _ j M _
    have N:=m.extk M
    rintro _ _ _ _ _ rfl _ rfl _ _
    refine sw ?_
    refine ix wN ((k:Nat):Int) Cd (s.from0 N) ?_
    exact f1
   ·intro _ j O _
    have P:=m.extk O
    rintro _ _ _ _ _ rfl _ rfl _ rfl _
    refine sw ?_
    refine ei (x:=b) k wN tE (s.from0 P) ?_
    exact f1
  ·intro _ j B
   have C:=m.extk B
   rintro _ rfl _ rfl _ rfl _ rfl _ rfl _ rfl _ rfl _ rfl
   refine sw ?_
   refine pu (vb (!(decide ((a.getD k 0)=(b.getD k 0))))) wN ?_
   refine n2 ?_
   rcases bf (decide ((a.getD k 0)=(b.getD k 0))) with q|q
   ·have ae:=dF q
    refine ct (cA not q) ?_
    refine sr ?_
    refine aw (vb false) ?_
    refine BU<|re<|DJ<|CB<|Cb<|Cb<|CB<|Cb ?_
    refine rt (vb false) ?_
    refine ⟨C.keep0,?_⟩
    have Q:eqI a b=false:=by first|exact HN (by assumption)|exact Jt (by assumption)|exact HO (by assumption) (by omega) (by omega)
    rw [Q]
    exact rfl
   have af:=dT q
   refine cf (cA not q) ?_
   refine Ct<|BS<|re<|BZ ?_
   refine mw (vi ((k:Nat):Int)) ?_
   refine ar (((k:Nat):Int)+1) wN ?_
   refine aw (vi (((k:Nat):Int)+1)) ?_
   refine BU ?_
   refine CI (w0:=A) [(0,(vs e a.length f)),(1,(vs g b.length i)),(5,(vi (((k+1):Nat):Int)))] ?_ ?_ ?_
   · exact ⟨rfl,rfl,(cA (Value.int .i64) (show ((((k:Nat):Int)+1):Int)=(((k+1):Nat):Int) by omega)),trivial⟩
   · exact fun u=>⟨(k+1),u,rfl,C,(((Ch.refl (fun k=>d.heap.size≤k) d).ext G (fun k hk=>hk)).extk B),(by omega),(by first|rfl|exact Im (by assumption) (by omega) (by omega) (by assumption))⟩
   · show a.length - ((((k+1):Nat):Int)).toNat < a.length - (((k:Nat):Int)).toNat;omega

def Gu (a:PWin) (b:PWin):(Bool):=bif (decide (a.Top=b.Top)) then (bif (eqI a.Bits b.Bits) then (true) else (false)) else (false)
theorem QP (e:World) (l:Value) (a:PWin) (w:LD e l a) (m:Value) (b:PWin) (x:LD e m b) :Fn Tryz.prog 86 #[l,m] e (fun v o=>Keep e o∧O_4 o e.heap.size v (Gu a b)):=by
 obtain ⟨h,i,rfl,y,A⟩:=w
 obtain ⟨j,k,rfl,B,C⟩:=x
 refine Cl (n:=16) [(va (DW a h i)),(va (DW b j k))] Tryz.func86 rfl rfl ?_
 refine sr ?_
 refine bx (DW a h i) wN ?_
 intro p H I J D E
 refine bx (DW b j k) wN ?_
 intro q F K L r s
 have g:=((Ch.base e).extk D).extk r
 refine aw (vb false) ?_
 refine n4 ?_
 refine pu (vp p 0) wN ?_
 have t:=(E.kp r)
 refine ld (vi a.Top) wN tE t ?_
 refine pu (vp q 0) wN ?_
 refine ld (vi b.Top) wN tE s ?_
 refine pu (vb (!(decide (a.Top=b.Top)))) wN ?_
 refine n2 ?_
 rcases bf (decide (a.Top=b.Top)) with d|d
 ·have M:=dF d
  refine ct (cA not d) ?_
  refine sr ?_
  refine aw (vb false) ?_
  refine n1 ?_
  refine rt (vb false) ?_
  refine ⟨g.keep0,?_⟩
  simp only [Gu,d,cond_true,cond_false]
  exact rfl
 have N:=dT d
 refine cf (cA not d) ?_
 refine y2 ?_
 refine pu (vp p 1) wN ?_
 refine ld (vs h a.Bits.length i) wN Dk t ?_
 refine pu (vp q 1) wN ?_
 refine ld (vs j b.Bits.length k) wN Dk s ?_
 refine cl wN (Pq F _ a.Bits (GY (y.from0 g) A) _ b.Bits (GY (B.from0 g) C)) ?_
 rintro _ O ⟨G,rfl⟩
 have u:=g.extk G
 refine pu (vb (!(eqI a.Bits b.Bits))) wN ?_
 refine n2 ?_
 rcases bf (eqI a.Bits b.Bits) with f|f
 ·refine ct (cA not f) ?_
  refine sr ?_
  refine aw (vb false) ?_
  refine n1 ?_
  refine rt (vb false) ?_
  refine ⟨u.keep0,?_⟩
  simp only [Gu,d,f,cond_true,cond_false]
  exact rfl
 refine cf (cA not f) ?_
 refine y1 ?_
 refine aw (vb true) ?_
 refine n3 ?_
 refine rt (vb true) ?_
 refine ⟨u.keep0,?_⟩
 simp only [Gu,d,f,cond_true,cond_false]
 exact rfl

def Gi (a:PEp) (b:PEp):(Bool):=bif (decide (a.N=b.N)) then (bif (eqB a.Key b.Key) then (bif (decide (a.Seq=b.Seq)) then (bif (Gu a.Win b.Win) then (true) else (false)) else (false)) else (false)) else (false)
theorem Qc (g:World) (A:Value) (a:PEp) (H:Lf g A a) (B:Value) (b:PEp) (I:Lf g B b) :Fn Tryz.prog 48 #[A,B] g (fun v C=>Keep g C∧O_4 C g.heap.size v (Gi a b)):=by
 obtain ⟨m,o,p,q,rfl,J,K,L,M⟩:=H
 obtain ⟨r,s,t,u,rfl,O,P,Q,R⟩:=I
 refine Cl (n:=27) [(va (Dd a m o p q)),(va (Dd b r s t u))] Tryz.func48 rfl rfl ?_
 refine sr ?_
 refine bx (Dd a m o p q) wN ?_
 intro j Y Z aa S T
 refine bx (Dd b r s t u) wN ?_
 intro k V ab ac D w
 have l:=((Ch.base g).extk S).extk D
 refine aw (vb false) ?_
 refine n4 ?_
 refine pu (vp j 0) wN ?_
 have x:=(T.kp D)
 refine ld (vi a.N) wN tE x ?_
 refine pu (vp k 0) wN ?_
 refine ld (vi b.N) wN tE w ?_
 refine pu (vb (!(decide (a.N=b.N)))) wN ?_
 refine n2 ?_
 rcases bf (decide (a.N=b.N)) with d|d
 ·have ad:=dF d
  refine ct (cA not d) ?_
  refine sr ?_
  refine aw (vb false) ?_
  refine n1 ?_
  refine rt (vb false) ?_
  refine ⟨l.keep0,?_⟩
  simp only [Gi,d,cond_true,cond_false]
  exact rfl
 have ae:=dT d
 refine cf (cA not d) ?_
 refine y2 ?_
 refine pu (vp j 1) wN ?_
 refine ld (vs m a.Key.length o) wN BT x ?_
 refine pu (vp k 1) wN ?_
 refine ld (vs r b.Key.length s) wN BT w ?_
 refine cl wN (Es V _ a.Key (CC (J.from0 l) K) _ b.Key (CC (O.from0 l) P)) ?_
 rintro _ W ⟨y,rfl⟩
 have h:=l.extk y
 refine pu (vb (!(eqB a.Key b.Key))) wN ?_
 refine n2 ?_
 rcases bf (eqB a.Key b.Key) with f|f
 ·refine ct (cA not f) ?_
  refine sr ?_
  refine aw (vb false) ?_
  refine n1 ?_
  refine rt (vb false) ?_
  refine ⟨h.keep0,?_⟩
  simp only [Gi,d,f,cond_true,cond_false]
  exact rfl
 refine cf (cA not f) ?_
 refine y2 ?_
 refine pu (vp j 2) wN ?_
 have E:=(x.kp y)
 refine ld (vi a.Seq) wN tE E ?_
 refine pu (vp k 2) wN ?_
 have F:=(w.kp y)
 refine ld (vi b.Seq) wN tE F ?_
 refine pu (vb (!(decide (a.Seq=b.Seq)))) wN ?_
 refine n2 ?_
 rcases bf (decide (a.Seq=b.Seq)) with e|e
 ·have af:=dF e
  refine ct (cA not e) ?_
  refine sr ?_
  refine aw (vb false) ?_
  refine n1 ?_
  refine rt (vb false) ?_
  refine ⟨h.keep0,?_⟩
  simp only [Gi,d,f,e,cond_true,cond_false]
  exact rfl
 have ah:=dT e
 refine cf (cA not e) ?_
 refine y2 ?_
 refine pu (vp j 3) wN ?_
 refine lN (DW a.Win p q) wN CM Cj E ?_
 refine pu (vp k 3) wN ?_
 refine lN (DW b.Win t u) wN CM Cj F ?_
 refine cl wN (QP W _ a.Win (FX (L.from0 h) M) _ b.Win (FX (Q.from0 h) R)) ?_
 rintro _ ai ⟨X,rfl⟩
 have G:=h.extk X
 refine pu (vb (!(Gu a.Win b.Win))) wN ?_
 refine n2 ?_
 rcases bf (Gu a.Win b.Win) with i|i
 ·refine ct (cA not i) ?_
  refine sr ?_
  refine aw (vb false) ?_
  refine n1 ?_
  refine rt (vb false) ?_
  refine ⟨G.keep0,?_⟩
  simp only [Gi,d,f,e,i,cond_true,cond_false]
  exact rfl
 refine cf (cA not i) ?_
 refine y1 ?_
 refine aw (vb true) ?_
 refine n3 ?_
 refine rt (vb true) ?_
 refine ⟨G.keep0,?_⟩
 simp only [Gi,d,f,e,i,cond_true,cond_false]
 exact rfl

def l_eqChan (a:PChan) (b:PChan):(Bool):=bif (decide (a.Role=b.Role)) then (bif (eqB a.Sn b.Sn) then (bif (Gi a.Cur b.Cur) then (bif (Gi a.Old b.Old) then (bif (a.HasOld == b.HasOld) then (bif (decide (a.Until=b.Until)) then (bif (eqB a.Next b.Next) then (true) else (false)) else (false)) else (false)) else (false)) else (false)) else (false)) else (false)
theorem Iq (l:World) (aa:Value) (a:PChan) (ak:Nc l aa a) (ab:Value) (b:PChan) (am:Nc l ab b) :Fn Tryz.prog 12 #[aa,ab] l (fun v ac=>Keep l ac∧O_4 ac l.heap.size v (l_eqChan a b)):=by
 obtain ⟨s,t,u,w,x,y,A,B,C,D,E,F,rfl,an,ao,ap,aq,au,av,ax,ay,az,a0,a1,a2⟩:=ak
 obtain ⟨G,H,I,J,K,L,M,N,O,P,Q,R,rfl,a3,a4,a5,a6,a7,a8,a9,aA,aB,aC,aD,aE⟩:=am
 refine Cl (n:=44) [(va (Dv a s t u w x y A B C D E F)),(va (Dv b G H I J K L M N O P Q R))] Tryz.func12 rfl rfl ?_
 refine sr ?_
 refine bx (Dv a s t u w x y A B C D E F) wN ?_
 intro i aM aN aO aF aG
 refine bx (Dv b G H I J K L M N O P Q R) wN ?_
 intro j aH aP aQ ad S
 have r:=((Ch.base l).extk aF).extk ad
 refine aw (vb false) ?_
 refine n4 ?_
 refine pu (vp i 0) wN ?_
 have T:=(aG.kp ad)
 refine ld (vi a.Role) wN tE T ?_
 refine pu (vp j 0) wN ?_
 refine ld (vi b.Role) wN tE S ?_
 refine pu (vb (!(decide (a.Role=b.Role)))) wN ?_
 refine n2 ?_
 rcases bf (decide (a.Role=b.Role)) with d|d
 ·have aR:=dF d
  refine ct (cA not d) ?_
  refine sr ?_
  refine aw (vb false) ?_
  refine n1 ?_
  refine rt (vb false) ?_
  refine ⟨r.keep0,?_⟩
  simp only [l_eqChan,d,cond_true,cond_false]
  exact rfl
 have aS:=dT d
 refine cf (cA not d) ?_
 refine y2 ?_
 refine pu (vp i 1) wN ?_
 refine ld (vs s a.Sn.length t) wN BT T ?_
 refine pu (vp j 1) wN ?_
 refine ld (vs G b.Sn.length H) wN BT S ?_
 refine cl wN (Es aH _ a.Sn (CC (an.from0 r) ao) _ b.Sn (CC (a3.from0 r) a4)) ?_
 rintro _ aI ⟨V,rfl⟩
 have m:=r.extk V
 refine pu (vb (!(eqB a.Sn b.Sn))) wN ?_
 refine n2 ?_
 rcases bf (eqB a.Sn b.Sn) with e|e
 ·refine ct (cA not e) ?_
  refine sr ?_
  refine aw (vb false) ?_
  refine n1 ?_
  refine rt (vb false) ?_
  refine ⟨m.keep0,?_⟩
  simp only [l_eqChan,d,e,cond_true,cond_false]
  exact rfl
 refine cf (cA not e) ?_
 refine y2 ?_
 refine pu (vp i 2) wN ?_
 have ae:=(T.kp V)
 refine lN (Dd a.Cur u w x y) wN Cs BW ae ?_
 refine pu (vp j 2) wN ?_
 have af:=(S.kp V)
 refine lN (Dd b.Cur I J K L) wN Cs BW af ?_
 refine cl wN (Qc aI _ a.Cur (Fh (ap.from0 m) aq (au.from0 m) av) _ b.Cur (Fh (a5.from0 m) a6 (a7.from0 m) a8)) ?_
 rintro _ aJ ⟨W,rfl⟩
 have o:=m.extk W
 refine pu (vb (!(Gi a.Cur b.Cur))) wN ?_
 refine n2 ?_
 rcases bf (Gi a.Cur b.Cur) with f|f
 ·refine ct (cA not f) ?_
  refine sr ?_
  refine aw (vb false) ?_
  refine n1 ?_
  refine rt (vb false) ?_
  refine ⟨o.keep0,?_⟩
  simp only [l_eqChan,d,e,f,cond_true,cond_false]
  exact rfl
 refine cf (cA not f) ?_
 refine y2 ?_
 refine pu (vp i 7) wN ?_
 have ah:=(ae.kp W)
 refine lN (Dd a.Old A B C D) wN Cs BW ah ?_
 refine pu (vp j 7) wN ?_
 have ai:=(af.kp W)
 refine lN (Dd b.Old M N O P) wN Cs BW ai ?_
 refine cl wN (Qc aJ _ a.Old (Fh (ax.from0 o) ay (az.from0 o) a0) _ b.Old (Fh (a9.from0 o) aA (aB.from0 o) aC)) ?_
 rintro _ aK ⟨X,rfl⟩
 have p:=o.extk X
 refine pu (vb (!(Gi a.Old b.Old))) wN ?_
 refine n2 ?_
 rcases bf (Gi a.Old b.Old) with g|g
 ·refine ct (cA not g) ?_
  refine sr ?_
  refine aw (vb false) ?_
  refine n1 ?_
  refine rt (vb false) ?_
  refine ⟨p.keep0,?_⟩
  simp only [l_eqChan,d,e,f,g,cond_true,cond_false]
  exact rfl
 refine cf (cA not g) ?_
 refine y2 ?_
 refine pu (vp i 12) wN ?_
 have Y:=(ah.kp X)
 refine ld (vb a.HasOld) wN FZ Y ?_
 refine pu (vp j 12) wN ?_
 have Z:=(ai.kp X)
 refine ld (vb b.HasOld) wN FZ Z ?_
 refine pu (vb (!(a.HasOld == b.HasOld))) wN ?_
 refine n2 ?_
 rcases bf (a.HasOld == b.HasOld) with k|k
 ·refine ct (cA not k) ?_
  refine sr ?_
  refine aw (vb false) ?_
  refine n1 ?_
  refine rt (vb false) ?_
  refine ⟨p.keep0,?_⟩
  simp only [l_eqChan,d,e,f,g,k,cond_true,cond_false]
  exact rfl
 refine cf (cA not k) ?_
 refine y2 ?_
 refine pu (vp i 13) wN ?_
 refine ld (vi a.Until) wN tE Y ?_
 refine pu (vp j 13) wN ?_
 refine ld (vi b.Until) wN tE Z ?_
 refine pu (vb (!(decide (a.Until=b.Until)))) wN ?_
 refine n2 ?_
 rcases bf (decide (a.Until=b.Until)) with h|h
 ·have aT:=dF h
  refine ct (cA not h) ?_
  refine sr ?_
  refine aw (vb false) ?_
  refine n1 ?_
  refine rt (vb false) ?_
  refine ⟨p.keep0,?_⟩
  simp only [l_eqChan,d,e,f,g,k,h,cond_true,cond_false]
  exact rfl
 have aU:=dT h
 refine cf (cA not h) ?_
 refine y2 ?_
 refine pu (vp i 14) wN ?_
 refine ld (vs E a.Next.length F) wN BT Y ?_
 refine pu (vp j 14) wN ?_
 refine ld (vs Q b.Next.length R) wN BT Z ?_
 refine cl wN (Es aK _ a.Next (CC (a1.from0 p) a2) _ b.Next (CC (aD.from0 p) aE)) ?_
 rintro _ aV ⟨aL,rfl⟩
 have aj:=p.extk aL
 refine pu (vb (!(eqB a.Next b.Next))) wN ?_
 refine n2 ?_
 rcases bf (eqB a.Next b.Next) with q|q
 ·refine ct (cA not q) ?_
  refine sr ?_
  refine aw (vb false) ?_
  refine n1 ?_
  refine rt (vb false) ?_
  refine ⟨aj.keep0,?_⟩
  simp only [l_eqChan,d,e,f,g,k,h,q,cond_true,cond_false]
  exact rfl
 refine cf (cA not q) ?_
 refine y1 ?_
 refine aw (vb true) ?_
 refine n3 ?_
 refine rt (vb true) ?_
 refine ⟨aj.keep0,?_⟩
 simp only [l_eqChan,d,e,f,g,k,h,q,cond_true,cond_false]
 exact rfl

def l_eqFrame (a:PFrame) (b:PFrame):(Bool):=bif (decide (a.Kind=b.Kind)) then (bif (decide (a.Id=b.Id)) then (bif (eqB a.Cn b.Cn) then (bif (eqB a.Sn b.Sn) then (bif (decide (a.Tick=b.Tick)) then (bif (eqB a.Cookie b.Cookie) then (bif (eqB a.Proof b.Proof) then (bif (decide (a.Epoch=b.Epoch)) then (bif (decide (a.Seq=b.Seq)) then (bif (eqB a.Body b.Body) then (bif (eqB a.Tag b.Tag) then (true) else (false)) else (false)) else (false)) else (false)) else (false)) else (false)) else (false)) else (false)) else (false)) else (false)) else (false)
theorem Oc (p:World) (am:Value) (a:PFrame) (az:JC p am a) (an:Value) (b:PFrame) (a0:JC p an b) :Fn Tryz.prog 14 #[am,an] p (fun v ao=>Keep p ao∧O_4 ao p.heap.size v (l_eqFrame a b)):=by
 obtain ⟨E,F,G,H,I,J,K,L,M,N,O,P,rfl,a1,a2,a3,a4,a5,a6,a7,a8,a9,aA,aB,aC⟩:=az
 obtain ⟨Q,R,S,T,V,W,X,Y,Z,aa,ab,ac,rfl,aD,aE,aF,aG,aH,aI,aJ,aK,aL,aM,aN,aO⟩:=a0
 refine Cl (n:=66) [(va (EB a E F G H I J K L M N O P)),(va (EB b Q R S T V W X Y Z aa ab ac))] Tryz.func14 rfl rfl ?_
 refine sr ?_
 refine bx (EB a E F G H I J K L M N O P) wN ?_
 intro i ba bb bc aP aQ
 refine bx (EB b Q R S T V W X Y Z aa ab ac) wN ?_
 intro j aR bd be ap w
 have s:=((Ch.base p).extk aP).extk ap
 refine aw (vb false) ?_
 refine n4 ?_
 refine pu (vp i 0) wN ?_
 have x:=(aQ.kp ap)
 refine ld (vi a.Kind) wN tE x ?_
 refine pu (vp j 0) wN ?_
 refine ld (vi b.Kind) wN tE w ?_
 refine pu (vb (!(decide (a.Kind=b.Kind)))) wN ?_
 refine n2 ?_
 rcases bf (decide (a.Kind=b.Kind)) with d|d
 ·have bg:=dF d
  refine ct (cA not d) ?_
  refine sr ?_
  refine aw (vb false) ?_
  refine n1 ?_
  refine rt (vb false) ?_
  refine ⟨s.keep0,?_⟩
  simp only [l_eqFrame,d,cond_true,cond_false]
  exact rfl
 have bh:=dT d
 refine cf (cA not d) ?_
 refine y2 ?_
 refine pu (vp i 1) wN ?_
 refine ld (vi a.Id) wN tE x ?_
 refine pu (vp j 1) wN ?_
 refine ld (vi b.Id) wN tE w ?_
 refine pu (vb (!(decide (a.Id=b.Id)))) wN ?_
 refine n2 ?_
 rcases bf (decide (a.Id=b.Id)) with e|e
 ·have bi:=dF e
  refine ct (cA not e) ?_
  refine sr ?_
  refine aw (vb false) ?_
  refine n1 ?_
  refine rt (vb false) ?_
  refine ⟨s.keep0,?_⟩
  simp only [l_eqFrame,d,e,cond_true,cond_false]
  exact rfl
 have bj:=dT e
 refine cf (cA not e) ?_
 refine y2 ?_
 refine pu (vp i 2) wN ?_
 refine ld (vs E a.Cn.length F) wN BT x ?_
 refine pu (vp j 2) wN ?_
 refine ld (vs Q b.Cn.length R) wN BT w ?_
 refine cl wN (Es aR _ a.Cn (CC (a1.from0 s) a2) _ b.Cn (CC (aD.from0 s) aE)) ?_
 rintro _ aS ⟨ad,rfl⟩
 have y:=s.extk ad
 refine pu (vb (!(eqB a.Cn b.Cn))) wN ?_
 refine n2 ?_
 rcases bf (eqB a.Cn b.Cn) with f|f
 ·refine ct (cA not f) ?_
  refine sr ?_
  refine aw (vb false) ?_
  refine n1 ?_
  refine rt (vb false) ?_
  refine ⟨y.keep0,?_⟩
  simp only [l_eqFrame,d,e,f,cond_true,cond_false]
  exact rfl
 refine cf (cA not f) ?_
 refine y2 ?_
 refine pu (vp i 3) wN ?_
 have aq:=(x.kp ad)
 refine ld (vs G a.Sn.length H) wN BT aq ?_
 refine pu (vp j 3) wN ?_
 have au:=(w.kp ad)
 refine ld (vs S b.Sn.length T) wN BT au ?_
 refine cl wN (Es aS _ a.Sn (CC (a3.from0 y) a4) _ b.Sn (CC (aF.from0 y) aG)) ?_
 rintro _ aT ⟨ae,rfl⟩
 have t:=y.extk ae
 refine pu (vb (!(eqB a.Sn b.Sn))) wN ?_
 refine n2 ?_
 rcases bf (eqB a.Sn b.Sn) with h|h
 ·refine ct (cA not h) ?_
  refine sr ?_
  refine aw (vb false) ?_
  refine n1 ?_
  refine rt (vb false) ?_
  refine ⟨t.keep0,?_⟩
  simp only [l_eqFrame,d,e,f,h,cond_true,cond_false]
  exact rfl
 refine cf (cA not h) ?_
 refine y2 ?_
 refine pu (vp i 4) wN ?_
 have af:=(aq.kp ae)
 refine ld (vi a.Tick) wN tE af ?_
 refine pu (vp j 4) wN ?_
 have ah:=(au.kp ae)
 refine ld (vi b.Tick) wN tE ah ?_
 refine pu (vb (!(decide (a.Tick=b.Tick)))) wN ?_
 refine n2 ?_
 rcases bf (decide (a.Tick=b.Tick)) with g|g
 ·have bk:=dF g
  refine ct (cA not g) ?_
  refine sr ?_
  refine aw (vb false) ?_
  refine n1 ?_
  refine rt (vb false) ?_
  refine ⟨t.keep0,?_⟩
  simp only [l_eqFrame,d,e,f,h,g,cond_true,cond_false]
  exact rfl
 have bl:=dT g
 refine cf (cA not g) ?_
 refine y2 ?_
 refine pu (vp i 5) wN ?_
 refine ld (vs I a.Cookie.length J) wN BT af ?_
 refine pu (vp j 5) wN ?_
 refine ld (vs V b.Cookie.length W) wN BT ah ?_
 refine cl wN (Es aT _ a.Cookie (CC (a5.from0 t) a6) _ b.Cookie (CC (aH.from0 t) aI)) ?_
 rintro _ aU ⟨ai,rfl⟩
 have A:=t.extk ai
 refine pu (vb (!(eqB a.Cookie b.Cookie))) wN ?_
 refine n2 ?_
 rcases bf (eqB a.Cookie b.Cookie) with k|k
 ·refine ct (cA not k) ?_
  refine sr ?_
  refine aw (vb false) ?_
  refine n1 ?_
  refine rt (vb false) ?_
  refine ⟨A.keep0,?_⟩
  simp only [l_eqFrame,d,e,f,h,g,k,cond_true,cond_false]
  exact rfl
 refine cf (cA not k) ?_
 refine y2 ?_
 refine pu (vp i 6) wN ?_
 have av:=(af.kp ai)
 refine ld (vs K a.Proof.length L) wN BT av ?_
 refine pu (vp j 6) wN ?_
 have ax:=(ah.kp ai)
 refine ld (vs X b.Proof.length Y) wN BT ax ?_
 refine cl wN (Es aU _ a.Proof (CC (a7.from0 A) a8) _ b.Proof (CC (aJ.from0 A) aK)) ?_
 rintro _ aV ⟨aj,rfl⟩
 have q:=A.extk aj
 refine pu (vb (!(eqB a.Proof b.Proof))) wN ?_
 refine n2 ?_
 rcases bf (eqB a.Proof b.Proof) with m|m
 ·refine ct (cA not m) ?_
  refine sr ?_
  refine aw (vb false) ?_
  refine n1 ?_
  refine rt (vb false) ?_
  refine ⟨q.keep0,?_⟩
  simp only [l_eqFrame,d,e,f,h,g,k,m,cond_true,cond_false]
  exact rfl
 refine cf (cA not m) ?_
 refine y2 ?_
 refine pu (vp i 7) wN ?_
 have B:=(av.kp aj)
 refine ld (vi a.Epoch) wN tE B ?_
 refine pu (vp j 7) wN ?_
 have C:=(ax.kp aj)
 refine ld (vi b.Epoch) wN tE C ?_
 refine pu (vb (!(decide (a.Epoch=b.Epoch)))) wN ?_
 refine n2 ?_
 rcases bf (decide (a.Epoch=b.Epoch)) with l|l
 ·have bm:=dF l
  refine ct (cA not l) ?_
  refine sr ?_
  refine aw (vb false) ?_
  refine n1 ?_
  refine rt (vb false) ?_
  refine ⟨q.keep0,?_⟩
  simp only [l_eqFrame,d,e,f,h,g,k,m,l,cond_true,cond_false]
  exact rfl
 have bn:=dT l
 refine cf (cA not l) ?_
 refine y2 ?_
 refine pu (vp i 8) wN ?_
 refine ld (vi a.Seq) wN tE B ?_
 refine pu (vp j 8) wN ?_
 refine ld (vi b.Seq) wN tE C ?_
 refine pu (vb (!(decide (a.Seq=b.Seq)))) wN ?_
 refine n2 ?_
 rcases bf (decide (a.Seq=b.Seq)) with o|o
 ·have bo:=dF o
  refine ct (cA not o) ?_
  refine sr ?_
  refine aw (vb false) ?_
  refine n1 ?_
  refine rt (vb false) ?_
  refine ⟨q.keep0,?_⟩
  simp only [l_eqFrame,d,e,f,h,g,k,m,l,o,cond_true,cond_false]
  exact rfl
 have bp:=dT o
 refine cf (cA not o) ?_
 refine y2 ?_
 refine pu (vp i 9) wN ?_
 refine ld (vs M a.Body.length N) wN BT B ?_
 refine pu (vp j 9) wN ?_
 refine ld (vs Z b.Body.length aa) wN BT C ?_
 refine cl wN (Es aV _ a.Body (CC (a9.from0 q) aA) _ b.Body (CC (aL.from0 q) aM)) ?_
 rintro _ aW ⟨ak,rfl⟩
 have D:=q.extk ak
 refine pu (vb (!(eqB a.Body b.Body))) wN ?_
 refine n2 ?_
 rcases bf (eqB a.Body b.Body) with r|r
 ·refine ct (cA not r) ?_
  refine sr ?_
  refine aw (vb false) ?_
  refine n1 ?_
  refine rt (vb false) ?_
  refine ⟨D.keep0,?_⟩
  simp only [l_eqFrame,d,e,f,h,g,k,m,l,o,r,cond_true,cond_false]
  exact rfl
 refine cf (cA not r) ?_
 refine y2 ?_
 refine pu (vp i 10) wN ?_
 have aX:=(B.kp ak)
 refine ld (vs O a.Tag.length P) wN BT aX ?_
 refine pu (vp j 10) wN ?_
 have aY:=(C.kp ak)
 refine ld (vs ab b.Tag.length ac) wN BT aY ?_
 refine cl wN (Es aW _ a.Tag (CC (aB.from0 D) aC) _ b.Tag (CC (aN.from0 D) aO)) ?_
 rintro _ bq ⟨aZ,rfl⟩
 have ay:=D.extk aZ
 refine pu (vb (!(eqB a.Tag b.Tag))) wN ?_
 refine n2 ?_
 rcases bf (eqB a.Tag b.Tag) with u|u
 ·refine ct (cA not u) ?_
  refine sr ?_
  refine aw (vb false) ?_
  refine n1 ?_
  refine rt (vb false) ?_
  refine ⟨ay.keep0,?_⟩
  simp only [l_eqFrame,d,e,f,h,g,k,m,l,o,r,u,cond_true,cond_false]
  exact rfl
 refine cf (cA not u) ?_
 refine y1 ?_
 refine aw (vb true) ?_
 refine n3 ?_
 refine rt (vb true) ?_
 refine ⟨ay.keep0,?_⟩
 simp only [l_eqFrame,d,e,f,h,g,k,m,l,o,r,u,cond_true,cond_false]
 exact rfl

theorem GN (d:World) (a:Option Addr) (c:Nat) (x:List UInt8) (lo:Nat) (k:Int) (G:0≤k) (H:k≤9000000000000000000) (hs:x.length≤1073741824) (r:d.ownsRow lo 5 1 (.slice a x.length c) x.length (x.map bV)) :
    Fn Tryz.prog 17 #[(.slice a x.length c),.int .i64 k] d (fun v e=>v=.int .i64 (k+x.length)∧Ch (fun b=>(Value.slice a x.length c).ownBlock=some b) d e∧e.ownsRow lo 5 1 (.slice a x.length c) x.length ((marksB k x.length).map bV)):=by
 refine Kb (n:=20) (l:=[(.slice a x.length c),(.int .i64 k),undef,undef,undef,undef,undef,undef,undef,undef,undef,undef,undef,undef,undef,undef,undef,undef,undef,undef]) Tryz.func17 rfl rfl (by kernel_rfl) rfl ?_
 refine sr ?_
 refine aw (vi 0) ?_
 refine n4 ?_
 refine aw (vi 0) ?_
 refine BU<|re<|Ca ?_
 refine JJ [(vs a x.length c),(vi k),U,U,(vi 0),(vi 0),U,U,U,U,U,U,U,U,U,U,U,U,U,U] rfl ⟨rfl,rfl,rfl,rfl,rfl,rfl,rfl,rfl,rfl,rfl,rfl,rfl,rfl,rfl,rfl,rfl,rfl,rfl,rfl,rfl,trivial⟩ ?_
 refine It (fun e' e=>∃ (i:Nat) (g j m o q s t u w y A B C:Value),e'=lst [(vs a x.length c),(vi (k+((i:Nat):Int))),U,U,(vi 0),(vi ((i:Nat):Int)),g,j,m,o,q,s,t,u,w,y,A,B,C,U]∧i≤x.length∧Ch (fun b=>(Value.slice a x.length c).ownBlock=some b) d e∧e.ownsRow lo 5 1 (.slice a x.length c) x.length ((marksB k i++x.drop i).map bV)) (fun e' _=>x.length - (intOf (e' 5)).toNat) ?_ ?_
 ·exact ⟨0,U,U,U,U,U,U,U,U,U,U,U,U,U,cA (fun (p:Value)=>lst [(vs a x.length c),p,U,U,(vi 0),(vi 0),U,U,U,U,U,U,U,U,U,U,U,U,U,U]) (cA (Value.int .i64) (show k=k+((0:Nat):Int) by omega)),Nat.zero_le _,Ch.refl _ _,by simpa [marksB] using r⟩
 ·rintro _ E ⟨i,g,j,m,o,q,s,t,u,w,y,A,B,C,rfl,hi,hc,ho⟩
  refine Cc<|sr ?_
  refine mw (vi ((i:Nat):Int)) ?_
  refine mw (vs a x.length c) ?_
  refine ln wN tD (Rd.of_own ho) ?_
  refine pu (vb (decide (((i:Nat):Int) < (x.length:Int)))) wN ?_
  refine n2 ?_
  rcases bf (decide (((i:Nat):Int) < (x.length:Int))) with f|f
  ·have I:=dF f
   refine cf f ?_
   refine CS<|wb<|wb<|Ce<|re<|sr ?_
   refine mw (vi (k+((i:Nat):Int))) ?_
   refine aw (vi (k+((i:Nat):Int))) ?_
   refine n3 ?_
   have hI:i=x.length:=by omega
   subst hI
   refine EY (.inl rfl) (vi (k+((x.length:Nat):Int))) rfl rfl ⟨rfl,hc,?_⟩
   simpa using ho
  have J:=dT f
  refine ct f ?_
  refine Ct<|re<|Cc<|Ca<|sr ?_
  refine mw (vs a x.length c) ?_
  refine mw (vi ((i:Nat):Int)) ?_
  refine mw (vi (k+((i:Nat):Int))) ?_
  refine Gd (k+((i:Nat):Int)) wN rfl rfl (by kernel_rfl) ?_
  refine ix wN ((i:Nat):Int) tD (Rd.of_own ho) ?_
  refine Kr ((marksB k i++x.drop i)) i ((by8 (k+((i:Nat):Int)))) wN rfl rfl rfl (by simp) rfl LL ho (by simp only [List.length_append,List.length_drop,Cq];omega) ?_
  intro K F D
  refine BU<|re<|BZ ?_
  refine mw (vi (k+((i:Nat):Int))) ?_
  refine ar ((k+((i:Nat):Int))+1) wN ?_
  refine aw (vi ((k+((i:Nat):Int))+1)) ?_
  refine BU<|BS<|re<|BZ ?_
  refine mw (vi ((i:Nat):Int)) ?_
  refine ar (((i:Nat):Int)+1) wN ?_
  refine aw (vi (((i:Nat):Int)+1)) ?_
  refine BU ?_
  have hE:(((marksB k i++x.drop i)).set i ((by8 (k+((i:Nat):Int)))))=marksB k (i+1)++x.drop (i+1):=by
   rw [List.set_append_right _ _ (by rw [Cq];omega),Cq,Nat.sub_self,List.drop_eq_getElem_cons (by omega),List.set_cons_zero,ID]
   simp
  rw [hE] at D
  exact LH (w0:=E) [(vs a x.length c),(vi (k+((i+1:Nat):Int))),U,U,(vi 0),(vi ((i+1:Nat):Int)),(vi ((i:Nat):Int)),(vs a x.length c),(vi (x.length:Int)),(vb (decide (((i:Nat):Int) < (x.length:Int)))),(vi ((i:Nat):Int)),(vi (((i:Nat):Int)+1)),(vs a x.length c),(vi ((i:Nat):Int)),(vi (k+((i:Nat):Int))),(v8 ((by8 (k+((i:Nat):Int))).toNat:Int)),(ve (vs a x.length c) ((((i:Nat):Int)).toNat*1)),(vi (k+((i:Nat):Int))),(vi ((k+((i:Nat):Int))+1)),U] rfl ⟨rfl,(cA (Value.int .i64) (show (((k+((i:Nat):Int))+1):Int)=(k+((i+1:Nat):Int)) by omega)),rfl,rfl,rfl,(cA (Value.int .i64) (show ((((i:Nat):Int)+1):Int)=((i+1:Nat):Int) by omega)),rfl,rfl,rfl,rfl,rfl,rfl,rfl,rfl,rfl,rfl,rfl,rfl,rfl,rfl,trivial⟩ ⟨i+1,(vi ((i:Nat):Int)),(vs a x.length c),(vi (x.length:Int)),(vb (decide (((i:Nat):Int) < (x.length:Int)))),(vi ((i:Nat):Int)),(vi (((i:Nat):Int)+1)),(vs a x.length c),(vi ((i:Nat):Int)),(vi (k+((i:Nat):Int))),(v8 ((by8 (k+((i:Nat):Int))).toNat:Int)),(ve (vs a x.length c) ((((i:Nat):Int)).toNat*1)),(vi (k+((i:Nat):Int))),(vi ((k+((i:Nat):Int))+1)),rfl,by omega,hc.comp F (fun _ _ h=>h),D⟩ (by show x.length - (((i+1:Nat):Int)).toNat < x.length - (((i:Nat):Int)).toNat;omega)
theorem GO (b:World) (a:Option Addr) (c:Nat) (k:Int) (r:Rd b 1 (.slice a 0 c) 0 []) :
    Fn Tryz.prog 17 #[.slice a 0 c,.int .i64 k] b (fun v d=>v=.int .i64 k∧d=b):=by
 have hz:decide ((0:Int) < ((0:Nat):Int))=false:=by decide
 refine Kb (n:=20) (l:=[(.slice a 0 c),(.int .i64 k),undef,undef,undef,undef,undef,undef,undef,undef,undef,undef,undef,undef,undef,undef,undef,undef,undef,undef]) Tryz.func17 rfl rfl (by kernel_rfl) rfl ?_
 refine sr ?_
 refine aw (vi 0) ?_
 refine n4 ?_
 refine aw (vi 0) ?_
 refine BU<|re<|Ca ?_
 refine JJ [(vs a 0 c),(vi k),U,U,(vi 0),(vi 0),U,U,U,U,U,U,U,U,U,U,U,U,U,U] rfl ⟨rfl,rfl,rfl,rfl,rfl,rfl,rfl,rfl,rfl,rfl,rfl,rfl,rfl,rfl,rfl,rfl,rfl,rfl,rfl,rfl,trivial⟩ ?_
 refine It (fun e' d=>e'=lst [(vs a 0 c),(vi k),U,U,(vi 0),(vi 0),U,U,U,U,U,U,U,U,U,U,U,U,U,U]∧d=b) (fun _ _=>0) ⟨rfl,rfl⟩ ?_
 rintro _ _ ⟨rfl,rfl⟩
 refine Cc<|sr ?_
 refine mw (vi 0) ?_
 refine mw (vs a 0 c) ?_
 refine ln wN tD r ?_
 refine pu (vb (decide (0 < ((0:Nat):Int)))) wN ?_
 refine n2 ?_
 refine cf hz ?_
 refine CS<|wb<|wb<|Ce<|re<|sr ?_
 refine mw (vi k) ?_
 refine aw (vi k) ?_
 refine n3 ?_
 exact EY (.inl rfl) (vi k) rfl rfl ⟨rfl,rfl⟩
theorem Ed (d:World) (a:Option Addr) (c:Nat) (x:List UInt8) (k:Int) (f:0≤k) (g:k≤9000000000000000000) (hs:x.length≤1073741824) (r:Rd d 1 (.slice a x.length c) x.length (x.map bV)) (hw:Wp d 5 a x.length c (x.map bV)) :
    Fn Tryz.prog 17 #[.slice a x.length c,.int .i64 k] d (fun v e=>v=.int .i64 (k+x.length)∧Ch (MS [(a,x.length)]) d e∧Rd e 1 (.slice a x.length c) x.length ((marksB k x.length).map bV)):=by
  rcases Nat.eq_zero_or_pos x.length with hz|hz
  · obtain rfl:x=[]:=List.eq_nil_of_length_eq_zero hz
    refine (GO d a c k r).mono ?_
    rintro _ _ ⟨rfl,rfl⟩
    exact ⟨by simp,Ch.refl _ _,r⟩
  · rcases hw with hw|⟨lo,hw⟩
    · omega
    · refine (GN d a c x lo k f g hs hw).mono ?_
      rintro _ e ⟨rfl,hc,ho⟩
      refine ⟨rfl,hc.mono fun b _ hb=>?_,Rd.of_own ho⟩
      rcases a with _|ad
      · cases hb
      · exact .inl ⟨hz,ad,rfl,by simpa [Value.ownBlock] using hb⟩
theorem clmarkByteS_w (d:World) (a:Option Addr) (c:Nat) (x:List UInt8) (k:Int) (f:0≤k) (g:k≤9000000000000000000) (h:W1 d 5 (a,c) x) :
    Fn Tryz.prog 17 #[.slice a x.length c,.int .i64 k] d (fun v e=>v=.int .i64 (k+x.length)∧Ch (MS [(a,x.length)]) d e∧W1 e 5 (a,c) (marksB k x.length)):=by
  rcases Nat.eq_zero_or_pos x.length with hz|hz
  · obtain rfl:x=[]:=List.eq_nil_of_length_eq_zero hz
    refine (GO d a c k h.2.1).mono ?_
    rintro _ _ ⟨rfl,rfl⟩
    exact ⟨by simp,Ch.refl _ _,h⟩
  · rcases h.1 with hw|⟨lo,hw⟩
    · omega
    · refine (GN d a c x lo k f g h.2.2 hw).mono ?_
      rintro _ e ⟨rfl,hc,ho⟩
      have hl:(marksB k x.length).length=x.length:=Cq _ _
      refine ⟨rfl,hc.mono fun b _ hb=>?_,.inr ⟨lo,by rw [hl];exact ho⟩,by rw [hl];exact Rd.of_own ho,by rw [hl];exact h.2.2⟩
      rcases a with _|ad
      · cases hb
      · exact .inl ⟨hz,ad,rfl,by simpa [Value.ownBlock] using hb⟩

theorem Ja (d:World) (a:Option Addr) (c:Nat) (x:List Int) (lo:Nat) (k:Int) (F:0≤k) (G:k≤9000000000000000000) (hs:x.length≤1073741824) (r:d.ownsRow lo 3 1 (.slice a x.length c) x.length (x.map iV)) :
    Fn Tryz.prog 124 #[(.slice a x.length c),.int .i64 k] d (fun v e=>v=.int .i64 (k+x.length)∧Ch (fun b=>(Value.slice a x.length c).ownBlock=some b) d e∧e.ownsRow lo 3 1 (.slice a x.length c) x.length ((DT k x.length).map iV)):=by
 refine Kb (n:=19) (l:=[(.slice a x.length c),(.int .i64 k),undef,undef,undef,undef,undef,undef,undef,undef,undef,undef,undef,undef,undef,undef,undef,undef,undef]) Tryz.func124 rfl rfl (by kernel_rfl) rfl ?_
 refine sr ?_
 refine aw (vi 0) ?_
 refine n4 ?_
 refine aw (vi 0) ?_
 refine BU<|re<|Ca ?_
 refine JJ [(vs a x.length c),(vi k),U,U,(vi 0),(vi 0),U,U,U,U,U,U,U,U,U,U,U,U,U] rfl ⟨rfl,rfl,rfl,rfl,rfl,rfl,rfl,rfl,rfl,rfl,rfl,rfl,rfl,rfl,rfl,rfl,rfl,rfl,rfl,trivial⟩ ?_
 refine It (fun e' e=>∃ (i:Nat) (g j m o q s t u w y A B:Value),e'=lst [(vs a x.length c),(vi (k+((i:Nat):Int))),U,U,(vi 0),(vi ((i:Nat):Int)),g,j,m,o,q,s,t,u,w,y,A,B,U]∧i≤x.length∧Ch (fun b=>(Value.slice a x.length c).ownBlock=some b) d e∧e.ownsRow lo 3 1 (.slice a x.length c) x.length ((DT k i++x.drop i).map iV)) (fun e' _=>x.length - (intOf (e' 5)).toNat) ?_ ?_
 ·exact ⟨0,U,U,U,U,U,U,U,U,U,U,U,U,cA (fun (p:Value)=>lst [(vs a x.length c),p,U,U,(vi 0),(vi 0),U,U,U,U,U,U,U,U,U,U,U,U,U]) (cA (Value.int .i64) (show k=k+((0:Nat):Int) by omega)),Nat.zero_le _,Ch.refl _ _,by simpa [DT] using r⟩
 ·rintro _ D ⟨i,g,j,m,o,q,s,t,u,w,y,A,B,rfl,hi,hc,ho⟩
  refine Cc<|sr ?_
  refine mw (vi ((i:Nat):Int)) ?_
  refine mw (vs a x.length c) ?_
  refine ln wN Cd (Rd.of_own ho) ?_
  refine pu (vb (decide (((i:Nat):Int) < (x.length:Int)))) wN ?_
  refine n2 ?_
  rcases bf (decide (((i:Nat):Int) < (x.length:Int))) with f|f
  ·have H:=dF f
   refine cf f ?_
   refine CS<|wb<|wb<|Ce<|re<|sr ?_
   refine mw (vi (k+((i:Nat):Int))) ?_
   refine aw (vi (k+((i:Nat):Int))) ?_
   refine n3 ?_
   have hI:i=x.length:=by omega
   subst hI
   refine EY (.inl rfl) (vi (k+((x.length:Nat):Int))) rfl rfl ⟨rfl,hc,?_⟩
   simpa using ho
  have I:=dT f
  refine ct f ?_
  refine Ct<|re<|Cc<|Ca<|sr ?_
  refine mw (vs a x.length c) ?_
  refine mw (vi ((i:Nat):Int)) ?_
  refine mw (vi (k+((i:Nat):Int))) ?_
  refine ix wN ((i:Nat):Int) Cd (Rd.of_own ho) ?_
  refine EC ((DT k i++x.drop i)) i ((k+((i:Nat):Int))) wN rfl rfl rfl (by simp) rfl CZ ho (by simp only [List.length_append,List.length_drop,Cu];omega) ?_
  intro J E C
  refine BU<|re<|BZ ?_
  refine mw (vi (k+((i:Nat):Int))) ?_
  refine ar ((k+((i:Nat):Int))+1) wN ?_
  refine aw (vi ((k+((i:Nat):Int))+1)) ?_
  refine BU<|BS<|re<|BZ ?_
  refine mw (vi ((i:Nat):Int)) ?_
  refine ar (((i:Nat):Int)+1) wN ?_
  refine aw (vi (((i:Nat):Int)+1)) ?_
  refine BU ?_
  have hE:(((DT k i++x.drop i)).set i ((k+((i:Nat):Int))))=DT k (i+1)++x.drop (i+1):=by
   rw [List.set_append_right _ _ (by rw [Cu];omega),Cu,Nat.sub_self,List.drop_eq_getElem_cons (by omega),List.set_cons_zero,IC]
   simp
  rw [hE] at C
  exact LH (w0:=D) [(vs a x.length c),(vi (k+((i+1:Nat):Int))),U,U,(vi 0),(vi ((i+1:Nat):Int)),(vi ((i:Nat):Int)),(vs a x.length c),(vi (x.length:Int)),(vb (decide (((i:Nat):Int) < (x.length:Int)))),(vi ((i:Nat):Int)),(vi (((i:Nat):Int)+1)),(vs a x.length c),(vi ((i:Nat):Int)),(vi (k+((i:Nat):Int))),(ve (vs a x.length c) ((((i:Nat):Int)).toNat*1)),(vi (k+((i:Nat):Int))),(vi ((k+((i:Nat):Int))+1)),U] rfl ⟨rfl,(cA (Value.int .i64) (show (((k+((i:Nat):Int))+1):Int)=(k+((i+1:Nat):Int)) by omega)),rfl,rfl,rfl,(cA (Value.int .i64) (show ((((i:Nat):Int)+1):Int)=((i+1:Nat):Int) by omega)),rfl,rfl,rfl,rfl,rfl,rfl,rfl,rfl,rfl,rfl,rfl,rfl,rfl,trivial⟩ ⟨i+1,(vi ((i:Nat):Int)),(vs a x.length c),(vi (x.length:Int)),(vb (decide (((i:Nat):Int) < (x.length:Int)))),(vi ((i:Nat):Int)),(vi (((i:Nat):Int)+1)),(vs a x.length c),(vi ((i:Nat):Int)),(vi (k+((i:Nat):Int))),(ve (vs a x.length c) ((((i:Nat):Int)).toNat*1)),(vi (k+((i:Nat):Int))),(vi ((k+((i:Nat):Int))+1)),rfl,by omega,hc.comp E (fun _ _ h=>h),C⟩ (by show x.length - (((i+1:Nat):Int)).toNat < x.length - (((i:Nat):Int)).toNat;omega)
theorem Jb (b:World) (a:Option Addr) (c:Nat) (k:Int) (r:Rd b 1 (.slice a 0 c) 0 []) :
    Fn Tryz.prog 124 #[.slice a 0 c,.int .i64 k] b (fun v d=>v=.int .i64 k∧d=b):=by
 have hz:decide ((0:Int) < ((0:Nat):Int))=false:=by decide
 refine Kb (n:=19) (l:=[(.slice a 0 c),(.int .i64 k),undef,undef,undef,undef,undef,undef,undef,undef,undef,undef,undef,undef,undef,undef,undef,undef,undef]) Tryz.func124 rfl rfl (by kernel_rfl) rfl ?_
 refine sr ?_
 refine aw (vi 0) ?_
 refine n4 ?_
 refine aw (vi 0) ?_
 refine BU<|re<|Ca ?_
 refine JJ [(vs a 0 c),(vi k),U,U,(vi 0),(vi 0),U,U,U,U,U,U,U,U,U,U,U,U,U] rfl ⟨rfl,rfl,rfl,rfl,rfl,rfl,rfl,rfl,rfl,rfl,rfl,rfl,rfl,rfl,rfl,rfl,rfl,rfl,rfl,trivial⟩ ?_
 refine It (fun e' d=>e'=lst [(vs a 0 c),(vi k),U,U,(vi 0),(vi 0),U,U,U,U,U,U,U,U,U,U,U,U,U]∧d=b) (fun _ _=>0) ⟨rfl,rfl⟩ ?_
 rintro _ _ ⟨rfl,rfl⟩
 refine Cc<|sr ?_
 refine mw (vi 0) ?_
 refine mw (vs a 0 c) ?_
 refine ln wN Cd r ?_
 refine pu (vb (decide (0 < ((0:Nat):Int)))) wN ?_
 refine n2 ?_
 refine cf hz ?_
 refine CS<|wb<|wb<|Ce<|re<|sr ?_
 refine mw (vi k) ?_
 refine aw (vi k) ?_
 refine n3 ?_
 exact EY (.inl rfl) (vi k) rfl rfl ⟨rfl,rfl⟩
theorem MR (d:World) (a:Option Addr) (c:Nat) (x:List Int) (k:Int) (f:0≤k) (g:k≤9000000000000000000) (hs:x.length≤1073741824) (r:Rd d 1 (.slice a x.length c) x.length (x.map iV)) (hw:Wp d 3 a x.length c (x.map iV)) :
    Fn Tryz.prog 124 #[.slice a x.length c,.int .i64 k] d (fun v e=>v=.int .i64 (k+x.length)∧Ch (MS [(a,x.length)]) d e∧Rd e 1 (.slice a x.length c) x.length ((DT k x.length).map iV)):=by
  rcases Nat.eq_zero_or_pos x.length with hz|hz
  · obtain rfl:x=[]:=List.eq_nil_of_length_eq_zero hz
    refine (Jb d a c k r).mono ?_
    rintro _ _ ⟨rfl,rfl⟩
    exact ⟨by simp,Ch.refl _ _,r⟩
  · rcases hw with hw|⟨lo,hw⟩
    · omega
    · refine (Ja d a c x lo k f g hs hw).mono ?_
      rintro _ e ⟨rfl,hc,ho⟩
      refine ⟨rfl,hc.mono fun b _ hb=>?_,Rd.of_own ho⟩
      rcases a with _|ad
      · cases hb
      · exact .inl ⟨hz,ad,rfl,by simpa [Value.ownBlock] using hb⟩

theorem Oa (d:World) (a:Option Addr) (b:Nat) (x:PWin) (k:Int) (u:0≤k) (w:k≤8800000000000000000) (i:x.Bits.length≤1073741824) (j:Rd d 1 (.slice a x.Bits.length b) x.Bits.length (x.Bits.map iV)) (m:Wp d 3 a x.Bits.length b (x.Bits.map iV)) (ap:Aps [(a,b)]) :
    Fn Tryz.prog 87 #[(va (DW x a b)),.int .i64 k] d (fun v f=>v=.int .i64 (k+DE x)∧Ch (MS [(a,x.Bits.length)]) d f∧Rd f 1 (.slice a x.Bits.length b) x.Bits.length ((DT k x.Bits.length).map iV)):=by
 refine Kb (n:=10) (l:=[(va (DW x a b)),(vi k),U,U,U,U,U,U,U,U]) Tryz.func87 rfl rfl (by kernel_rfl) rfl ?_
 refine sr ?_
 refine bx (DW x a b) wN ?_
 intro o g y A e p
 refine aw (vi 0) ?_
 refine nx ?_
 refine pu (vp o 1) wN ?_
 refine ld (vs a x.Bits.length b) wN Dk p ?_
 refine mw (vi k) ?_
 have q:=(j.kp e)
 have r:Wp g 3 a x.Bits.length b _ 1:=(Wp.kp m e)
 refine cl wN (MR g a b x.Bits k (by omega) (by omega) i q r) ?_
 rintro _ B ⟨rfl,s,t⟩
 refine aw (vi (k+(x.Bits.length:Int))) ?_
 refine nx ?_
 refine mw (vi (k+(x.Bits.length:Int))) ?_
 refine aw (vi (k+(x.Bits.length:Int))) ?_
 refine n3 ?_
 exact EY (.inl rfl) (vi (k+(x.Bits.length:Int))) rfl rfl ⟨cA (Value.int .i64) (by simp only [DE] <;> omega),(((Ch.refl (MS [(a,x.Bits.length)]) d).comp e (fun _ _ h=>h.elim)).comp s (fun _ _ h=>Gg [] [] h)),t⟩

theorem Mj (f:World) (a:Option Addr) (d:Nat) (b:Option Addr) (e:Nat) (x:PEp) (k:Int) (K:0≤k) (L:k≤8700000000000000000) (w:x.Key.length≤1073741824) (y:Rd f 1 (.slice a x.Key.length d) x.Key.length (x.Key.map bV)) (p:Wp f 5 a x.Key.length d (x.Key.map bV)) (A:x.Win.Bits.length≤1073741824) (B:Rd f 1 (.slice b x.Win.Bits.length e) x.Win.Bits.length (x.Win.Bits.map iV)) (C:Wp f 3 b x.Win.Bits.length e (x.Win.Bits.map iV)) (ap:Aps [(a,d),(b,e)]) :
    Fn Tryz.prog 49 #[(va (Dd x a d b e)),.int .i64 k] f (fun v j=>v=.int .i64 (k+CX x)∧Ch (MS [(a,x.Key.length),(b,x.Win.Bits.length)]) f j∧Rd j 1 (.slice a x.Key.length d) x.Key.length ((marksB k x.Key.length).map bV)∧Rd j 1 (.slice b x.Win.Bits.length e) x.Win.Bits.length ((DT (k+(x.Key.length:Int)) x.Win.Bits.length).map iV)):=by
 refine Kb (n:=14) (l:=[(va (Dd x a d b e)),(vi k),U,U,U,U,U,U,U,U,U,U,U,U]) Tryz.func49 rfl rfl (by kernel_rfl) rfl ?_
 refine sr ?_
 refine bx (Dd x a d b e) wN ?_
 intro q r D M g s
 refine aw (vi 0) ?_
 refine nx ?_
 refine pu (vp q 1) wN ?_
 refine ld (vs a x.Key.length d) wN BT s ?_
 refine mw (vi k) ?_
 have m:=(y.kp g)
 have E:Wp r 5 a x.Key.length d _ 1:=(Wp.kp p g)
 refine cl wN (Ed r a d x.Key k (by omega) (by omega) w m E) ?_
 rintro _ t ⟨rfl,i,F⟩
 refine aw (vi (k+(x.Key.length:Int))) ?_
 refine nx ?_
 refine pu (vp q 3) wN ?_
 have G:=(s.ch i (JR (Eh (fun hn x hx hb=>by have:=Wp.lt p hn x hx;have:=nT (Nat.le_refl f.heap.size) D;omega) Fb)))
 refine lN (DW x.Win b e) wN CM Cj G ?_
 refine mw (vi (k+(x.Key.length:Int))) ?_
 have o:=(Rd.ms (l:=[(a,x.Key.length,d)]) (B.kp g) rfl i (Cf (Cg m) (ap.1.1) CH))
 have H:Wp t 3 b x.Win.Bits.length e _ 1:=(Wp.ms (l:=[(a,x.Key.length,d)]) (Wp.kp C g) (Cg o) rfl i (Cf (Cg m) (ap.1.1) CH))
 refine cl wN (Oa t b e x.Win (k+(x.Key.length:Int)) (by omega) (by omega) A o H ⟨trivial,trivial⟩) ?_
 rintro _ N ⟨rfl,u,I⟩
 refine aw (vi ((k+(x.Key.length:Int))+DE x.Win)) ?_
 refine nx ?_
 refine mw (vi ((k+(x.Key.length:Int))+DE x.Win)) ?_
 refine aw (vi ((k+(x.Key.length:Int))+DE x.Win)) ?_
 refine n3 ?_
 have J:=(Rd.ms (l:=[(b,x.Win.Bits.length,e)]) F rfl u (Cf (Cg o) (ap.1.1).symm CH))
 exact EY (.inl rfl) (vi ((k+(x.Key.length:Int))+DE x.Win)) rfl rfl ⟨cA (Value.int .i64) (by simp only [CX] <;> omega),((((Ch.refl (MS [(a,x.Key.length),(b,x.Win.Bits.length)]) f).comp g (fun _ _ h=>h.elim)).comp i (fun _ _ h=>Gg [] [(b,x.Win.Bits.length)] h)).comp u (fun _ _ h=>Gg [(a,x.Key.length)] [] h)),J,I⟩

theorem Jx (e:World) (a:Option Addr) (f:Nat) (b:Option Addr) (m:Nat) (d:Option Addr) (o:Nat) (g:Option Addr) (p:Nat) (i:Option Addr) (q:Nat) (j:Option Addr) (r:Nat) (x:PChan) (k:Int) (a8:0≤k) (a9:k≤8600000000000000000) (W:x.Sn.length≤1073741824) (X:Rd e 1 (.slice a x.Sn.length f) x.Sn.length (x.Sn.map bV)) (L:Wp e 5 a x.Sn.length f (x.Sn.map bV)) (Y:x.Cur.Key.length≤1073741824) (Z:Rd e 1 (.slice b x.Cur.Key.length m) x.Cur.Key.length (x.Cur.Key.map bV)) (M:Wp e 5 b x.Cur.Key.length m (x.Cur.Key.map bV)) (aa:x.Cur.Win.Bits.length≤1073741824) (ab:Rd e 1 (.slice d x.Cur.Win.Bits.length o) x.Cur.Win.Bits.length (x.Cur.Win.Bits.map iV)) (N:Wp e 3 d x.Cur.Win.Bits.length o (x.Cur.Win.Bits.map iV)) (ac:x.Old.Key.length≤1073741824) (ad:Rd e 1 (.slice g x.Old.Key.length p) x.Old.Key.length (x.Old.Key.map bV)) (O:Wp e 5 g x.Old.Key.length p (x.Old.Key.map bV)) (ae:x.Old.Win.Bits.length≤1073741824) (af:Rd e 1 (.slice i x.Old.Win.Bits.length q) x.Old.Win.Bits.length (x.Old.Win.Bits.map iV)) (P:Wp e 3 i x.Old.Win.Bits.length q (x.Old.Win.Bits.map iV)) (ah:x.Next.length≤1073741824) (ai:Rd e 1 (.slice j x.Next.length r) x.Next.length (x.Next.map bV)) (aj:Wp e 5 j x.Next.length r (x.Next.map bV)) (ap:Aps [(a,f),(b,m),(d,o),(g,p),(i,q),(j,r)]) :
    Fn Tryz.prog 15 #[(va (Dv x a f b m d o g p i q j r)),.int .i64 k] e (fun v E=>v=.int .i64 (k+tot_PChan x)∧Ch (MS [(a,x.Sn.length),(b,x.Cur.Key.length),(d,x.Cur.Win.Bits.length),(g,x.Old.Key.length),(i,x.Old.Win.Bits.length),(j,x.Next.length)]) e E∧Rd E 1 (.slice a x.Sn.length f) x.Sn.length ((marksB k x.Sn.length).map bV)∧Rd E 1 (.slice b x.Cur.Key.length m) x.Cur.Key.length ((marksB (k+(x.Sn.length:Int)) x.Cur.Key.length).map bV)∧Rd E 1 (.slice d x.Cur.Win.Bits.length o) x.Cur.Win.Bits.length ((DT ((k+(x.Sn.length:Int))+(x.Cur.Key.length:Int)) x.Cur.Win.Bits.length).map iV)∧Rd E 1 (.slice g x.Old.Key.length p) x.Old.Key.length ((marksB ((k+(x.Sn.length:Int))+CX x.Cur) x.Old.Key.length).map bV)∧Rd E 1 (.slice i x.Old.Win.Bits.length q) x.Old.Win.Bits.length ((DT (((k+(x.Sn.length:Int))+CX x.Cur)+(x.Old.Key.length:Int)) x.Old.Win.Bits.length).map iV)∧Rd E 1 (.slice j x.Next.length r) x.Next.length ((marksB (((k+(x.Sn.length:Int))+CX x.Cur)+CX x.Old) x.Next.length).map bV)):=by
 refine Kb (n:=22) (l:=[(va (Dv x a f b m d o g p i q j r)),(vi k),U,U,U,U,U,U,U,U,U,U,U,U,U,U,U,U,U,U,U,U]) Tryz.func15 rfl rfl (by kernel_rfl) rfl ?_
 refine sr ?_
 refine bx (Dv x a f b m d o g p i q j r) wN ?_
 intro I Q H aA s R
 refine aw (vi 0) ?_
 refine nx ?_
 refine pu (vp I 1) wN ?_
 refine ld (vs a x.Sn.length f) wN BT R ?_
 refine mw (vi k) ?_
 have u:=(X.kp s)
 have ak:Wp Q 5 a x.Sn.length f _ 1:=(Wp.kp L s)
 refine cl wN (Ed Q a f x.Sn k (by omega) (by omega) W u ak) ?_
 rintro _ J ⟨rfl,t,am⟩
 refine aw (vi (k+(x.Sn.length:Int))) ?_
 refine nx ?_
 refine pu (vp I 2) wN ?_
 have S:=(R.ch t (JR (Eh (fun hn x hx hb=>by have:=Wp.lt L hn x hx;have:=nT (Nat.le_refl e.heap.size) H;omega) Fb)))
 refine lN (Dd x.Cur b m d o) wN Cs BW S ?_
 refine mw (vi (k+(x.Sn.length:Int))) ?_
 have w:=(Rd.ms (l:=[(a,x.Sn.length,f)]) (Z.kp s) rfl t (Cf (Cg u) (ap.1.1) CH))
 have y:=(Rd.ms (l:=[(a,x.Sn.length,f)]) (ab.kp s) rfl t (Cf (Cg u) (ap.1.2.1) CH))
 have an:Wp J 5 b x.Cur.Key.length m _ 1:=(Wp.ms (l:=[(a,x.Sn.length,f)]) (Wp.kp M s) (Cg w) rfl t (Cf (Cg u) (ap.1.1) CH))
 have ao:Wp J 3 d x.Cur.Win.Bits.length o _ 1:=(Wp.ms (l:=[(a,x.Sn.length,f)]) (Wp.kp N s) (Cg y) rfl t (Cf (Cg u) (ap.1.2.1) CH))
 refine cl wN (Mj J b m d o x.Cur (k+(x.Sn.length:Int)) (by omega) (by omega) Y w an aa y ao ⟨⟨(ap.2.1.1),trivial⟩,⟨trivial,trivial⟩⟩) ?_
 rintro _ K ⟨rfl,A,aq,au⟩
 refine aw (vi ((k+(x.Sn.length:Int))+CX x.Cur)) ?_
 refine nx ?_
 refine pu (vp I 7) wN ?_
 have T:=(S.ch A (JR (Eh (fun hn x hx hb=>by have:=Wp.lt M hn x hx;have:=nT (Nat.le_refl e.heap.size) H;omega) (Eh (fun hn x hx hb=>by have:=Wp.lt N hn x hx;have:=nT (Nat.le_refl e.heap.size) H;omega) Fb))))
 refine lN (Dd x.Old g p i q) wN Cs BW T ?_
 refine mw (vi ((k+(x.Sn.length:Int))+CX x.Cur)) ?_
 have C:=(Rd.ms (l:=[(b,x.Cur.Key.length,m),(d,x.Cur.Win.Bits.length,o)]) (Rd.ms (l:=[(a,x.Sn.length,f)]) (ad.kp s) rfl t (Cf (Cg u) (ap.1.2.2.1) CH)) rfl A (Cf (Cg w) (ap.2.1.2.1) (Cf (Cg y) (ap.2.2.1.1) CH)))
 have D:=(Rd.ms (l:=[(b,x.Cur.Key.length,m),(d,x.Cur.Win.Bits.length,o)]) (Rd.ms (l:=[(a,x.Sn.length,f)]) (af.kp s) rfl t (Cf (Cg u) (ap.1.2.2.2.1) CH)) rfl A (Cf (Cg w) (ap.2.1.2.2.1) (Cf (Cg y) (ap.2.2.1.2.1) CH)))
 have av:Wp K 5 g x.Old.Key.length p _ 1:=(Wp.ms (l:=[(b,x.Cur.Key.length,m),(d,x.Cur.Win.Bits.length,o)]) (Wp.ms (l:=[(a,x.Sn.length,f)]) (Wp.kp O s) (Cg C) rfl t (Cf (Cg u) (ap.1.2.2.1) CH)) (Cg C) rfl A (Cf (Cg w) (ap.2.1.2.1) (Cf (Cg y) (ap.2.2.1.1) CH)))
 have ax:Wp K 3 i x.Old.Win.Bits.length q _ 1:=(Wp.ms (l:=[(b,x.Cur.Key.length,m),(d,x.Cur.Win.Bits.length,o)]) (Wp.ms (l:=[(a,x.Sn.length,f)]) (Wp.kp P s) (Cg D) rfl t (Cf (Cg u) (ap.1.2.2.2.1) CH)) (Cg D) rfl A (Cf (Cg w) (ap.2.1.2.2.1) (Cf (Cg y) (ap.2.2.1.2.1) CH)))
 refine cl wN (Mj K g p i q x.Old ((k+(x.Sn.length:Int))+CX x.Cur) (by simp only [CX,DE];omega) (by simp only [CX,DE];omega) ac C av ae D ax ⟨⟨(ap.2.2.2.1.1),trivial⟩,⟨trivial,trivial⟩⟩) ?_
 rintro _ V ⟨rfl,F,ay,az⟩
 refine aw (vi (((k+(x.Sn.length:Int))+CX x.Cur)+CX x.Old)) ?_
 refine nx ?_
 refine pu (vp I 14) wN ?_
 have a0:=(T.ch F (JR (Eh (fun hn x hx hb=>by have:=Wp.lt O hn x hx;have:=nT (Nat.le_refl e.heap.size) H;omega) (Eh (fun hn x hx hb=>by have:=Wp.lt P hn x hx;have:=nT (Nat.le_refl e.heap.size) H;omega) Fb))))
 refine ld (vs j x.Next.length r) wN BT a0 ?_
 refine mw (vi (((k+(x.Sn.length:Int))+CX x.Cur)+CX x.Old)) ?_
 have B:=(Rd.ms (l:=[(g,x.Old.Key.length,p),(i,x.Old.Win.Bits.length,q)]) (Rd.ms (l:=[(b,x.Cur.Key.length,m),(d,x.Cur.Win.Bits.length,o)]) (Rd.ms (l:=[(a,x.Sn.length,f)]) (ai.kp s) rfl t (Cf (Cg u) (ap.1.2.2.2.2.1) CH)) rfl A (Cf (Cg w) (ap.2.1.2.2.2.1) (Cf (Cg y) (ap.2.2.1.2.2.1) CH))) rfl F (Cf (Cg C) (ap.2.2.2.1.2.1) (Cf (Cg D) (ap.2.2.2.2.1.1) CH)))
 have a1:Wp V 5 j x.Next.length r _ 1:=(Wp.ms (l:=[(g,x.Old.Key.length,p),(i,x.Old.Win.Bits.length,q)]) (Wp.ms (l:=[(b,x.Cur.Key.length,m),(d,x.Cur.Win.Bits.length,o)]) (Wp.ms (l:=[(a,x.Sn.length,f)]) (Wp.kp aj s) (Cg B) rfl t (Cf (Cg u) (ap.1.2.2.2.2.1) CH)) (Cg B) rfl A (Cf (Cg w) (ap.2.1.2.2.2.1) (Cf (Cg y) (ap.2.2.1.2.2.1) CH))) (Cg B) rfl F (Cf (Cg C) (ap.2.2.2.1.2.1) (Cf (Cg D) (ap.2.2.2.2.1.1) CH)))
 refine cl wN (Ed V j r x.Next (((k+(x.Sn.length:Int))+CX x.Cur)+CX x.Old) (by simp only [CX,DE];omega) (by simp only [CX,DE];omega) ah B a1) ?_
 rintro _ aB ⟨rfl,G,a2⟩
 refine aw (vi ((((k+(x.Sn.length:Int))+CX x.Cur)+CX x.Old)+(x.Next.length:Int))) ?_
 refine nx ?_
 refine mw (vi ((((k+(x.Sn.length:Int))+CX x.Cur)+CX x.Old)+(x.Next.length:Int))) ?_
 refine aw (vi ((((k+(x.Sn.length:Int))+CX x.Cur)+CX x.Old)+(x.Next.length:Int))) ?_
 refine n3 ?_
 have a3:=(Rd.ms (l:=[(j,x.Next.length,r)]) (Rd.ms (l:=[(g,x.Old.Key.length,p),(i,x.Old.Win.Bits.length,q)]) (Rd.ms (l:=[(b,x.Cur.Key.length,m),(d,x.Cur.Win.Bits.length,o)]) am rfl A (Cf (Cg w) (ap.1.1).symm (Cf (Cg y) (ap.1.2.1).symm CH))) rfl F (Cf (Cg C) (ap.1.2.2.1).symm (Cf (Cg D) (ap.1.2.2.2.1).symm CH))) rfl G (Cf (Cg B) (ap.1.2.2.2.2.1).symm CH))
 have a4:=(Rd.ms (l:=[(j,x.Next.length,r)]) (Rd.ms (l:=[(g,x.Old.Key.length,p),(i,x.Old.Win.Bits.length,q)]) aq rfl F (Cf (Cg C) (ap.2.1.2.1).symm (Cf (Cg D) (ap.2.1.2.2.1).symm CH))) rfl G (Cf (Cg B) (ap.2.1.2.2.2.1).symm CH))
 have a5:=(Rd.ms (l:=[(j,x.Next.length,r)]) (Rd.ms (l:=[(g,x.Old.Key.length,p),(i,x.Old.Win.Bits.length,q)]) au rfl F (Cf (Cg C) (ap.2.2.1.1).symm (Cf (Cg D) (ap.2.2.1.2.1).symm CH))) rfl G (Cf (Cg B) (ap.2.2.1.2.2.1).symm CH))
 have a6:=(Rd.ms (l:=[(j,x.Next.length,r)]) ay rfl G (Cf (Cg B) (ap.2.2.2.1.2.1).symm CH))
 have a7:=(Rd.ms (l:=[(j,x.Next.length,r)]) az rfl G (Cf (Cg B) (ap.2.2.2.2.1.1).symm CH))
 exact EY (.inl rfl) (vi ((((k+(x.Sn.length:Int))+CX x.Cur)+CX x.Old)+(x.Next.length:Int))) rfl rfl ⟨cA (Value.int .i64) (by simp only [tot_PChan] <;> omega),((((((Ch.refl (MS [(a,x.Sn.length),(b,x.Cur.Key.length),(d,x.Cur.Win.Bits.length),(g,x.Old.Key.length),(i,x.Old.Win.Bits.length),(j,x.Next.length)]) e).comp s (fun _ _ h=>h.elim)).comp t (fun _ _ h=>Gg [] [(b,x.Cur.Key.length),(d,x.Cur.Win.Bits.length),(g,x.Old.Key.length),(i,x.Old.Win.Bits.length),(j,x.Next.length)] h)).comp A (fun _ _ h=>Gg [(a,x.Sn.length)] [(g,x.Old.Key.length),(i,x.Old.Win.Bits.length),(j,x.Next.length)] h)).comp F (fun _ _ h=>Gg [(a,x.Sn.length),(b,x.Cur.Key.length),(d,x.Cur.Win.Bits.length)] [(j,x.Next.length)] h)).comp G (fun _ _ h=>Gg [(a,x.Sn.length),(b,x.Cur.Key.length),(d,x.Cur.Win.Bits.length),(g,x.Old.Key.length),(i,x.Old.Win.Bits.length)] [] h)),a3,a4,a5,a6,a7,a2⟩

def DL (x:PFrame):Int:=(x.Cn.length:Int)+(x.Sn.length:Int)+(x.Cookie.length:Int)+(x.Proof.length:Int)+(x.Body.length:Int)+(x.Tag.length:Int)
theorem Lx (i:World) (a:Option Addr) (j:Nat) (b:Option Addr) (m:Nat) (d:Option Addr) (o:Nat) (e:Option Addr) (p:Nat) (f:Option Addr) (q:Nat) (g:Option Addr) (r:Nat) (x:PFrame) (k:Int) (aE:0≤k) (aF:k≤8800000000000000000) (ac:x.Cn.length≤1073741824) (ad:Rd i 1 (.slice a x.Cn.length j) x.Cn.length (x.Cn.map bV)) (L:Wp i 5 a x.Cn.length j (x.Cn.map bV)) (ae:x.Sn.length≤1073741824) (af:Rd i 1 (.slice b x.Sn.length m) x.Sn.length (x.Sn.map bV)) (M:Wp i 5 b x.Sn.length m (x.Sn.map bV)) (ah:x.Cookie.length≤1073741824) (ai:Rd i 1 (.slice d x.Cookie.length o) x.Cookie.length (x.Cookie.map bV)) (N:Wp i 5 d x.Cookie.length o (x.Cookie.map bV)) (aj:x.Proof.length≤1073741824) (ak:Rd i 1 (.slice e x.Proof.length p) x.Proof.length (x.Proof.map bV)) (O:Wp i 5 e x.Proof.length p (x.Proof.map bV)) (am:x.Body.length≤1073741824) (an:Rd i 1 (.slice f x.Body.length q) x.Body.length (x.Body.map bV)) (P:Wp i 5 f x.Body.length q (x.Body.map bV)) (ao:x.Tag.length≤1073741824) (aq:Rd i 1 (.slice g x.Tag.length r) x.Tag.length (x.Tag.map bV)) (au:Wp i 5 g x.Tag.length r (x.Tag.map bV)) (ap:Aps [(a,j),(b,m),(d,o),(e,p),(f,q),(g,r)]) :
    Fn Tryz.prog 16 #[(va (EB x a j b m d o e p f q g r)),.int .i64 k] i (fun v H=>v=.int .i64 (k+DL x)∧Ch (MS [(a,x.Cn.length),(b,x.Sn.length),(d,x.Cookie.length),(e,x.Proof.length),(f,x.Body.length),(g,x.Tag.length)]) i H∧Rd H 1 (.slice a x.Cn.length j) x.Cn.length ((marksB k x.Cn.length).map bV)∧Rd H 1 (.slice b x.Sn.length m) x.Sn.length ((marksB (k+(x.Cn.length:Int)) x.Sn.length).map bV)∧Rd H 1 (.slice d x.Cookie.length o) x.Cookie.length ((marksB ((k+(x.Cn.length:Int))+(x.Sn.length:Int)) x.Cookie.length).map bV)∧Rd H 1 (.slice e x.Proof.length p) x.Proof.length ((marksB (((k+(x.Cn.length:Int))+(x.Sn.length:Int))+(x.Cookie.length:Int)) x.Proof.length).map bV)∧Rd H 1 (.slice f x.Body.length q) x.Body.length ((marksB ((((k+(x.Cn.length:Int))+(x.Sn.length:Int))+(x.Cookie.length:Int))+(x.Proof.length:Int)) x.Body.length).map bV)∧Rd H 1 (.slice g x.Tag.length r) x.Tag.length ((marksB (((((k+(x.Cn.length:Int))+(x.Sn.length:Int))+(x.Cookie.length:Int))+(x.Proof.length:Int))+(x.Body.length:Int)) x.Tag.length).map bV)):=by
 refine Kb (n:=30) (l:=[(va (EB x a j b m d o e p f q g r)),(vi k),U,U,U,U,U,U,U,U,U,U,U,U,U,U,U,U,U,U,U,U,U,U,U,U,U,U,U,U]) Tryz.func16 rfl rfl (by kernel_rfl) rfl ?_
 refine sr ?_
 refine bx (EB x a j b m d o e p f q g r) wN ?_
 intro I Q K aG s R
 refine aw (vi 0) ?_
 refine nx ?_
 refine pu (vp I 2) wN ?_
 refine ld (vs a x.Cn.length j) wN BT R ?_
 refine mw (vi k) ?_
 have u:=(ad.kp s)
 have av:Wp Q 5 a x.Cn.length j _ 1:=(Wp.kp L s)
 refine cl wN (Ed Q a j x.Cn k (by omega) (by omega) ac u av) ?_
 rintro _ S ⟨rfl,t,ax⟩
 refine aw (vi (k+(x.Cn.length:Int))) ?_
 refine nx ?_
 refine pu (vp I 3) wN ?_
 have T:=(R.ch t (JR (Eh (fun hn x hx hb=>by have:=Wp.lt L hn x hx;have:=nT (Nat.le_refl i.heap.size) K;omega) Fb)))
 refine ld (vs b x.Sn.length m) wN BT T ?_
 refine mw (vi (k+(x.Cn.length:Int))) ?_
 have w:=(Rd.ms (l:=[(a,x.Cn.length,j)]) (af.kp s) rfl t (Cf (Cg u) (ap.1.1) CH))
 have ay:Wp S 5 b x.Sn.length m _ 1:=(Wp.ms (l:=[(a,x.Cn.length,j)]) (Wp.kp M s) (Cg w) rfl t (Cf (Cg u) (ap.1.1) CH))
 refine cl wN (Ed S b m x.Sn (k+(x.Cn.length:Int)) (by omega) (by omega) ae w ay) ?_
 rintro _ V ⟨rfl,y,az⟩
 refine aw (vi ((k+(x.Cn.length:Int))+(x.Sn.length:Int))) ?_
 refine nx ?_
 refine pu (vp I 5) wN ?_
 have W:=(T.ch y (JR (Eh (fun hn x hx hb=>by have:=Wp.lt M hn x hx;have:=nT (Nat.le_refl i.heap.size) K;omega) Fb)))
 refine ld (vs d x.Cookie.length o) wN BT W ?_
 refine mw (vi ((k+(x.Cn.length:Int))+(x.Sn.length:Int))) ?_
 have A:=(Rd.ms (l:=[(b,x.Sn.length,m)]) (Rd.ms (l:=[(a,x.Cn.length,j)]) (ai.kp s) rfl t (Cf (Cg u) (ap.1.2.1) CH)) rfl y (Cf (Cg w) (ap.2.1.1) CH))
 have a0:Wp V 5 d x.Cookie.length o _ 1:=(Wp.ms (l:=[(b,x.Sn.length,m)]) (Wp.ms (l:=[(a,x.Cn.length,j)]) (Wp.kp N s) (Cg A) rfl t (Cf (Cg u) (ap.1.2.1) CH)) (Cg A) rfl y (Cf (Cg w) (ap.2.1.1) CH))
 refine cl wN (Ed V d o x.Cookie ((k+(x.Cn.length:Int))+(x.Sn.length:Int)) (by omega) (by omega) ah A a0) ?_
 rintro _ X ⟨rfl,E,a1⟩
 refine aw (vi (((k+(x.Cn.length:Int))+(x.Sn.length:Int))+(x.Cookie.length:Int))) ?_
 refine nx ?_
 refine pu (vp I 6) wN ?_
 have Y:=(W.ch E (JR (Eh (fun hn x hx hb=>by have:=Wp.lt N hn x hx;have:=nT (Nat.le_refl i.heap.size) K;omega) Fb)))
 refine ld (vs e x.Proof.length p) wN BT Y ?_
 refine mw (vi (((k+(x.Cn.length:Int))+(x.Sn.length:Int))+(x.Cookie.length:Int))) ?_
 have B:=(Rd.ms (l:=[(d,x.Cookie.length,o)]) (Rd.ms (l:=[(b,x.Sn.length,m)]) (Rd.ms (l:=[(a,x.Cn.length,j)]) (ak.kp s) rfl t (Cf (Cg u) (ap.1.2.2.1) CH)) rfl y (Cf (Cg w) (ap.2.1.2.1) CH)) rfl E (Cf (Cg A) (ap.2.2.1.1) CH))
 have a2:Wp X 5 e x.Proof.length p _ 1:=(Wp.ms (l:=[(d,x.Cookie.length,o)]) (Wp.ms (l:=[(b,x.Sn.length,m)]) (Wp.ms (l:=[(a,x.Cn.length,j)]) (Wp.kp O s) (Cg B) rfl t (Cf (Cg u) (ap.1.2.2.1) CH)) (Cg B) rfl y (Cf (Cg w) (ap.2.1.2.1) CH)) (Cg B) rfl E (Cf (Cg A) (ap.2.2.1.1) CH))
 refine cl wN (Ed X e p x.Proof (((k+(x.Cn.length:Int))+(x.Sn.length:Int))+(x.Cookie.length:Int)) (by omega) (by omega) aj B a2) ?_
 rintro _ Z ⟨rfl,F,a3⟩
 refine aw (vi ((((k+(x.Cn.length:Int))+(x.Sn.length:Int))+(x.Cookie.length:Int))+(x.Proof.length:Int))) ?_
 refine nx ?_
 refine pu (vp I 9) wN ?_
 have aa:=(Y.ch F (JR (Eh (fun hn x hx hb=>by have:=Wp.lt O hn x hx;have:=nT (Nat.le_refl i.heap.size) K;omega) Fb)))
 refine ld (vs f x.Body.length q) wN BT aa ?_
 refine mw (vi ((((k+(x.Cn.length:Int))+(x.Sn.length:Int))+(x.Cookie.length:Int))+(x.Proof.length:Int))) ?_
 have C:=(Rd.ms (l:=[(e,x.Proof.length,p)]) (Rd.ms (l:=[(d,x.Cookie.length,o)]) (Rd.ms (l:=[(b,x.Sn.length,m)]) (Rd.ms (l:=[(a,x.Cn.length,j)]) (an.kp s) rfl t (Cf (Cg u) (ap.1.2.2.2.1) CH)) rfl y (Cf (Cg w) (ap.2.1.2.2.1) CH)) rfl E (Cf (Cg A) (ap.2.2.1.2.1) CH)) rfl F (Cf (Cg B) (ap.2.2.2.1.1) CH))
 have a4:Wp Z 5 f x.Body.length q _ 1:=(Wp.ms (l:=[(e,x.Proof.length,p)]) (Wp.ms (l:=[(d,x.Cookie.length,o)]) (Wp.ms (l:=[(b,x.Sn.length,m)]) (Wp.ms (l:=[(a,x.Cn.length,j)]) (Wp.kp P s) (Cg C) rfl t (Cf (Cg u) (ap.1.2.2.2.1) CH)) (Cg C) rfl y (Cf (Cg w) (ap.2.1.2.2.1) CH)) (Cg C) rfl E (Cf (Cg A) (ap.2.2.1.2.1) CH)) (Cg C) rfl F (Cf (Cg B) (ap.2.2.2.1.1) CH))
 refine cl wN (Ed Z f q x.Body ((((k+(x.Cn.length:Int))+(x.Sn.length:Int))+(x.Cookie.length:Int))+(x.Proof.length:Int)) (by omega) (by omega) am C a4) ?_
 rintro _ ab ⟨rfl,G,a5⟩
 refine aw (vi (((((k+(x.Cn.length:Int))+(x.Sn.length:Int))+(x.Cookie.length:Int))+(x.Proof.length:Int))+(x.Body.length:Int))) ?_
 refine nx ?_
 refine pu (vp I 10) wN ?_
 have a6:=(aa.ch G (JR (Eh (fun hn x hx hb=>by have:=Wp.lt P hn x hx;have:=nT (Nat.le_refl i.heap.size) K;omega) Fb)))
 refine ld (vs g x.Tag.length r) wN BT a6 ?_
 refine mw (vi (((((k+(x.Cn.length:Int))+(x.Sn.length:Int))+(x.Cookie.length:Int))+(x.Proof.length:Int))+(x.Body.length:Int))) ?_
 have D:=(Rd.ms (l:=[(f,x.Body.length,q)]) (Rd.ms (l:=[(e,x.Proof.length,p)]) (Rd.ms (l:=[(d,x.Cookie.length,o)]) (Rd.ms (l:=[(b,x.Sn.length,m)]) (Rd.ms (l:=[(a,x.Cn.length,j)]) (aq.kp s) rfl t (Cf (Cg u) (ap.1.2.2.2.2.1) CH)) rfl y (Cf (Cg w) (ap.2.1.2.2.2.1) CH)) rfl E (Cf (Cg A) (ap.2.2.1.2.2.1) CH)) rfl F (Cf (Cg B) (ap.2.2.2.1.2.1) CH)) rfl G (Cf (Cg C) (ap.2.2.2.2.1.1) CH))
 have a7:Wp ab 5 g x.Tag.length r _ 1:=(Wp.ms (l:=[(f,x.Body.length,q)]) (Wp.ms (l:=[(e,x.Proof.length,p)]) (Wp.ms (l:=[(d,x.Cookie.length,o)]) (Wp.ms (l:=[(b,x.Sn.length,m)]) (Wp.ms (l:=[(a,x.Cn.length,j)]) (Wp.kp au s) (Cg D) rfl t (Cf (Cg u) (ap.1.2.2.2.2.1) CH)) (Cg D) rfl y (Cf (Cg w) (ap.2.1.2.2.2.1) CH)) (Cg D) rfl E (Cf (Cg A) (ap.2.2.1.2.2.1) CH)) (Cg D) rfl F (Cf (Cg B) (ap.2.2.2.1.2.1) CH)) (Cg D) rfl G (Cf (Cg C) (ap.2.2.2.2.1.1) CH))
 refine cl wN (Ed ab g r x.Tag (((((k+(x.Cn.length:Int))+(x.Sn.length:Int))+(x.Cookie.length:Int))+(x.Proof.length:Int))+(x.Body.length:Int)) (by omega) (by omega) ao D a7) ?_
 rintro _ aH ⟨rfl,J,a8⟩
 refine aw (vi ((((((k+(x.Cn.length:Int))+(x.Sn.length:Int))+(x.Cookie.length:Int))+(x.Proof.length:Int))+(x.Body.length:Int))+(x.Tag.length:Int))) ?_
 refine nx ?_
 refine mw (vi ((((((k+(x.Cn.length:Int))+(x.Sn.length:Int))+(x.Cookie.length:Int))+(x.Proof.length:Int))+(x.Body.length:Int))+(x.Tag.length:Int))) ?_
 refine aw (vi ((((((k+(x.Cn.length:Int))+(x.Sn.length:Int))+(x.Cookie.length:Int))+(x.Proof.length:Int))+(x.Body.length:Int))+(x.Tag.length:Int))) ?_
 refine n3 ?_
 have a9:=(Rd.ms (l:=[(g,x.Tag.length,r)]) (Rd.ms (l:=[(f,x.Body.length,q)]) (Rd.ms (l:=[(e,x.Proof.length,p)]) (Rd.ms (l:=[(d,x.Cookie.length,o)]) (Rd.ms (l:=[(b,x.Sn.length,m)]) ax rfl y (Cf (Cg w) (ap.1.1).symm CH)) rfl E (Cf (Cg A) (ap.1.2.1).symm CH)) rfl F (Cf (Cg B) (ap.1.2.2.1).symm CH)) rfl G (Cf (Cg C) (ap.1.2.2.2.1).symm CH)) rfl J (Cf (Cg D) (ap.1.2.2.2.2.1).symm CH))
 have aA:=(Rd.ms (l:=[(g,x.Tag.length,r)]) (Rd.ms (l:=[(f,x.Body.length,q)]) (Rd.ms (l:=[(e,x.Proof.length,p)]) (Rd.ms (l:=[(d,x.Cookie.length,o)]) az rfl E (Cf (Cg A) (ap.2.1.1).symm CH)) rfl F (Cf (Cg B) (ap.2.1.2.1).symm CH)) rfl G (Cf (Cg C) (ap.2.1.2.2.1).symm CH)) rfl J (Cf (Cg D) (ap.2.1.2.2.2.1).symm CH))
 have aB:=(Rd.ms (l:=[(g,x.Tag.length,r)]) (Rd.ms (l:=[(f,x.Body.length,q)]) (Rd.ms (l:=[(e,x.Proof.length,p)]) a1 rfl F (Cf (Cg B) (ap.2.2.1.1).symm CH)) rfl G (Cf (Cg C) (ap.2.2.1.2.1).symm CH)) rfl J (Cf (Cg D) (ap.2.2.1.2.2.1).symm CH))
 have aC:=(Rd.ms (l:=[(g,x.Tag.length,r)]) (Rd.ms (l:=[(f,x.Body.length,q)]) a3 rfl G (Cf (Cg C) (ap.2.2.2.1.1).symm CH)) rfl J (Cf (Cg D) (ap.2.2.2.1.2.1).symm CH))
 have aD:=(Rd.ms (l:=[(g,x.Tag.length,r)]) a5 rfl J (Cf (Cg D) (ap.2.2.2.2.1.1).symm CH))
 exact EY (.inl rfl) (vi ((((((k+(x.Cn.length:Int))+(x.Sn.length:Int))+(x.Cookie.length:Int))+(x.Proof.length:Int))+(x.Body.length:Int))+(x.Tag.length:Int))) rfl rfl ⟨cA (Value.int .i64) (by simp only [DL] <;> omega),((((((((Ch.refl (MS [(a,x.Cn.length),(b,x.Sn.length),(d,x.Cookie.length),(e,x.Proof.length),(f,x.Body.length),(g,x.Tag.length)]) i).comp s (fun _ _ h=>h.elim)).comp t (fun _ _ h=>Gg [] [(b,x.Sn.length),(d,x.Cookie.length),(e,x.Proof.length),(f,x.Body.length),(g,x.Tag.length)] h)).comp y (fun _ _ h=>Gg [(a,x.Cn.length)] [(d,x.Cookie.length),(e,x.Proof.length),(f,x.Body.length),(g,x.Tag.length)] h)).comp E (fun _ _ h=>Gg [(a,x.Cn.length),(b,x.Sn.length)] [(e,x.Proof.length),(f,x.Body.length),(g,x.Tag.length)] h)).comp F (fun _ _ h=>Gg [(a,x.Cn.length),(b,x.Sn.length),(d,x.Cookie.length)] [(f,x.Body.length),(g,x.Tag.length)] h)).comp G (fun _ _ h=>Gg [(a,x.Cn.length),(b,x.Sn.length),(d,x.Cookie.length),(e,x.Proof.length)] [(g,x.Tag.length)] h)).comp J (fun _ _ h=>Gg [(a,x.Cn.length),(b,x.Sn.length),(d,x.Cookie.length),(e,x.Proof.length),(f,x.Body.length)] [] h)),a9,aA,aB,aC,aD,a8⟩

theorem Ga (d:World) (o:Value) (b:List UInt8) (q:EP d o b) (a:Int) (y:0≤a) (A:a≤9000000000000000000):Fn Tryz.prog 19 #[o,(vi a)] d (fun v h=>Keep d h∧O_3 h d.heap.size v (heldB b a)):=by
 obtain ⟨e,f,rfl,m,B⟩:=q
 refine Cl (n:=22) [(vs e b.length f),(vi a)] Tryz.func19 rfl rfl ?_
 refine sr ?_
 refine aw (vi 0) ?_
 refine n4 ?_
 refine aw (vi 0) ?_
 refine BU<|re<|Ca ?_
 refine CJ [(0,(vs e b.length f)),(1,(vi (a+((0:Nat):Int)))),(5,(vi ((0:Nat):Int)))] ⟨rfl,(cA (Value.int .i64) (show (a:Int)=(a+((0:Nat):Int)) by omega)),(cA (Value.int .i64) (show (0:Int)=((0:Nat):Int) by omega)),trivial⟩ (fun e' h=>∃ (i:Nat) (p:Env),e'=pt p [(0,(vs e b.length f)),(1,(vi (a+((i:Nat):Int)))),(5,(vi ((i:Nat):Int)))]∧Ch (fun k=>d.heap.size≤k) d h∧Ch (fun k=>d.heap.size≤k) d h∧i≤b.length∧heldB b a=heldB (b.drop i) (a+((i:Nat):Int))) (fun e' _=>b.length - ((intOf (e' 5))).toNat) ?_ ?_
 ·exact fun u=>⟨0,u,rfl,(Ch.base d),(Ch.refl (fun k=>d.heap.size≤k) d),(by omega),(by first|exact Js (by assumption) (by omega) (by assumption)|simp)⟩
 ·rintro _ r ⟨i,p,rfl,g,s,C,D⟩
  refine Cc<|sr ?_
  refine mw (vi ((i:Nat):Int)) ?_
  refine mw (vs e b.length f) ?_
  refine ln wN tD (m.from0 g) ?_
  refine pu (vb (decide (((i:Nat):Int) < (b.length:Int)))) wN ?_
  refine n2 ?_
  rcases bf (decide (((i:Nat):Int) < (b.length:Int))) with j|j
  ·have E:=dF j
   refine cf j ?_
   refine CS<|wb<|wb<|Ce<|re<|sr ?_
   refine mw (vi (a+((i:Nat):Int))) ?_
   refine aw (vi (a+((i:Nat):Int))) ?_
   refine n3 ?_
   refine rt (vi (a+((i:Nat):Int))) ?_
   refine ⟨g.keep0,?_⟩
   have t:heldB b a=(a+((i:Nat):Int)):=by first|exact Ma (by assumption) (by omega) (by assumption)|exact KM (by assumption) (by omega)
   rw [t]
   exact rfl
  have F:=dT j
  refine ct j ?_
  refine Ct<|re<|Cc<|Ca<|Cc<|sr ?_
  refine mw (vs e b.length f) ?_
  refine mw (vi ((i:Nat):Int)) ?_
  refine ix wN ((i:Nat):Int) tD (m.from0 g) ?_
  refine eb (x:=b) i wN EF (m.from0 g) ?_
  refine mw (vi (a+((i:Nat):Int))) ?_
  refine Gd (a+((i:Nat):Int)) wN rfl rfl (by kernel_rfl) ?_
  refine pu (vb (!(decide (((b.getD i 0).toNat:Int)=((by8 (a+((i:Nat):Int))).toNat:Int))))) wN ?_
  refine n2 ?_
  rcases bf (decide (((b.getD i 0).toNat:Int)=((by8 (a+((i:Nat):Int))).toNat:Int))) with l|l
  ·have G:=dF l
   refine ct (cA not l) ?_
   refine sr ?_
   refine aw (vi (-1)) ?_
   refine BU<|re<|DJ<|Cb<|CB<|Cb<|Cb<|CB<|Cb ?_
   refine rt (vi (-1)) ?_
   refine ⟨g.keep0,?_⟩
   have w:heldB b a=(-1):=by first|exact Ma (by assumption) (by omega) (by assumption)|exact KM (by assumption) (by omega)
   rw [w]
   exact rfl
  have H:=dT l
  refine cf (cA not l) ?_
  refine Ct<|re<|BZ ?_
  refine mw (vi (a+((i:Nat):Int))) ?_
  refine ar ((a+((i:Nat):Int))+1) wN ?_
  refine aw (vi ((a+((i:Nat):Int))+1)) ?_
  refine BU<|BS<|re<|BZ ?_
  refine mw (vi ((i:Nat):Int)) ?_
  refine ar (((i:Nat):Int)+1) wN ?_
  refine aw (vi (((i:Nat):Int)+1)) ?_
  refine BU ?_
  refine CI (w0:=r) [(0,(vs e b.length f)),(1,(vi (a+(((i+1):Nat):Int)))),(5,(vi (((i+1):Nat):Int)))] ?_ ?_ ?_
  · exact ⟨rfl,(cA (Value.int .i64) (show (((a+((i:Nat):Int))+1):Int)=(a+(((i+1):Nat):Int)) by omega)),(cA (Value.int .i64) (show ((((i:Nat):Int)+1):Int)=(((i+1):Nat):Int) by omega)),trivial⟩
  · exact fun u=>⟨(i+1),u,rfl,g,((Ch.refl (fun k=>d.heap.size≤k) d).ext s (fun k hk=>hk)),(by omega),(by first|exact Js (by assumption) (by omega) (by assumption)|simp)⟩
  · show b.length - ((((i+1):Nat):Int)).toNat < b.length - (((i:Nat):Int)).toNat;omega

theorem MT (d:World) (o:Value) (b:List Int) (q:Mw d o b) (a:Int) (y:0≤a) (A:a≤9000000000000000000):Fn Tryz.prog 125 #[o,(vi a)] d (fun v h=>Keep d h∧O_3 h d.heap.size v (EH b a)):=by
 obtain ⟨e,f,rfl,m,B⟩:=q
 refine Cl (n:=21) [(vs e b.length f),(vi a)] Tryz.func125 rfl rfl ?_
 refine sr ?_
 refine aw (vi 0) ?_
 refine n4 ?_
 refine aw (vi 0) ?_
 refine BU<|re<|Ca ?_
 refine CJ [(0,(vs e b.length f)),(1,(vi (a+((0:Nat):Int)))),(5,(vi ((0:Nat):Int)))] ⟨rfl,(cA (Value.int .i64) (show (a:Int)=(a+((0:Nat):Int)) by omega)),(cA (Value.int .i64) (show (0:Int)=((0:Nat):Int) by omega)),trivial⟩ (fun e' h=>∃ (i:Nat) (p:Env),e'=pt p [(0,(vs e b.length f)),(1,(vi (a+((i:Nat):Int)))),(5,(vi ((i:Nat):Int)))]∧Ch (fun k=>d.heap.size≤k) d h∧Ch (fun k=>d.heap.size≤k) d h∧i≤b.length∧EH b a=EH (b.drop i) (a+((i:Nat):Int))) (fun e' _=>b.length - ((intOf (e' 5))).toNat) ?_ ?_
 ·exact fun u=>⟨0,u,rfl,(Ch.base d),(Ch.refl (fun k=>d.heap.size≤k) d),(by omega),(by first|exact Jr (by assumption) (by omega) (by assumption)|simp)⟩
 ·rintro _ r ⟨i,p,rfl,g,s,C,D⟩
  refine Cc<|sr ?_
  refine mw (vi ((i:Nat):Int)) ?_
  refine mw (vs e b.length f) ?_
  refine ln wN Cd (m.from0 g) ?_
  refine pu (vb (decide (((i:Nat):Int) < (b.length:Int)))) wN ?_
  refine n2 ?_
  rcases bf (decide (((i:Nat):Int) < (b.length:Int))) with j|j
  ·have E:=dF j
   refine cf j ?_
   refine CS<|wb<|wb<|Ce<|re<|sr ?_
   refine mw (vi (a+((i:Nat):Int))) ?_
   refine aw (vi (a+((i:Nat):Int))) ?_
   refine n3 ?_
   refine rt (vi (a+((i:Nat):Int))) ?_
   refine ⟨g.keep0,?_⟩
   have t:EH b a=(a+((i:Nat):Int)):=by first|exact LZ (by assumption) (by omega) (by assumption)|exact KK (by assumption) (by omega)
   rw [t]
   exact rfl
  have F:=dT j
  refine ct j ?_
  refine Ct<|re<|Cc<|Ca<|Cc<|sr ?_
  refine mw (vs e b.length f) ?_
  refine mw (vi ((i:Nat):Int)) ?_
  refine ix wN ((i:Nat):Int) Cd (m.from0 g) ?_
  refine ei (x:=b) i wN tE (m.from0 g) ?_
  refine mw (vi (a+((i:Nat):Int))) ?_
  refine pu (vb (!(decide ((b.getD i 0)=(a+((i:Nat):Int)))))) wN ?_
  refine n2 ?_
  rcases bf (decide ((b.getD i 0)=(a+((i:Nat):Int)))) with l|l
  ·have G:=dF l
   refine ct (cA not l) ?_
   refine sr ?_
   refine aw (vi (-1)) ?_
   refine BU<|re<|DJ<|Cb<|CB<|Cb<|Cb<|CB<|Cb ?_
   refine rt (vi (-1)) ?_
   refine ⟨g.keep0,?_⟩
   have w:EH b a=(-1):=by first|exact LZ (by assumption) (by omega) (by assumption)|exact KK (by assumption) (by omega)
   rw [w]
   exact rfl
  have H:=dT l
  refine cf (cA not l) ?_
  refine Ct<|re<|BZ ?_
  refine mw (vi (a+((i:Nat):Int))) ?_
  refine ar ((a+((i:Nat):Int))+1) wN ?_
  refine aw (vi ((a+((i:Nat):Int))+1)) ?_
  refine BU<|BS<|re<|BZ ?_
  refine mw (vi ((i:Nat):Int)) ?_
  refine ar (((i:Nat):Int)+1) wN ?_
  refine aw (vi (((i:Nat):Int)+1)) ?_
  refine BU ?_
  refine CI (w0:=r) [(0,(vs e b.length f)),(1,(vi (a+(((i+1):Nat):Int)))),(5,(vi (((i+1):Nat):Int)))] ?_ ?_ ?_
  · exact ⟨rfl,(cA (Value.int .i64) (show (((a+((i:Nat):Int))+1):Int)=(a+(((i+1):Nat):Int)) by omega)),(cA (Value.int .i64) (show ((((i:Nat):Int)+1):Int)=(((i+1):Nat):Int) by omega)),trivial⟩
  · exact fun u=>⟨(i+1),u,rfl,g,((Ch.refl (fun k=>d.heap.size≤k) d).ext s (fun k hk=>hk)),(by omega),(by first|exact Jr (by assumption) (by omega) (by assumption)|simp)⟩
  · show b.length - ((((i+1):Nat):Int)).toNat < b.length - (((i:Nat):Int)).toNat;omega

def DD (a:PWin) (b:Int):(Int):=bif (decide ((EH a.Bits b) < 0)) then ((-1)) else ((EH a.Bits b))
theorem Ob (e:World) (h:Value) (b:PWin) (l:LD e h b) (a:Int) (u:0≤a) (w:a≤8800000000000000000):Fn Tryz.prog 88 #[h,(vi a)] e (fun v i=>Keep e i∧O_3 i e.heap.size v (DD b a)):=by
 obtain ⟨f,g,rfl,m,o⟩:=l
 refine Cl (n:=12) [(va (DW b f g)),(vi a)] Tryz.func88 rfl rfl ?_
 refine sr ?_
 refine bx (DW b f g) wN ?_
 intro p q x y r s
 have j:=(Ch.base e).extk r
 refine aw (vi 0) ?_
 refine nx ?_
 refine pu (vp p 1) wN ?_
 refine ld (vs f b.Bits.length g) wN Dk s ?_
 refine mw (vi a) ?_
 refine cl wN (MT q _ b.Bits (GY (m.from0 j) o) a (by omega) (by omega)) ?_
 rintro _ A ⟨t,rfl⟩
 have k:=j.extk t
 have B:=JW b.Bits a
 refine aw (vi (EH b.Bits a)) ?_
 refine n4 ?_
 refine mw (vi (EH b.Bits a)) ?_
 refine pu (vb (decide ((EH b.Bits a) < 0))) wN ?_
 refine n2 ?_
 rcases bt (decide ((EH b.Bits a) < 0)) with d|d
 ·have C:=dT d
  refine ct d ?_
  refine sr ?_
  refine aw (vi (-1)) ?_
  refine n1 ?_
  refine rt (vi (-1)) ?_
  refine ⟨k.keep0,?_⟩
  simp only [DD,d,cond_true,cond_false]
  exact rfl
 have D:=dF d
 refine cf d ?_
 refine y1 ?_
 refine mw (vi (EH b.Bits a)) ?_
 refine aw (vi (EH b.Bits a)) ?_
 refine n3 ?_
 refine rt (vi (EH b.Bits a)) ?_
 refine ⟨k.keep0,?_⟩
 simp only [DD,d,cond_true,cond_false]
 exact rfl
theorem FY (x:PWin) (k:Int):DD x k = -1∨DD x k=k+((x.Bits.length:Int)):=by
  have a:=JW x.Bits k
  simp only [DD,cond_eq_ite,decide_eq_true_eq]
  (repeat' split) <;> omega
theorem laws_heldWin_mk (x:PWin) (m k:Int):DD (GK x m) k = -1∨DD (GK x m) k=k+DE x:=by
  have h:=FY (GK x m) k
  simp only [GK,Cq,Cu,DE] at h ⊢
  omega

def CD (a:PEp) (b:Int):(Int):=bif (decide ((heldB a.Key b) < 0)) then ((-1)) else (bif (decide ((DD a.Win (heldB a.Key b)) < 0)) then ((-1)) else ((DD a.Win (heldB a.Key b))))
theorem Mk (f:World) (l:Value) (a:PEp) (t:Lf f l a) (b:Int) (F:0≤b) (G:b≤8700000000000000000):Fn Tryz.prog 50 #[l,(vi b)] f (fun v m=>Keep f m∧O_3 m f.heap.size v (CD a b)):=by
 obtain ⟨g,h,i,j,rfl,u,w,x,y⟩:=t
 refine Cl (n:=18) [(va (Dd a g h i j)),(vi b)] Tryz.func50 rfl rfl ?_
 refine sr ?_
 refine bx (Dd a g h i j) wN ?_
 intro o A H I B p
 have q:=(Ch.base f).extk B
 refine aw (vi 0) ?_
 refine nx ?_
 refine pu (vp o 1) wN ?_
 refine ld (vs g a.Key.length h) wN BT p ?_
 refine mw (vi b) ?_
 refine cl wN (Ga A _ a.Key (CC (u.from0 q) w) b (by omega) (by omega)) ?_
 rintro _ C ⟨r,rfl⟩
 have k:=q.extk r
 have J:=FJ a.Key b
 refine aw (vi (heldB a.Key b)) ?_
 refine n4 ?_
 refine mw (vi (heldB a.Key b)) ?_
 refine pu (vb (decide ((heldB a.Key b) < 0))) wN ?_
 refine n2 ?_
 rcases bt (decide ((heldB a.Key b) < 0)) with d|d
 ·have K:=dT d
  refine ct d ?_
  refine sr ?_
  refine aw (vi (-1)) ?_
  refine n1 ?_
  refine rt (vi (-1)) ?_
  refine ⟨k.keep0,?_⟩
  simp only [CD,d,cond_true,cond_false]
  exact rfl
 have L:=dF d
 refine cf d ?_
 refine y1 ?_
 refine pu (vp o 3) wN ?_
 have D:=(p.kp r)
 refine lN (DW a.Win i j) wN CM Cj D ?_
 refine mw (vi (heldB a.Key b)) ?_
 refine cl wN (Ob C _ a.Win (FX (x.from0 k) y) (heldB a.Key b) (by omega) (by omega)) ?_
 rintro _ M ⟨E,rfl⟩
 have s:=k.extk E
 have N:=FY a.Win (heldB a.Key b)
 refine aw (vi (DD a.Win (heldB a.Key b))) ?_
 refine n4 ?_
 refine mw (vi (DD a.Win (heldB a.Key b))) ?_
 refine pu (vb (decide ((DD a.Win (heldB a.Key b)) < 0))) wN ?_
 refine n2 ?_
 rcases bt (decide ((DD a.Win (heldB a.Key b)) < 0)) with e|e
 ·have O:=dT e
  refine ct e ?_
  refine sr ?_
  refine aw (vi (-1)) ?_
  refine n1 ?_
  refine rt (vi (-1)) ?_
  refine ⟨s.keep0,?_⟩
  simp only [CD,d,e,cond_true,cond_false]
  exact rfl
 have P:=dF e
 refine cf e ?_
 refine y1 ?_
 refine mw (vi (DD a.Win (heldB a.Key b))) ?_
 refine aw (vi (DD a.Win (heldB a.Key b))) ?_
 refine n3 ?_
 refine rt (vi (DD a.Win (heldB a.Key b))) ?_
 refine ⟨s.keep0,?_⟩
 simp only [CD,d,e,cond_true,cond_false]
 exact rfl
theorem ER (x:PEp) (k:Int):CD x k = -1∨CD x k=k+((x.Key.length:Int)+(x.Win.Bits.length:Int)):=by
  have a:=FJ x.Key k
  have b:=FY x.Win (heldB x.Key k)
  simp only [CD,cond_eq_ite,decide_eq_true_eq]
  (repeat' split) <;> omega
theorem laws_heldEp_mk (x:PEp) (m k:Int):CD (Hb x m) k = -1∨CD (Hb x m) k=k+CX x:=by
  have h:=ER (Hb x m) k
  simp only [Hb,Cq,Cu,CX,DE] at h ⊢
  omega

def l_heldChan (a:PChan) (b:Int):(Int):=bif (decide ((heldB a.Sn b) < 0)) then ((-1)) else (bif (decide ((CD a.Cur (heldB a.Sn b)) < 0)) then ((-1)) else (bif (decide ((CD a.Old (CD a.Cur (heldB a.Sn b))) < 0)) then ((-1)) else (bif (decide ((heldB a.Next (CD a.Old (CD a.Cur (heldB a.Sn b)))) < 0)) then ((-1)) else ((heldB a.Next (CD a.Old (CD a.Cur (heldB a.Sn b))))))))
theorem Jy (h:World) (B:Value) (a:PChan) (L:Nc h B a) (b:Int) (ah:0≤b) (ai:b≤8600000000000000000):Fn Tryz.prog 18 #[B,(vi b)] h (fun v C=>Keep h C∧O_3 C h.heap.size v (l_heldChan a b)):=by
 obtain ⟨l,m,o,p,q,r,s,t,u,w,x,y,rfl,M,N,O,P,Q,R,S,T,V,W,X,Y⟩:=L
 refine Cl (n:=30) [(va (Dv a l m o p q r s t u w x y)),(vi b)] Tryz.func18 rfl rfl ?_
 refine sr ?_
 refine bx (Dv a l m o p q r s t u w x y) wN ?_
 intro i Z aj ak aa D
 have E:=(Ch.base h).extk aa
 refine aw (vi 0) ?_
 refine nx ?_
 refine pu (vp i 1) wN ?_
 refine ld (vs l a.Sn.length m) wN BT D ?_
 refine mw (vi b) ?_
 refine cl wN (Ga Z _ a.Sn (CC (M.from0 E) N) b (by omega) (by omega)) ?_
 rintro _ ab ⟨F,rfl⟩
 have j:=E.extk F
 have am:=FJ a.Sn b
 refine aw (vi (heldB a.Sn b)) ?_
 refine n4 ?_
 refine mw (vi (heldB a.Sn b)) ?_
 refine pu (vb (decide ((heldB a.Sn b) < 0))) wN ?_
 refine n2 ?_
 rcases bt (decide ((heldB a.Sn b) < 0)) with d|d
 ·have an:=dT d
  refine ct d ?_
  refine sr ?_
  refine aw (vi (-1)) ?_
  refine n1 ?_
  refine rt (vi (-1)) ?_
  refine ⟨j.keep0,?_⟩
  simp only [l_heldChan,d,cond_true,cond_false]
  exact rfl
 have ao:=dF d
 refine cf d ?_
 refine y1 ?_
 refine pu (vp i 2) wN ?_
 have G:=(D.kp F)
 refine lN (Dd a.Cur o p q r) wN Cs BW G ?_
 refine mw (vi (heldB a.Sn b)) ?_
 refine cl wN (Mk ab _ a.Cur (Fh (O.from0 j) P (Q.from0 j) R) (heldB a.Sn b) (by omega) (by omega)) ?_
 rintro _ ac ⟨H,rfl⟩
 have k:=j.extk H
 have ap:=ER a.Cur (heldB a.Sn b)
 refine aw (vi (CD a.Cur (heldB a.Sn b))) ?_
 refine n4 ?_
 refine mw (vi (CD a.Cur (heldB a.Sn b))) ?_
 refine pu (vb (decide ((CD a.Cur (heldB a.Sn b)) < 0))) wN ?_
 refine n2 ?_
 rcases bt (decide ((CD a.Cur (heldB a.Sn b)) < 0)) with e|e
 ·have aq:=dT e
  refine ct e ?_
  refine sr ?_
  refine aw (vi (-1)) ?_
  refine n1 ?_
  refine rt (vi (-1)) ?_
  refine ⟨k.keep0,?_⟩
  simp only [l_heldChan,d,e,cond_true,cond_false]
  exact rfl
 have au:=dF e
 refine cf e ?_
 refine y1 ?_
 refine pu (vp i 7) wN ?_
 have I:=(G.kp H)
 refine lN (Dd a.Old s t u w) wN Cs BW I ?_
 refine mw (vi (CD a.Cur (heldB a.Sn b))) ?_
 refine cl wN (Mk ac _ a.Old (Fh (S.from0 k) T (V.from0 k) W) (CD a.Cur (heldB a.Sn b)) (by omega) (by omega)) ?_
 rintro _ ad ⟨J,rfl⟩
 have A:=k.extk J
 have av:=ER a.Old (CD a.Cur (heldB a.Sn b))
 refine aw (vi (CD a.Old (CD a.Cur (heldB a.Sn b)))) ?_
 refine n4 ?_
 refine mw (vi (CD a.Old (CD a.Cur (heldB a.Sn b)))) ?_
 refine pu (vb (decide ((CD a.Old (CD a.Cur (heldB a.Sn b))) < 0))) wN ?_
 refine n2 ?_
 rcases bt (decide ((CD a.Old (CD a.Cur (heldB a.Sn b))) < 0)) with f|f
 ·have ax:=dT f
  refine ct f ?_
  refine sr ?_
  refine aw (vi (-1)) ?_
  refine n1 ?_
  refine rt (vi (-1)) ?_
  refine ⟨A.keep0,?_⟩
  simp only [l_heldChan,d,e,f,cond_true,cond_false]
  exact rfl
 have ay:=dF f
 refine cf f ?_
 refine y1 ?_
 refine pu (vp i 14) wN ?_
 have ae:=(I.kp J)
 refine ld (vs x a.Next.length y) wN BT ae ?_
 refine mw (vi (CD a.Old (CD a.Cur (heldB a.Sn b)))) ?_
 refine cl wN (Ga ad _ a.Next (CC (X.from0 A) Y) (CD a.Old (CD a.Cur (heldB a.Sn b))) (by omega) (by omega)) ?_
 rintro _ az ⟨af,rfl⟩
 have K:=A.extk af
 have a0:=FJ a.Next (CD a.Old (CD a.Cur (heldB a.Sn b)))
 refine aw (vi (heldB a.Next (CD a.Old (CD a.Cur (heldB a.Sn b))))) ?_
 refine n4 ?_
 refine mw (vi (heldB a.Next (CD a.Old (CD a.Cur (heldB a.Sn b))))) ?_
 refine pu (vb (decide ((heldB a.Next (CD a.Old (CD a.Cur (heldB a.Sn b)))) < 0))) wN ?_
 refine n2 ?_
 rcases bt (decide ((heldB a.Next (CD a.Old (CD a.Cur (heldB a.Sn b)))) < 0)) with g|g
 ·have a1:=dT g
  refine ct g ?_
  refine sr ?_
  refine aw (vi (-1)) ?_
  refine n1 ?_
  refine rt (vi (-1)) ?_
  refine ⟨K.keep0,?_⟩
  simp only [l_heldChan,d,e,f,g,cond_true,cond_false]
  exact rfl
 have a2:=dF g
 refine cf g ?_
 refine y1 ?_
 refine mw (vi (heldB a.Next (CD a.Old (CD a.Cur (heldB a.Sn b))))) ?_
 refine aw (vi (heldB a.Next (CD a.Old (CD a.Cur (heldB a.Sn b))))) ?_
 refine n3 ?_
 refine rt (vi (heldB a.Next (CD a.Old (CD a.Cur (heldB a.Sn b))))) ?_
 refine ⟨K.keep0,?_⟩
 simp only [l_heldChan,d,e,f,g,cond_true,cond_false]
 exact rfl
theorem HY (x:PChan) (k:Int):l_heldChan x k = -1∨l_heldChan x k=k+((x.Sn.length:Int)+(x.Cur.Key.length:Int)+(x.Cur.Win.Bits.length:Int)+(x.Old.Key.length:Int)+(x.Old.Win.Bits.length:Int)+(x.Next.length:Int)):=by
  have a:=FJ x.Sn k
  have b:=ER x.Cur (heldB x.Sn k)
  have d:=ER x.Old (CD x.Cur (heldB x.Sn k))
  have e:=FJ x.Next (CD x.Old (CD x.Cur (heldB x.Sn k)))
  simp only [l_heldChan,cond_eq_ite,decide_eq_true_eq]
  (repeat' split) <;> omega
theorem GD (x:PChan) (m k:Int):l_heldChan (mk_PChan x m) k = -1∨l_heldChan (mk_PChan x m) k=k+tot_PChan x:=by
  have h:=HY (mk_PChan x m) k
  simp only [mk_PChan,Cq,Cu,tot_PChan,CX,DE] at h ⊢
  omega
end Go.Proofs.YtacoceibbheccaaGreat.K
