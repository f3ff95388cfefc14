import Derived.Test.YtacoceibbheccaaGreatCore
import Derived.Test.YtacoceibbheccaaGreatProg
import Derived.Test.YtacoceibbheccaaGreatHeld
import Derived.Test.YtacoceibbheccaaGreatFun
import Derived.Test.YtacoceibbheccaaGreatFunZ
import Derived.Test.YtacoceibbheccaaGreatSqz
import Derived.Test.YtacoceibbheccaaGreatHash
import Derived.Test.YtacoceibbheccaaGreatCur
import Derived.Test.YtacoceibbheccaaGreatDrawW
import Derived.Test.YtacoceibbheccaaGreatAead
namespace Go.Proofs.YtacoceibbheccaaGreat.K
open Go.RowKit
set_option linter.unusedVariables false
set_option linter.unusedSimpArgs false
set_option maxRecDepth 100000
set_option maxHeartbeats 4000000
def DE (x:PWin):Int:=(x.Bits.length:Int)
def CX (x:PEp):Int:=(x.Key.length:Int)+DE x.Win
def tot_PChan (x:PChan):Int:=(x.Sn.length:Int)+CX x.Cur+CX x.Old+(x.Next.length:Int)
def mk_PChan (x:PChan) (k:Int):PChan:={Role:=x.Role,Sn:=marksB k x.Sn.length,Cur:={N:=x.Cur.N,Key:=marksB (k+(x.Sn.length:Int)) x.Cur.Key.length,Seq:=x.Cur.Seq,Win:={Top:=x.Cur.Win.Top,Bits:=DT ((k+(x.Sn.length:Int))+(x.Cur.Key.length:Int)) x.Cur.Win.Bits.length:PWin}:PEp},Old:={N:=x.Old.N,Key:=marksB ((k+(x.Sn.length:Int))+CX x.Cur) x.Old.Key.length,Seq:=x.Old.Seq,Win:={Top:=x.Old.Win.Top,Bits:=DT (((k+(x.Sn.length:Int))+CX x.Cur)+(x.Old.Key.length:Int)) x.Old.Win.Bits.length:PWin}:PEp},HasOld:=x.HasOld,Until:=x.Until,Next:=marksB (((k+(x.Sn.length:Int))+CX x.Cur)+CX x.Old) x.Next.length:PChan}
abbrev Dv (x:PChan) (a:Option Addr) (b:Nat) (d:Option Addr) (e:Nat) (f:Option Addr) (g:Nat) (h:Option Addr) (i:Nat) (j:Option Addr) (k:Nat) (l:Option Addr) (m:Nat):List Value:=[vi x.Role,vs a x.Sn.length b,vi x.Cur.N,vs d x.Cur.Key.length e,vi x.Cur.Seq,vi x.Cur.Win.Top,vs f x.Cur.Win.Bits.length g,vi x.Old.N,vs h x.Old.Key.length i,vi x.Old.Seq,vi x.Old.Win.Top,vs j x.Old.Win.Bits.length k,vb x.HasOld,vi x.Until,vs l x.Next.length m]
def Hb (x:PEp) (k:Int):PEp:={N:=x.N,Key:=marksB k x.Key.length,Seq:=x.Seq,Win:={Top:=x.Win.Top,Bits:=DT (k+(x.Key.length:Int)) x.Win.Bits.length:PWin}:PEp}
abbrev Dd (x:PEp) (a:Option Addr) (b:Nat) (d:Option Addr) (e:Nat):List Value:=[vi x.N,vs a x.Key.length b,vi x.Seq,vi x.Win.Top,vs d x.Win.Bits.length e]
def GK (x:PWin) (k:Int):PWin:={Top:=x.Top,Bits:=DT k x.Bits.length:PWin}
abbrev DW (x:PWin) (a:Option Addr) (b:Nat):List Value:=[vi x.Top,vs a x.Bits.length b]
theorem FA:∀ w,(zeroValue 34).run Tryz.prog w=.ok (va [(vi 0),(vs none 0 0)]) w:=fun w=>by kernel_rfl
theorem tE:∀ w,(isAgg 3).run Tryz.prog w=.ok false w:=fun w=>by kernel_rfl
theorem Cd:SlTy Tryz.prog 23 3 1 8 (vi 0):=Sa Tryz.underlying23 (by kernel_rfl) rfl rfl
theorem Dk:∀ w,(isAgg 23).run Tryz.prog w=.ok false w:=fun w=>by kernel_rfl
theorem Cj:∀ w,(sizeOf 34).run Tryz.prog w=.ok 2 w:=fun w=>by kernel_rfl
theorem DN:Tryz.prog.follows .mixedOrders=true:=by kernel_rfl
theorem CM:∀ w,(isAgg 34).run Tryz.prog w=.ok true w:=fun w=>by kernel_rfl
def Nc (w:World) (v:Value) (x:(PChan)):Prop:=∃ (a:Option Addr) (b:Nat) (d:Option Addr) (e:Nat) (f:Option Addr) (g:Nat) (h:Option Addr) (i:Nat) (j:Option Addr) (k:Nat) (l:Option Addr) (m:Nat),v=.agg #[.int .i64 x.Role,.slice a x.Sn.length b,.int .i64 x.Cur.N,.slice d x.Cur.Key.length e,.int .i64 x.Cur.Seq,.int .i64 x.Cur.Win.Top,.slice f x.Cur.Win.Bits.length g,.int .i64 x.Old.N,.slice h x.Old.Key.length i,.int .i64 x.Old.Seq,.int .i64 x.Old.Win.Top,.slice j x.Old.Win.Bits.length k,.bool x.HasOld,.int .i64 x.Until,.slice l x.Next.length m]∧Rd w 1 (.slice a x.Sn.length b) x.Sn.length (x.Sn.map bV)∧x.Sn.length≤1073741824∧Rd w 1 (.slice d x.Cur.Key.length e) x.Cur.Key.length (x.Cur.Key.map bV)∧x.Cur.Key.length≤1073741824∧Rd w 1 (.slice f x.Cur.Win.Bits.length g) x.Cur.Win.Bits.length (x.Cur.Win.Bits.map iV)∧x.Cur.Win.Bits.length≤1073741824∧Rd w 1 (.slice h x.Old.Key.length i) x.Old.Key.length (x.Old.Key.map bV)∧x.Old.Key.length≤1073741824∧Rd w 1 (.slice j x.Old.Win.Bits.length k) x.Old.Win.Bits.length (x.Old.Win.Bits.map iV)∧x.Old.Win.Bits.length≤1073741824∧Rd w 1 (.slice l x.Next.length m) x.Next.length (x.Next.map bV)∧x.Next.length≤1073741824
theorem PQ {w:World} {x:PChan} {k:Int} {a:Option Addr} {b:Nat} {d:Option Addr} {e:Nat} {f:Option Addr} {g:Nat} {h:Option Addr} {i:Nat} {j:Option Addr} {l:Nat} {m:Option Addr} {o:Nat} (p:Rd w 1 (.slice a x.Sn.length b) x.Sn.length ((marksB k x.Sn.length).map bV)) (q:x.Sn.length≤1073741824) (r:Rd w 1 (.slice d x.Cur.Key.length e) x.Cur.Key.length ((marksB (k+(x.Sn.length:Int)) x.Cur.Key.length).map bV)) (s:x.Cur.Key.length≤1073741824) (t:Rd w 1 (.slice f x.Cur.Win.Bits.length g) x.Cur.Win.Bits.length ((DT ((k+(x.Sn.length:Int))+(x.Cur.Key.length:Int)) x.Cur.Win.Bits.length).map iV)) (u:x.Cur.Win.Bits.length≤1073741824) (v:Rd w 1 (.slice h x.Old.Key.length i) x.Old.Key.length ((marksB ((k+(x.Sn.length:Int))+CX x.Cur) x.Old.Key.length).map bV)) (y:x.Old.Key.length≤1073741824) (A:Rd w 1 (.slice j x.Old.Win.Bits.length l) x.Old.Win.Bits.length ((DT (((k+(x.Sn.length:Int))+CX x.Cur)+(x.Old.Key.length:Int)) x.Old.Win.Bits.length).map iV)) (B:x.Old.Win.Bits.length≤1073741824) (C:Rd w 1 (.slice m x.Next.length o) x.Next.length ((marksB (((k+(x.Sn.length:Int))+CX x.Cur)+CX x.Old) x.Next.length).map bV)) (D:x.Next.length≤1073741824):Nc w (va (Dv x a b d e f g h i j l m o)) (mk_PChan x k):=⟨_,_,_,_,_,_,_,_,_,_,_,_,by simp only [mk_PChan,Cq,Cu];try rfl,by simpa only [mk_PChan,Cq,Cu] using p,by simpa only [mk_PChan,Cq,Cu] using q,by simpa only [mk_PChan,Cq,Cu] using r,by simpa only [mk_PChan,Cq,Cu] using s,by simpa only [mk_PChan,Cq,Cu] using t,by simpa only [mk_PChan,Cq,Cu] using u,by simpa only [mk_PChan,Cq,Cu] using v,by simpa only [mk_PChan,Cq,Cu] using y,by simpa only [mk_PChan,Cq,Cu] using A,by simpa only [mk_PChan,Cq,Cu] using B,by simpa only [mk_PChan,Cq,Cu] using C,by simpa only [mk_PChan,Cq,Cu] using D⟩
theorem LU {x:PChan} (a:x.Sn.length≤1073741824) (b:x.Cur.Key.length≤1073741824) (d:x.Cur.Win.Bits.length≤1073741824) (e:x.Old.Key.length≤1073741824) (f:x.Old.Win.Bits.length≤1073741824) (g:x.Next.length≤1073741824):0≤tot_PChan x∧tot_PChan x≤6442450944:=by
  simp only [tot_PChan,CX,DE]
  omega
def Lf (w:World) (v:Value) (x:(PEp)):Prop:=∃ (a:Option Addr) (b:Nat) (d:Option Addr) (e:Nat),v=.agg #[.int .i64 x.N,.slice a x.Key.length b,.int .i64 x.Seq,.int .i64 x.Win.Top,.slice d x.Win.Bits.length e]∧Rd w 1 (.slice a x.Key.length b) x.Key.length (x.Key.map bV)∧x.Key.length≤1073741824∧Rd w 1 (.slice d x.Win.Bits.length e) x.Win.Bits.length (x.Win.Bits.map iV)∧x.Win.Bits.length≤1073741824
theorem mkR_36 {w:World} {x:PEp} {k:Int} {a:Option Addr} {b:Nat} {d:Option Addr} {e:Nat} (f:Rd w 1 (.slice a x.Key.length b) x.Key.length ((marksB k x.Key.length).map bV)) (g:x.Key.length≤1073741824) (h:Rd w 1 (.slice d x.Win.Bits.length e) x.Win.Bits.length ((DT (k+(x.Key.length:Int)) x.Win.Bits.length).map iV)) (i:x.Win.Bits.length≤1073741824):Lf w (va (Dd x a b d e)) (Hb x k):=⟨_,_,_,_,by simp only [Hb,Cq,Cu];try rfl,by simpa only [Hb,Cq,Cu] using f,by simpa only [Hb,Cq,Cu] using g,by simpa only [Hb,Cq,Cu] using h,by simpa only [Hb,Cq,Cu] using i⟩
theorem mkR_36_b {x:PEp} (a:x.Key.length≤1073741824) (b:x.Win.Bits.length≤1073741824):0≤CX x∧CX x≤2147483648:=by
  simp only [CX,DE]
  omega
def LD (w:World) (v:Value) (x:(PWin)):Prop:=∃ (a:Option Addr) (b:Nat),v=.agg #[.int .i64 x.Top,.slice a x.Bits.length b]∧Rd w 1 (.slice a x.Bits.length b) x.Bits.length (x.Bits.map iV)∧x.Bits.length≤1073741824
theorem mkR_34 {w:World} {x:PWin} {k:Int} {a:Option Addr} {b:Nat} (d:Rd w 1 (.slice a x.Bits.length b) x.Bits.length ((DT k x.Bits.length).map iV)) (e:x.Bits.length≤1073741824):LD w (va (DW x a b)) (GK x k):=⟨_,_,by simp only [GK,Cq,Cu];try rfl,by simpa only [GK,Cq,Cu] using d,by simpa only [GK,Cq,Cu] using e⟩
theorem mkR_34_b {x:PWin} (a:x.Bits.length≤1073741824):0≤DE x∧DE x≤1073741824:=by
  simp only [DE]
  omega
def RQ (w:World) (lo:Nat) (v:Value) (x:(PWin)):Prop:=∃ (a:Option Addr) (b:Nat),v=.agg #[.int .i64 x.Top,.slice a x.Bits.length b]∧w.ownsRow lo 3 1 (.slice a x.Bits.length b) x.Bits.length (x.Bits.map iV)∧x.Bits.length≤1073741824∧Aps [(a,b)]
def OV (a:PWin):(PWin):=a
theorem Md (f:World) (u:Value) (a:PWin) (G:LD f u a) :Fn Tryz.prog 107 #[u] f (fun v g=>Keep f g∧RQ g f.heap.size v (a)):=by
 obtain ⟨b,i,rfl,H,I⟩:=G
 refine Cl (n:=10) [(va (DW a b i))] Tryz.func107 rfl rfl ?_
 refine sr ?_
 refine bx (DW a b i) wN ?_
 intro j x ah ai p y
 refine al [(vi 0),(vs none 0 0)] wN FA ?_
 intro aj q J K l L
 have A:=((Ch.base f).extk p).extk l
 refine BU<|re<|Cc ?_
 refine CU ([(3,[],[],(fun _ v _=>v=(vp j 0))),(4,[],[0],(fun _ v _=>v=(vi a.Top))),(5,[],[],(fun _ v w=>∃ a0:Addr,v=.slice (some a0) 0 0∧w.ownsRow q.heap.size 3 1 (.slice (some a0) 0 0) 0 [])),(6,[],[],(fun _ v _=>v=(vp j 1))),(7,[],[3],(fun _ v _=>v=(vs b a.Bits.length i))),(8,[],[2,3,4],(fun _ v w=>∃ (b:Option Addr) (r:Nat),v=.slice b a.Bits.length r∧w.ownsRow q.heap.size 3 1 (.slice b a.Bits.length r) a.Bits.length (a.Bits.map iV)∧a.Bits.length≤1073741824∧Aps [(b,r)]))]:GV) (fun _ g=>Keep q g) [] DN rfl (by kernel_rfl) (by kernel_rfl) ?_ (fun _ _ h=>h) (fun _ _ _ _ h _ k=>h.trans k) trivial ?_ ?_ ?_
 ·exact ⟨hV,hE,⟨hV,hE,⟨(fun e v w x h hk=>by obtain ⟨s,he,t⟩:=h;exact ⟨s,he,gc t hk⟩),hE,⟨hV,hE,⟨hV,hE,⟨(fun e v w x h hk=>by obtain ⟨s,M,he,t,N,hap⟩:=h;exact ⟨s,M,he,gc t hk,N,hap⟩),hE,trivial⟩⟩⟩⟩⟩⟩
 ·exact trivial
 ·refine ⟨?_,⟨?_,⟨?_,⟨?_,⟨?_,⟨?_,trivial⟩⟩⟩⟩⟩⟩
  ·intro _ d ak _
   rintro _ _ _ _ _ _
   refine sw ?_
   refine pu (vp j 0) wN ?_
   exact f1
  ·intro _ d O _
   rintro _ rfl _ _ _ _ _
   refine sw ?_
   have P:=((y.kp l).kp O)
   refine ld (vi a.Top) wN tE P ?_
   exact f1
  ·intro _ d Q _
   rintro _ _ _ _ _ _
   refine sw ?_
   refine CR wN rfl rfl Cd (fun w=>by kernel_rfl) ?_
   intro am B R S
   exact CN R ⟨_,rfl,tB S Q.size⟩
  ·intro _ d an _
   rintro _ _ _ _ _ _
   refine sw ?_
   refine pu (vp j 1) wN ?_
   exact f1
  ·intro _ d T _
   rintro _ _ _ _ rfl _ _
   refine sw ?_
   have V:=((y.kp l).kp T)
   refine ld (vs b a.Bits.length i) wN Dk V ?_
   exact f1
  ·intro _ d C _
   have W:=A.extk C
   rintro _ _ _ ⟨ao,rfl,X⟩ _ rfl _ rfl _
   refine sw ?_
   refine QV a.Bits wN Cd X (H.from0 W) C.size ?_
   intro ap aq B Y Z au
   exact CN Y ⟨_,_,rfl,Z,I,⟨trivial,trivial⟩⟩
 ·intro _ d D
  rintro _ rfl _ rfl _ ⟨av,rfl,ax⟩ _ rfl _ rfl _ ⟨m,o,rfl,E,aa,-⟩
  refine sw ?_
  refine pu (va (DW a m o)) wN ?_
  have ab:=(L.kp D)
  refine sv (DW a m o) wN Cj ab ?_
  intro B F ac ay
  have ad:=(A.extk D).ext F (fun k hk=>by subst hk;exact nT p.size J)
  refine n3 ?_
  have ae:=(tC E F (ne1 E (K)))
  refine EY (.inl rfl) (va (DW a m o)) rfl (Fe (DW a m o) rfl ac CM Cj) ?_
  refine ⟨ad.keep0,?_⟩
  have af:a=a:=by rfl
  rw [af]
  exact ⟨_,_,rfl,(tB ae (z2 p l)),aa,⟨trivial,trivial⟩⟩

abbrev HC:List Value:=[(vi 0),(vs none 0 0),(vi 0),(vi 0),(vs none 0 0)]
theorem Ev:∀ w,(zeroValue 36).run Tryz.prog w=.ok (va HC) w:=fun w=>by kernel_rfl
theorem tD:SlTy Tryz.prog 22 5 1 1 (v8 0):=Sa Tryz.underlying22 (by kernel_rfl) rfl rfl
theorem BT:∀ w,(isAgg 22).run Tryz.prog w=.ok false w:=fun w=>by kernel_rfl
theorem BW:∀ w,(sizeOf 36).run Tryz.prog w=.ok 5 w:=fun w=>by kernel_rfl
theorem Cs:∀ w,(isAgg 36).run Tryz.prog w=.ok true w:=fun w=>by kernel_rfl
def Qk (w:World) (lo:Nat) (v:Value) (x:(PEp)):Prop:=∃ (a:Option Addr) (b:Nat) (d:Option Addr) (e:Nat),v=.agg #[.int .i64 x.N,.slice a x.Key.length b,.int .i64 x.Seq,.int .i64 x.Win.Top,.slice d x.Win.Bits.length e]∧w.ownsRow lo 5 1 (.slice a x.Key.length b) x.Key.length (x.Key.map bV)∧x.Key.length≤1073741824∧w.ownsRow lo 3 1 (.slice d x.Win.Bits.length e) x.Win.Bits.length (x.Win.Bits.map iV)∧x.Win.Bits.length≤1073741824∧Aps [(a,b),(d,e)]
theorem FX {w:World} {x:PWin} {a:Option Addr} {b:Nat} (d:Rd w 1 (.slice a x.Bits.length b) x.Bits.length (x.Bits.map iV)) (e:x.Bits.length≤1073741824):LD w (va (DW x a b)) x:=⟨_,_,rfl,d,e⟩
def RT (w:World) (lo:Nat) (v:Value) (x:(PWin)) (k:Option Addr×Nat→Prop):Prop:=∃ (a:Option Addr) (b:Nat),v=.agg #[.int .i64 x.Top,.slice a x.Bits.length b]∧w.ownsRow lo 3 1 (.slice a x.Bits.length b) x.Bits.length (x.Bits.map iV)∧x.Bits.length≤1073741824∧Aps [(a,b)]∧k (a,b)
def OU (a:PEp):(PEp):=a
theorem Kc (i:World) (I:Value) (a:PEp) (R:Lf i I a) :Fn Tryz.prog 69 #[I] i (fun v m=>Keep i m∧Qk m i.heap.size v (a)):=by
 obtain ⟨d,o,p,q,rfl,S,T,V,W⟩:=R
 refine Cl (n:=15) [(va (Dd a d o p q))] Tryz.func69 rfl rfl ?_
 refine sr ?_
 refine bx (Dd a d o p q) wN ?_
 intro f B aB aC r s
 refine al HC wN Ev ?_
 intro aD t X J g Y
 have C:=((Ch.base i).extk r).extk g
 refine BU<|re<|Cc ?_
 refine CU ([(3,[],[],(fun _ v _=>v=(vp f 0))),(4,[],[0],(fun _ v _=>v=(vi a.N))),(5,[],[],(fun _ v w=>∃ a0:Addr,v=.slice (some a0) 0 0∧w.ownsRow t.heap.size 5 1 (.slice (some a0) 0 0) 0 [])),(6,[],[],(fun _ v _=>v=(vp f 1))),(7,[],[3],(fun _ v _=>v=(vs d a.Key.length o))),(8,[],[2,3,4],(fun _ v w=>∃ (d:Option Addr) (D:Nat),v=.slice d a.Key.length D∧w.ownsRow t.heap.size 5 1 (.slice d a.Key.length D) a.Key.length (a.Key.map bV)∧a.Key.length≤1073741824∧Aps [(d,D)])),(9,[],[],(fun _ v _=>v=(vp f 2))),(10,[],[6],(fun _ v _=>v=(vi a.Seq))),(11,[],[],(fun _ v _=>v=(vp f 3))),(12,[],[8],(fun _ v _=>v=(va (DW a.Win p q)))),(13,[8],[2,3,4,5,8,9],(fun e v w=>RT w t.heap.size v a.Win (fun Z=>Ap (sp (e 8)) Z)))]:GV) (fun _ m=>Keep t m) [] DN rfl (by kernel_rfl) (by kernel_rfl) ?_ (fun _ _ h=>h) (fun _ _ _ _ h _ k=>h.trans k) trivial ?_ ?_ ?_
 ·exact ⟨hV,hE,⟨hV,hE,⟨(fun e v w B h hk=>by obtain ⟨j,he,l⟩:=h;exact ⟨j,he,gc l hk⟩),hE,⟨hV,hE,⟨hV,hE,⟨(fun e v w B h hk=>by obtain ⟨j,E,he,l,F,hap⟩:=h;exact ⟨j,E,he,gc l hk,F,hap⟩),hE,⟨hV,hE,⟨hV,hE,⟨hV,hE,⟨hV,hE,⟨(fun e v w B h hk=>by obtain ⟨j,E,he,l,F,hap,hx⟩:=h;exact ⟨j,E,he,gc l hk,F,hap,hx⟩),(fun aE aF v w hx h=>by have aa:=hx 8 (by simp);simp only [aa] at h;exact h),trivial⟩⟩⟩⟩⟩⟩⟩⟩⟩⟩⟩
 ·exact trivial
 ·refine ⟨?_,⟨?_,⟨?_,⟨?_,⟨?_,⟨?_,⟨?_,⟨?_,⟨?_,⟨?_,⟨?_,trivial⟩⟩⟩⟩⟩⟩⟩⟩⟩⟩⟩
  ·intro _ b aG _
   rintro _ _ _ _ _ _ _ _ _ _ _
   refine sw ?_
   refine pu (vp f 0) wN ?_
   exact f1
  ·intro _ b ab _
   rintro _ rfl _ _ _ _ _ _ _ _ _ _
   refine sw ?_
   have ac:=((s.kp g).kp ab)
   refine ld (vi a.N) wN tE ac ?_
   exact f1
  ·intro _ b ad _
   rintro _ _ _ _ _ _ _ _ _ _ _
   refine sw ?_
   refine CR wN rfl rfl tD (fun w=>by kernel_rfl) ?_
   intro aH G ae af
   exact CN ae ⟨_,rfl,tB af ad.size⟩
  ·intro _ b aI _
   rintro _ _ _ _ _ _ _ _ _ _ _
   refine sw ?_
   refine pu (vp f 1) wN ?_
   exact f1
  ·intro _ b ah _
   rintro _ _ _ _ rfl _ _ _ _ _ _ _
   refine sw ?_
   have ai:=((s.kp g).kp ah)
   refine ld (vs d a.Key.length o) wN BT ai ?_
   exact f1
  ·intro _ b K _
   have aj:=C.extk K
   rintro _ _ _ ⟨aJ,rfl,ak⟩ _ rfl _ rfl _ _ _ _ _ _
   refine sw ?_
   refine ap0 a.Key wN tD ak (S.from0 aj) K.size ?_
   intro aK aL G am an aM
   exact CN am ⟨_,_,rfl,an,T,⟨trivial,trivial⟩⟩
  ·intro _ b aN _
   rintro _ _ _ _ _ _ _ _ _ _ _
   refine sw ?_
   refine pu (vp f 2) wN ?_
   exact f1
  ·intro _ b ao _
   rintro _ _ _ _ _ _ _ rfl _ _ _ _
   refine sw ?_
   have ap:=((s.kp g).kp ao)
   refine ld (vi a.Seq) wN tE ap ?_
   exact f1
  ·intro _ b aO _
   rintro _ _ _ _ _ _ _ _ _ _ _
   refine sw ?_
   refine pu (vp f 3) wN ?_
   exact f1
  ·intro _ b aq _
   rintro _ _ _ _ _ _ _ _ _ rfl _ _
   refine sw ?_
   have au:=((s.kp g).kp aq)
   refine lN (DW a.Win p q) wN CM Cj au ?_
   exact f1
  ·intro _ b L _
   have av:=C.extk L
   rintro _ _ _ ⟨aP,rfl,aQ⟩ _ rfl _ rfl _ ⟨aR,aS,rfl,ax,aT,-⟩ _ _ _ rfl _ rfl _
   refine sw ?_
   refine cl wN (Md b _ a.Win (FX (V.from0 av) W)) ?_
   rintro _ G ⟨ay,⟨aU,aV,rfl,M,az,a1⟩⟩
   exact CN ay ⟨_,_,rfl,(tB M L.size),az,a1,(Ap.lt ax M (Nat.le_refl _))⟩
 ·intro _ b O
  rintro _ rfl _ rfl _ ⟨aW,rfl,aX⟩ _ rfl _ rfl _ ⟨u,x,rfl,P,a2,-⟩ _ rfl _ rfl _ rfl _ rfl _ ⟨y,A,rfl,Q,a3,aY,a4⟩
  refine sw ?_
  refine pu (va (Dd a u x y A)) wN ?_
  have a5:=(Y.kp O)
  refine sv (Dd a u x y A) wN BW a5 ?_
  intro G H a6 aZ
  have a7:=(C.extk O).ext H (fun k hk=>by subst hk;exact nT r.size X)
  refine n3 ?_
  have a8:=(tC P H (ne1 P (J)))
  have a9:=(tC Q H (ne1 Q (J)))
  refine EY (.inl rfl) (va (Dd a u x y A)) rfl (Fe (Dd a u x y A) rfl a6 Cs BW) ?_
  refine ⟨a7.keep0,?_⟩
  have aA:a=a:=by rfl
  rw [aA]
  exact ⟨_,_,_,_,rfl,(tB a8 (z2 r g)),a2,(tB a9 (z2 r g)),a3,⟨⟨a4,trivial⟩,⟨trivial,trivial⟩⟩⟩

theorem Fh {w:World} {x:PEp} {a:Option Addr} {b:Nat} {d:Option Addr} {e:Nat} (f:Rd w 1 (.slice a x.Key.length b) x.Key.length (x.Key.map bV)) (g:x.Key.length≤1073741824) (h:Rd w 1 (.slice d x.Win.Bits.length e) x.Win.Bits.length (x.Win.Bits.map iV)) (i:x.Win.Bits.length≤1073741824):Lf w (va (Dd x a b d e)) x:=⟨_,_,_,_,rfl,f,g,h,i⟩
def Qu (a:PEp) (b:Bool):(PEp):=bif b then ((a)) else (a)
theorem QG (r:World) (R:Value) (a:PEp) (ai:Lf r R a) (s:Bool) :Fn Tryz.prog 70 #[R,(vb s)] r (fun v A=>Keep r A∧Qk A r.heap.size v (a)):=by
 obtain ⟨d,t,u,x,rfl,S,T,V,W⟩:=ai
 refine Cl (n:=27) [(va (Dd a d t u x)),(vb s)] Tryz.func70 rfl rfl ?_
 refine sr ?_
 refine bx (Dd a d t u x) wN ?_
 intro f B be bg j o
 refine al HC wN Ev ?_
 intro bh p X C g Y
 have q:=((Ch.base r).extk j).extk g
 refine n4 ?_
 refine mw (vb s) ?_
 refine pu (vb (!s)) wN ?_
 refine n2 ?_
 rcases bt s with H|H
 ·refine cf (cA not H) ?_
  refine y1 ?_
  have aj:=(o.kp g)
  refine lN (Dd a d t u x) wN Cs BW aj ?_
  refine cl wN (Kc p _ a (Fh (S.from0 q) T (V.from0 q) W)) ?_
  rintro _ b ⟨Z,⟨I,J,K,L,rfl,aa,ak,ab,am,an⟩⟩
  have ao:=(Y.kp Z)
  refine sv (Dd (a) I J K L) wN BW ao ?_
  intro y M ap bi
  have aq:=(q.extk Z).ext M (fun k hk=>by subst hk;exact nT j.size X)
  refine n3 ?_
  have au:=(tC aa M (ne1 aa (C)))
  have av:=(tC ab M (ne1 ab (C)))
  refine EY (.inl rfl) (va (Dd (a) I J K L)) rfl (Fe (Dd (a) I J K L) rfl ap Cs BW) ?_
  refine ⟨aq.keep0,?_⟩
  have ax:a=(a):=by rfl
  rw [ax]
  exact ⟨_,_,_,_,rfl,(tB au (z2 j g)),ak,(tB av (z2 j g)),am,⟨⟨(an.1.1),trivial⟩,⟨trivial,trivial⟩⟩⟩
 refine ct (cA not H) ?_
 refine Cc ?_
 refine CU ([(7,[],[],(fun _ v _=>v=(vp f 0))),(8,[],[0],(fun _ v _=>v=(vi a.N))),(9,[],[],(fun _ v w=>∃ a0:Addr,v=.slice (some a0) 0 0∧w.ownsRow p.heap.size 5 1 (.slice (some a0) 0 0) 0 [])),(10,[],[],(fun _ v _=>v=(vp f 1))),(11,[],[3],(fun _ v _=>v=(vs d a.Key.length t))),(12,[],[2,3,4],(fun _ v w=>∃ (d:Option Addr) (i:Nat),v=.slice d a.Key.length i∧w.ownsRow p.heap.size 5 1 (.slice d a.Key.length i) a.Key.length (a.Key.map bV)∧a.Key.length≤1073741824∧Aps [(d,i)])),(13,[],[],(fun _ v _=>v=(vp f 2))),(14,[],[6],(fun _ v _=>v=(vi a.Seq))),(15,[],[],(fun _ v _=>v=(vp f 3))),(16,[],[8],(fun _ v _=>v=(vp f 3))),(17,[],[8,9],(fun _ v _=>v=(vi a.Win.Top))),(18,[],[],(fun _ v w=>∃ a0:Addr,v=.slice (some a0) 0 0∧w.ownsRow p.heap.size 3 1 (.slice (some a0) 0 0) 0 [])),(19,[],[],(fun _ v _=>v=(vp f 3))),(20,[],[12],(fun _ v _=>v=(vp f 4))),(21,[],[12,13],(fun _ v _=>v=(vs u a.Win.Bits.length x))),(22,[12],[2,3,4,5,11,12,13,14],(fun e v w=>∃ (d:Option Addr) (i:Nat),v=.slice d a.Win.Bits.length i∧w.ownsRow p.heap.size 3 1 (.slice d a.Win.Bits.length i) a.Win.Bits.length (a.Win.Bits.map iV)∧a.Win.Bits.length≤1073741824∧Aps [(d,i)]∧Ap (sp (e 12)) (d,i))),(23,[22],[2,3,4,5,8,9,10,11,12,13,14,15],(fun e v _=>v=(.agg #[(vi a.Win.Top),(e 22)])))]:GV) (fun _ A=>Keep p A) [] DN rfl (by kernel_rfl) (by kernel_rfl) ?_ (fun _ _ h=>h) (fun _ _ _ _ h _ k=>h.trans k) trivial ?_ ?_ ?_
 ·exact ⟨hV,hE,⟨hV,hE,⟨(fun e v w B h hk=>by obtain ⟨l,he,m⟩:=h;exact ⟨l,he,gc m hk⟩),hE,⟨hV,hE,⟨hV,hE,⟨(fun e v w B h hk=>by obtain ⟨l,O,he,m,P,hap⟩:=h;exact ⟨l,O,he,gc m hk,P,hap⟩),hE,⟨hV,hE,⟨hV,hE,⟨hV,hE,⟨hV,hE,⟨hV,hE,⟨(fun e v w B h hk=>by obtain ⟨l,he,m⟩:=h;exact ⟨l,he,gc m hk⟩),hE,⟨hV,hE,⟨hV,hE,⟨hV,hE,⟨(fun e v w B h hk=>by obtain ⟨l,O,he,m,P,hap,hx⟩:=h;exact ⟨l,O,he,gc m hk,P,hap,hx⟩),(fun ay az v w hx h=>by have a1:=hx 12 (by simp);simp only [a1] at h;exact h),⟨hV,(fun ay az v w hx h=>by have a2:=hx 22 (by simp);simp only [a2] at h;exact h),trivial⟩⟩⟩⟩⟩⟩⟩⟩⟩⟩⟩⟩⟩⟩⟩⟩⟩
 ·exact trivial
 ·refine ⟨?_,⟨?_,⟨?_,⟨?_,⟨?_,⟨?_,⟨?_,⟨?_,⟨?_,⟨?_,⟨?_,⟨?_,⟨?_,⟨?_,⟨?_,⟨?_,⟨?_,trivial⟩⟩⟩⟩⟩⟩⟩⟩⟩⟩⟩⟩⟩⟩⟩⟩⟩
  ·intro _ b bj _
   rintro _ _ _ _ _ _ _ _ _ _ _ _ _ _ _ _ _
   refine sw ?_
   refine pu (vp f 0) wN ?_
   exact f1
  ·intro _ b a3 _
   rintro _ rfl _ _ _ _ _ _ _ _ _ _ _ _ _ _ _ _
   refine sw ?_
   have a4:=((o.kp g).kp a3)
   refine ld (vi a.N) wN tE a4 ?_
   exact f1
  ·intro _ b a5 _
   rintro _ _ _ _ _ _ _ _ _ _ _ _ _ _ _ _ _
   refine sw ?_
   refine CR wN rfl rfl tD (fun w=>by kernel_rfl) ?_
   intro bk y a6 a7
   exact CN a6 ⟨_,rfl,tB a7 a5.size⟩
  ·intro _ b bl _
   rintro _ _ _ _ _ _ _ _ _ _ _ _ _ _ _ _ _
   refine sw ?_
   refine pu (vp f 1) wN ?_
   exact f1
  ·intro _ b a8 _
   rintro _ _ _ _ rfl _ _ _ _ _ _ _ _ _ _ _ _ _
   refine sw ?_
   have a9:=((o.kp g).kp a8)
   refine ld (vs d a.Key.length t) wN BT a9 ?_
   exact f1
  ·intro _ b ac _
   have aA:=q.extk ac
   rintro _ _ _ ⟨bm,rfl,aB⟩ _ rfl _ rfl _ _ _ _ _ _ _ _ _ _ _ _
   refine sw ?_
   refine ap0 a.Key wN tD aB (S.from0 aA) ac.size ?_
   intro bn bo y aC aD bp
   exact CN aC ⟨_,_,rfl,aD,T,⟨trivial,trivial⟩⟩
  ·intro _ b bq _
   rintro _ _ _ _ _ _ _ _ _ _ _ _ _ _ _ _ _
   refine sw ?_
   refine pu (vp f 2) wN ?_
   exact f1
  ·intro _ b aE _
   rintro _ _ _ _ _ _ _ rfl _ _ _ _ _ _ _ _ _ _
   refine sw ?_
   have aF:=((o.kp g).kp aE)
   refine ld (vi a.Seq) wN tE aF ?_
   exact f1
  ·intro _ b br _
   rintro _ _ _ _ _ _ _ _ _ _ _ _ _ _ _ _ _
   refine sw ?_
   refine pu (vp f 3) wN ?_
   exact f1
  ·intro _ b bu _
   rintro _ _ _ _ _ _ _ _ _ rfl _ _ _ _ _ _ _ _
   refine sw ?_
   refine pu (vp f 3) wN ?_
   exact f1
  ·intro _ b aG _
   rintro _ _ _ _ _ _ _ _ _ rfl _ rfl _ _ _ _ _ _ _
   refine sw ?_
   have aH:=((o.kp g).kp aG)
   refine ld (vi a.Win.Top) wN tE aH ?_
   exact f1
  ·intro _ b aI _
   rintro _ _ _ _ _ _ _ _ _ _ _ _ _ _ _ _ _
   refine sw ?_
   refine CR wN rfl rfl Cd (fun w=>by kernel_rfl) ?_
   intro bv y aJ aK
   exact CN aJ ⟨_,rfl,tB aK aI.size⟩
  ·intro _ b bw _
   rintro _ _ _ _ _ _ _ _ _ _ _ _ _ _ _ _ _
   refine sw ?_
   refine pu (vp f 3) wN ?_
   exact f1
  ·intro _ b bz _
   rintro _ _ _ _ _ _ _ _ _ _ _ _ _ rfl _ _ _ _
   refine sw ?_
   refine pu (vp f 4) wN ?_
   exact f1
  ·intro _ b aL _
   rintro _ _ _ _ _ _ _ _ _ _ _ _ _ rfl _ rfl _ _ _
   refine sw ?_
   have aM:=((o.kp g).kp aL)
   refine ld (vs u a.Win.Bits.length x) wN Dk aM ?_
   exact f1
  ·intro _ b ad _
   have aN:=q.extk ad
   rintro _ _ _ ⟨b0,rfl,b1⟩ _ rfl _ rfl _ ⟨b2,b3,rfl,aO,b4,-⟩ _ _ _ _ _ _ ⟨b5,rfl,aP⟩ _ rfl _ rfl _ rfl _ _
   refine sw ?_
   refine QV a.Win.Bits wN Cd aP (V.from0 aN) ad.size ?_
   intro b6 b7 y aQ aR aS
   exact CN aQ ⟨_,_,rfl,aR,W,⟨trivial,trivial⟩,(Ap.new aO aS (Nat.le_refl _))⟩
  ·intro _ b b8 _
   rintro _ _ _ ⟨b9,rfl,bA⟩ _ rfl _ rfl _ ⟨bB,bC,rfl,bD,bE,-⟩ _ _ _ rfl _ rfl _ rfl _ ⟨bF,rfl,bG⟩ _ rfl _ rfl _ rfl _ ⟨aT,aU,rfl,bH,bI,-,bJ⟩ _
   refine sw ?_
   refine pu (va (DW a.Win aT aU)) wN ?_
   exact f1
 ·intro _ b ae
  rintro _ rfl _ rfl _ ⟨bK,rfl,bL⟩ _ rfl _ rfl _ ⟨D,E,rfl,af,aV,-⟩ _ rfl _ rfl _ rfl _ rfl _ rfl _ ⟨bM,rfl,bN⟩ _ rfl _ rfl _ rfl _ ⟨F,G,rfl,ah,aW,-,aX⟩ _ rfl
  refine sw ?_
  refine pu (va (Dd a D E F G)) wN ?_
  have aY:=(Y.kp ae)
  refine sv (Dd a D E F G) wN BW aY ?_
  intro y Q aZ bO
  have ba:=(q.extk ae).ext Q (fun k hk=>by subst hk;exact nT j.size X)
  refine n1 ?_
  have bb:=(tC af Q (ne1 af (C)))
  have bc:=(tC ah Q (ne1 ah (C)))
  refine EY (.inl rfl) (va (Dd a D E F G)) rfl (Fe (Dd a D E F G) rfl aZ Cs BW) ?_
  refine ⟨ba.keep0,?_⟩
  have bd:a=a:=by rfl
  rw [bd]
  exact ⟨_,_,_,_,rfl,(tB bb (z2 j g)),aV,(tB bc (z2 j g)),aW,⟨⟨aX,trivial⟩,⟨trivial,trivial⟩⟩⟩

abbrev Mr:List Value:=[(vi 0),(vs none 0 0),(vi 0),(vs none 0 0),(vi 0),(vi 0),(vs none 0 0),(vi 0),(vs none 0 0),(vi 0),(vi 0),(vs none 0 0),(vb false),(vi 0),(vs none 0 0)]
theorem Fz:∀ w,(zeroValue 38).run Tryz.prog w=.ok (va Mr) w:=fun w=>by kernel_rfl
theorem FZ:∀ w,(isAgg 4).run Tryz.prog w=.ok false w:=fun w=>by kernel_rfl
theorem BY:∀ w,(sizeOf 38).run Tryz.prog w=.ok 15 w:=fun w=>by kernel_rfl
theorem Cv:∀ w,(isAgg 38).run Tryz.prog w=.ok true w:=fun w=>by kernel_rfl
def Rc (w:World) (lo:Nat) (v:Value) (x:(PChan)):Prop:=∃ (a:Option Addr) (b:Nat) (d:Option Addr) (e:Nat) (f:Option Addr) (g:Nat) (h:Option Addr) (i:Nat) (j:Option Addr) (k:Nat) (l:Option Addr) (m:Nat),v=.agg #[.int .i64 x.Role,.slice a x.Sn.length b,.int .i64 x.Cur.N,.slice d x.Cur.Key.length e,.int .i64 x.Cur.Seq,.int .i64 x.Cur.Win.Top,.slice f x.Cur.Win.Bits.length g,.int .i64 x.Old.N,.slice h x.Old.Key.length i,.int .i64 x.Old.Seq,.int .i64 x.Old.Win.Top,.slice j x.Old.Win.Bits.length k,.bool x.HasOld,.int .i64 x.Until,.slice l x.Next.length m]∧w.ownsRow lo 5 1 (.slice a x.Sn.length b) x.Sn.length (x.Sn.map bV)∧x.Sn.length≤1073741824∧w.ownsRow lo 5 1 (.slice d x.Cur.Key.length e) x.Cur.Key.length (x.Cur.Key.map bV)∧x.Cur.Key.length≤1073741824∧w.ownsRow lo 3 1 (.slice f x.Cur.Win.Bits.length g) x.Cur.Win.Bits.length (x.Cur.Win.Bits.map iV)∧x.Cur.Win.Bits.length≤1073741824∧w.ownsRow lo 5 1 (.slice h x.Old.Key.length i) x.Old.Key.length (x.Old.Key.map bV)∧x.Old.Key.length≤1073741824∧w.ownsRow lo 3 1 (.slice j x.Old.Win.Bits.length k) x.Old.Win.Bits.length (x.Old.Win.Bits.map iV)∧x.Old.Win.Bits.length≤1073741824∧w.ownsRow lo 5 1 (.slice l x.Next.length m) x.Next.length (x.Next.map bV)∧x.Next.length≤1073741824∧Aps [(a,b),(d,e),(f,g),(h,i),(j,k),(l,m)]
def QZ (w:World) (lo:Nat) (v:Value) (x:(PEp)) (k:Option Addr×Nat→Option Addr×Nat→Prop):Prop:=∃ (a:Option Addr) (b:Nat) (d:Option Addr) (e:Nat),v=.agg #[.int .i64 x.N,.slice a x.Key.length b,.int .i64 x.Seq,.int .i64 x.Win.Top,.slice d x.Win.Bits.length e]∧w.ownsRow lo 5 1 (.slice a x.Key.length b) x.Key.length (x.Key.map bV)∧x.Key.length≤1073741824∧w.ownsRow lo 3 1 (.slice d x.Win.Bits.length e) x.Win.Bits.length (x.Win.Bits.map iV)∧x.Win.Bits.length≤1073741824∧Aps [(a,b),(d,e)]∧k (a,b) (d,e)
def KA (a:PChan):(PChan):=a
theorem NS (A:World) (au:Value) (a:PChan) (aH:Nc A au a) :Fn Tryz.prog 32 #[au] A (fun v H=>Keep A H∧Rc H A.heap.size v (a)):=by
 obtain ⟨d,I,J,K,L,M,N,O,P,Q,R,S,rfl,aI,aJ,aK,aL,aM,aN,aO,aP,aQ,aR,aS,aT⟩:=aH
 refine Cl (n:=26) [(va (Dv a d I J K L M N O P Q R S))] Tryz.func32 rfl rfl ?_
 refine sr ?_
 refine bx (Dv a d I J K L M N O P Q R S) wN ?_
 intro f t cc cd m o
 refine al Mr wN Fz ?_
 intro ce p aU u g aV
 have B:=((Ch.base A).extk m).extk g
 refine BU<|re<|Cc ?_
 refine CU ([(3,[],[],(fun _ v _=>v=(vp f 0))),(4,[],[0],(fun _ v _=>v=(vi a.Role))),(5,[],[],(fun _ v w=>∃ a0:Addr,v=.slice (some a0) 0 0∧w.ownsRow p.heap.size 5 1 (.slice (some a0) 0 0) 0 [])),(6,[],[],(fun _ v _=>v=(vp f 1))),(7,[],[3],(fun _ v _=>v=(vs d a.Sn.length I))),(8,[],[2,3,4],(fun _ v w=>∃ (d:Option Addr) (i:Nat),v=.slice d a.Sn.length i∧w.ownsRow p.heap.size 5 1 (.slice d a.Sn.length i) a.Sn.length (a.Sn.map bV)∧a.Sn.length≤1073741824∧Aps [(d,i)])),(9,[],[],(fun _ v _=>v=(vp f 2))),(10,[],[6],(fun _ v _=>v=(va (Dd a.Cur J K L M)))),(11,[8],[2,3,4,5,6,7],(fun e v w=>QZ w p.heap.size v a.Cur (fun C D=>Ap (sp (e 8)) C∧Ap (sp (e 8)) D))),(12,[],[],(fun _ v _=>v=(vp f 7))),(13,[],[9],(fun _ v _=>v=(va (Dd a.Old N O P Q)))),(14,[],[],(fun _ v _=>v=(vp f 12))),(15,[],[11],(fun _ v _=>v=(vb a.HasOld))),(16,[8,11],[2,3,4,5,6,7,8,9,10,11,12],(fun e v w=>QZ w p.heap.size v a.Old (fun C D=>Ap (sp (e 8)) C∧Ap (sp (e 8)) D∧Ap (sp (wr (e 11) 1)) C∧Ap (sp (wr (e 11) 1)) D∧Ap (sp (wr (e 11) 4)) C∧Ap (sp (wr (e 11) 4)) D))),(17,[],[],(fun _ v _=>v=(vp f 12))),(18,[],[14],(fun _ v _=>v=(vb a.HasOld))),(19,[],[],(fun _ v _=>v=(vp f 13))),(20,[],[16],(fun _ v _=>v=(vi a.Until))),(21,[],[],(fun _ v w=>∃ a0:Addr,v=.slice (some a0) 0 0∧w.ownsRow p.heap.size 5 1 (.slice (some a0) 0 0) 0 [])),(22,[],[],(fun _ v _=>v=(vp f 14))),(23,[],[19],(fun _ v _=>v=(vs R a.Next.length S))),(24,[8,11,16],[2,3,4,5,6,7,8,9,10,11,12,13,18,19,20],(fun e v w=>∃ (d:Option Addr) (i:Nat),v=.slice d a.Next.length i∧w.ownsRow p.heap.size 5 1 (.slice d a.Next.length i) a.Next.length (a.Next.map bV)∧a.Next.length≤1073741824∧Aps [(d,i)]∧Ap (sp (e 8)) (d,i)∧Ap (sp (wr (e 11) 1)) (d,i)∧Ap (sp (wr (e 11) 4)) (d,i)∧Ap (sp (wr (e 16) 1)) (d,i)∧Ap (sp (wr (e 16) 4)) (d,i)))]:GV) (fun _ H=>Keep p H) [] DN rfl (by kernel_rfl) (by kernel_rfl) ?_ (fun _ _ h=>h) (fun _ _ _ _ h _ k=>h.trans k) trivial ?_ ?_ ?_
 ·exact ⟨hV,hE,⟨hV,hE,⟨(fun e v w t h hk=>by obtain ⟨j,he,l⟩:=h;exact ⟨j,he,gc l hk⟩),hE,⟨hV,hE,⟨hV,hE,⟨(fun e v w t h hk=>by obtain ⟨j,q,he,l,r,hap⟩:=h;exact ⟨j,q,he,gc l hk,r,hap⟩),hE,⟨hV,hE,⟨hV,hE,⟨(fun e v w t h hk=>by obtain ⟨j,q,aj,ak,he,l,r,am,an,hap,hx⟩:=h;exact ⟨j,q,aj,ak,he,gc l hk,r,gc am hk,an,hap,hx⟩),(fun av ax v w hx h=>by have E:=hx 8 (by simp);simp only [E] at h;exact h),⟨hV,hE,⟨hV,hE,⟨hV,hE,⟨hV,hE,⟨(fun e v w t h hk=>by obtain ⟨j,q,aj,ak,he,l,r,am,an,hap,hx⟩:=h;exact ⟨j,q,aj,ak,he,gc l hk,r,gc am hk,an,hap,hx⟩),(fun av ax v w hx h=>by have E:=hx 8 (by simp);have ao:=hx 11 (by simp);simp only [E,ao] at h;exact h),⟨hV,hE,⟨hV,hE,⟨hV,hE,⟨hV,hE,⟨(fun e v w t h hk=>by obtain ⟨j,he,l⟩:=h;exact ⟨j,he,gc l hk⟩),hE,⟨hV,hE,⟨hV,hE,⟨(fun e v w t h hk=>by obtain ⟨j,q,he,l,r,hap,hx⟩:=h;exact ⟨j,q,he,gc l hk,r,hap,hx⟩),(fun av ax v w hx h=>by have E:=hx 8 (by simp);have ao:=hx 11 (by simp);have aW:=hx 16 (by simp);simp only [E,ao,aW] at h;exact h),trivial⟩⟩⟩⟩⟩⟩⟩⟩⟩⟩⟩⟩⟩⟩⟩⟩⟩⟩⟩⟩⟩⟩
 ·exact trivial
 ·refine ⟨?_,⟨?_,⟨?_,⟨?_,⟨?_,⟨?_,⟨?_,⟨?_,⟨?_,⟨?_,⟨?_,⟨?_,⟨?_,⟨?_,⟨?_,⟨?_,⟨?_,⟨?_,⟨?_,⟨?_,⟨?_,⟨?_,trivial⟩⟩⟩⟩⟩⟩⟩⟩⟩⟩⟩⟩⟩⟩⟩⟩⟩⟩⟩⟩⟩⟩
  ·intro _ b cg _
   rintro _ _ _ _ _ _ _ _ _ _ _ _ _ _ _ _ _ _ _ _ _ _
   refine sw ?_
   refine pu (vp f 0) wN ?_
   exact f1
  ·intro _ b aX _
   rintro _ rfl _ _ _ _ _ _ _ _ _ _ _ _ _ _ _ _ _ _ _ _ _
   refine sw ?_
   have aY:=((o.kp g).kp aX)
   refine ld (vi a.Role) wN tE aY ?_
   exact f1
  ·intro _ b aZ _
   rintro _ _ _ _ _ _ _ _ _ _ _ _ _ _ _ _ _ _ _ _ _ _
   refine sw ?_
   refine CR wN rfl rfl tD (fun w=>by kernel_rfl) ?_
   intro ci x ba bb
   exact CN ba ⟨_,rfl,tB bb aZ.size⟩
  ·intro _ b cj _
   rintro _ _ _ _ _ _ _ _ _ _ _ _ _ _ _ _ _ _ _ _ _ _
   refine sw ?_
   refine pu (vp f 1) wN ?_
   exact f1
  ·intro _ b bc _
   rintro _ _ _ _ rfl _ _ _ _ _ _ _ _ _ _ _ _ _ _ _ _ _ _
   refine sw ?_
   have bd:=((o.kp g).kp bc)
   refine ld (vs d a.Sn.length I) wN BT bd ?_
   exact f1
  ·intro _ b ay _
   have be:=B.extk ay
   rintro _ _ _ ⟨ck,rfl,bg⟩ _ rfl _ rfl _ _ _ _ _ _ _ _ _ _ _ _ _ _ _ _ _
   refine sw ?_
   refine ap0 a.Sn wN tD bg (aI.from0 be) ay.size ?_
   intro cm cn x bh bi co
   exact CN bh ⟨_,_,rfl,bi,aJ,⟨trivial,trivial⟩⟩
  ·intro _ b cp _
   rintro _ _ _ _ _ _ _ _ _ _ _ _ _ _ _ _ _ _ _ _ _ _
   refine sw ?_
   refine pu (vp f 2) wN ?_
   exact f1
  ·intro _ b bj _
   rintro _ _ _ _ _ _ _ rfl _ _ _ _ _ _ _ _ _ _ _ _ _ _ _
   refine sw ?_
   have bk:=((o.kp g).kp bj)
   refine lN (Dd a.Cur J K L M) wN Cs BW bk ?_
   exact f1
  ·intro _ b ap _
   have az:=B.extk ap
   rintro _ _ _ ⟨cq,rfl,cr⟩ _ rfl _ rfl _ ⟨cs,cu,rfl,a1,cv,-⟩ _ rfl _ rfl _ _ _ _ _ _ _ _ _ _ _ _ _ _
   refine sw ?_
   refine cl wN (Kc b _ a.Cur (Fh (aK.from0 az) aL (aM.from0 az) aN)) ?_
   rintro _ x ⟨bl,⟨cw,cx,cy,cz,rfl,a2,bm,a3,bn,bo⟩⟩
   exact CN bl ⟨_,_,_,_,rfl,(tB a2 ap.size),bm,(tB a3 ap.size),bn,bo,⟨(Ap.lt a1 a2 (Nat.le_refl _)),(Ap.lt a1 a3 (Nat.le_refl _))⟩⟩
  ·intro _ b c0 _
   rintro _ _ _ _ _ _ _ _ _ _ _ _ _ _ _ _ _ _ _ _ _ _
   refine sw ?_
   refine pu (vp f 7) wN ?_
   exact f1
  ·intro _ b bp _
   rintro _ _ _ _ _ _ _ _ _ _ rfl _ _ _ _ _ _ _ _ _ _ _ _
   refine sw ?_
   have bq:=((o.kp g).kp bp)
   refine lN (Dd a.Old N O P Q) wN Cs BW bq ?_
   exact f1
  ·intro _ b c1 _
   rintro _ _ _ _ _ _ _ _ _ _ _ _ _ _ _ _ _ _ _ _ _ _
   refine sw ?_
   refine pu (vp f 12) wN ?_
   exact f1
  ·intro _ b br _
   rintro _ _ _ _ _ _ _ _ _ _ _ _ rfl _ _ _ _ _ _ _ _ _ _
   refine sw ?_
   have bu:=((o.kp g).kp br)
   refine ld (vb a.HasOld) wN FZ bu ?_
   exact f1
  ·intro _ b aq _
   have a4:=B.extk aq
   rintro _ _ _ ⟨c2,rfl,c3⟩ _ rfl _ rfl _ ⟨c4,c5,rfl,a5,c6,-⟩ _ rfl _ rfl _ ⟨c7,c8,c9,cC,rfl,a6,cD,a7,_⟩ _ rfl _ rfl _ rfl _ rfl _ _ _ _ _ _ _ _ _
   refine sw ?_
   refine cl wN (QG b _ a.Old (Fh (aO.from0 a4) aP (aQ.from0 a4) aR) a.HasOld) ?_
   rintro _ x ⟨bv,⟨cE,cF,cG,cH,rfl,T,bw,V,bz,b0⟩⟩
   exact CN bv ⟨_,_,_,_,rfl,(tB T aq.size),bw,(tB V aq.size),bz,b0,⟨(Ap.lt a5 T (Nat.le_refl _)),(Ap.lt a5 V (Nat.le_refl _)),(Ap.lt a6 T (Nat.le_refl _)),(Ap.lt a6 V (Nat.le_refl _)),(Ap.lt a7 T (Nat.le_refl _)),(Ap.lt a7 V (Nat.le_refl _))⟩⟩
  ·intro _ b cI _
   rintro _ _ _ _ _ _ _ _ _ _ _ _ _ _ _ _ _ _ _ _ _ _
   refine sw ?_
   refine pu (vp f 12) wN ?_
   exact f1
  ·intro _ b b1 _
   rintro _ _ _ _ _ _ _ _ _ _ _ _ _ _ _ rfl _ _ _ _ _ _ _
   refine sw ?_
   have b2:=((o.kp g).kp b1)
   refine ld (vb a.HasOld) wN FZ b2 ?_
   exact f1
  ·intro _ b cJ _
   rintro _ _ _ _ _ _ _ _ _ _ _ _ _ _ _ _ _ _ _ _ _ _
   refine sw ?_
   refine pu (vp f 13) wN ?_
   exact f1
  ·intro _ b b3 _
   rintro _ _ _ _ _ _ _ _ _ _ _ _ _ _ _ _ _ rfl _ _ _ _ _
   refine sw ?_
   have b4:=((o.kp g).kp b3)
   refine ld (vi a.Until) wN tE b4 ?_
   exact f1
  ·intro _ b b5 _
   rintro _ _ _ _ _ _ _ _ _ _ _ _ _ _ _ _ _ _ _ _ _ _
   refine sw ?_
   refine CR wN rfl rfl tD (fun w=>by kernel_rfl) ?_
   intro cK x b6 b7
   exact CN b6 ⟨_,rfl,tB b7 b5.size⟩
  ·intro _ b cL _
   rintro _ _ _ _ _ _ _ _ _ _ _ _ _ _ _ _ _ _ _ _ _ _
   refine sw ?_
   refine pu (vp f 14) wN ?_
   exact f1
  ·intro _ b b8 _
   rintro _ _ _ _ _ _ _ _ _ _ _ _ _ _ _ _ _ _ _ _ rfl _ _
   refine sw ?_
   have b9:=((o.kp g).kp b8)
   refine ld (vs R a.Next.length S) wN BT b9 ?_
   exact f1
  ·intro _ b a8 _
   have bA:=B.extk a8
   rintro _ _ _ ⟨cM,rfl,cN⟩ _ rfl _ rfl _ ⟨cO,cP,rfl,bB,cQ,-⟩ _ rfl _ rfl _ ⟨cR,cS,cT,cU,rfl,bC,cV,bD,_⟩ _ rfl _ rfl _ rfl _ rfl _ ⟨cW,cX,cY,cZ,rfl,bE,da,bF,_⟩ _ _ _ _ _ ⟨db,rfl,bG⟩ _ rfl _ rfl _
   refine sw ?_
   refine ap0 a.Next wN tD bG (aS.from0 bA) a8.size ?_
   intro dc dd x bH bI F
   exact CN bH ⟨_,_,rfl,bI,aT,⟨trivial,trivial⟩,⟨(Ap.new bB F (Nat.le_refl _)),(Ap.new bC F (Nat.le_refl _)),(Ap.new bD F (Nat.le_refl _)),(Ap.new bE F (Nat.le_refl _)),(Ap.new bF F (Nat.le_refl _))⟩⟩
 ·intro _ b a9
  rintro _ rfl _ rfl _ ⟨de,rfl,df⟩ _ rfl _ rfl _ ⟨W,X,rfl,aA,bJ,-⟩ _ rfl _ rfl _ ⟨Y,Z,aa,ab,rfl,aB,bK,aC,bL,bM,aD⟩ _ rfl _ rfl _ rfl _ rfl _ ⟨ac,ad,ae,af,rfl,aE,bN,aF,bO,bP,y⟩ _ rfl _ rfl _ rfl _ rfl _ ⟨dg,rfl,dh⟩ _ rfl _ rfl _ ⟨ah,ai,rfl,aG,bQ,-,G⟩
  refine sw ?_
  refine pu (va (Dv a W X Y Z aa ab ac ad ae af ah ai)) wN ?_
  have bR:=(aV.kp a9)
  refine sv (Dv a W X Y Z aa ab ac ad ae af ah ai) wN BY bR ?_
  intro x s bS di
  have bT:=(B.extk a9).ext s (fun k hk=>by subst hk;exact nT m.size aU)
  refine n3 ?_
  have bU:=(tC aA s (ne1 aA (u)))
  have bW:=(tC aB s (ne1 aB (u)))
  have bX:=(tC aC s (ne1 aC (u)))
  have bY:=(tC aE s (ne1 aE (u)))
  have bZ:=(tC aF s (ne1 aF (u)))
  have ca:=(tC aG s (ne1 aG (u)))
  refine EY (.inl rfl) (va (Dv a W X Y Z aa ab ac ad ae af ah ai)) rfl (Fe (Dv a W X Y Z aa ab ac ad ae af ah ai) rfl bS Cv BY) ?_
  refine ⟨bT.keep0,?_⟩
  have cb:a=a:=by rfl
  rw [cb]
  exact ⟨_,_,_,_,_,_,_,_,_,_,_,_,rfl,(tB bU (z2 m g)),bJ,(tB bW (z2 m g)),bK,(tB bX (z2 m g)),bL,(tB bY (z2 m g)),bN,(tB bZ (z2 m g)),bO,(tB ca (z2 m g)),bQ,⟨⟨(aD.1),⟨(aD.2),⟨(y.1),⟨(y.2.1),⟨(G.1),trivial⟩⟩⟩⟩⟩,⟨⟨(bM.1.1),⟨(y.2.2.1),⟨(y.2.2.2.1),⟨(G.2.1),trivial⟩⟩⟩⟩,⟨⟨(y.2.2.2.2.1),⟨(y.2.2.2.2.2),⟨(G.2.2.1),trivial⟩⟩⟩,⟨⟨(bP.1.1),⟨(G.2.2.2.1),trivial⟩⟩,⟨⟨(G.2.2.2.2),trivial⟩,⟨trivial,trivial⟩⟩⟩⟩⟩⟩⟩

def O_4 (w:World) (lo:Nat) (v:Value) (x:(Bool)):Prop:=v=.bool x
def Cy (a:Int) (b:Int) (d:Int):(Bool):=bif (decide (b≤a)) then (decide (a≤d)) else (false)
theorem EA (f:World) (a:Int) (e:Int) (d:Int) :Fn Tryz.prog 33 #[(vi a),(vi e),(vi d)] f (fun v g=>Keep f g∧O_4 g f.heap.size v (Cy a e d)):=by
 refine Cl (n:=15) [(vi a),(vi e),(vi d)] Tryz.func33 rfl rfl ?_
 refine sr ?_
 refine aw (vb false) ?_
 refine nx ?_
 refine mw (vi a) ?_
 refine mw (vi e) ?_
 refine pu (vb (decide (e≤a))) wN ?_
 refine mw (vb (decide (e≤a))) ?_
 rcases bf (decide (e≤a)) with b|b
 ·have h:=dF b
  iterate 3 refine sk b ?_
  refine pf (vb false) wN b ?_
  refine aw (vb false) ?_
  refine n3 ?_
  refine rt (vb false) ?_
  refine ⟨Ch.refl _ _,?_⟩
  simp only [Cy,b,cond_true,cond_false]
  exact rfl
 have i:=dT b
 refine mv (vi a) (wS b) ?_
 refine mv (vi d) (wS b) ?_
 refine pu (vb (decide (a≤d))) (wS b) ?_
 refine pk (vb (decide (a≤d))) wN b ?_
 refine aw (vb (decide (a≤d))) ?_
 refine n3 ?_
 refine rt (vb (decide (a≤d))) ?_
 refine ⟨Ch.refl _ _,?_⟩
 simp only [Cy,b,cond_true,cond_false]
 exact rfl
theorem CK {n a b:Int} (h:Cy n a b=true):a≤n∧n≤b:=by
  unfold Cy at h
  by_cases h1:a≤n <;> simp [h1] at h
  exact ⟨h1,h⟩
theorem CW {n a b:Int} (h:Cy n a b=false):n < a∨b < n:=by
  unfold Cy at h
  by_cases h1:a≤n <;> simp [h1] at h <;> omega

def Dm (b:PWin) (a:Int):(Bool):=decide ((((b.Bits.getD (((a % 1024) / 32)).toNat 0) / (2:Int) ^ (((a % 1024) % 32)).toNat) % 2)=1)
theorem Kd (d:World) (h:Value) (b:PWin) (k:LD d h b) (a:Int) (q:b.Bits.length=32) (r:0≤a):Fn Tryz.prog 110 #[h,(vi a)] d (fun v i=>Keep d i∧O_4 i d.heap.size v (Dm b a)):=by
 obtain ⟨e,f,rfl,j,s⟩:=k
 refine Cl (n:=19) [(va (DW b e f)),(vi a)] Tryz.func110 rfl rfl ?_
 refine sr ?_
 refine bx (DW b e f) wN ?_
 intro l t u w m o
 have g:=(Ch.base d).extk m
 refine aw (vb false) ?_
 refine nx ?_
 refine mw (vi a) ?_
 refine Fq a 1024 wN rfl rfl (by kernel_rfl) (by first|omega|assumption) ?_
 refine aw (vi (a % 1024)) ?_
 refine nx ?_
 refine pu (vp l 1) wN ?_
 refine ld (vs e b.Bits.length f) wN Dk o ?_
 refine mw (vi (a % 1024)) ?_
 refine GZ (a % 1024) 32 wN rfl rfl (by kernel_rfl) (by omega) (by omega) (by omega) ?_
 refine ix wN ((a % 1024) / 32) Cd (j.from0 g) ?_
 refine ei (x:=b.Bits) ((((a % 1024) / 32)).toNat) wN tE (j.from0 g) ?_
 refine mw (vi (a % 1024)) ?_
 refine Fq (a % 1024) 32 wN rfl rfl (by kernel_rfl) (by first|omega|assumption) ?_
 refine Jg (b.Bits.getD (((a % 1024) / 32)).toNat 0) ((a % 1024) % 32) wN rfl rfl rfl rfl rfl (by omega) (by omega) ?_
 refine FE ((b.Bits.getD (((a % 1024) / 32)).toNat 0) / (2:Int) ^ (((a % 1024) % 32)).toNat) 1 2 1 wN rfl rfl (by decide) (by decide) (by decide) (by kernel_rfl) ?_
 refine pu (vb (decide ((((b.Bits.getD (((a % 1024) / 32)).toNat 0) / (2:Int) ^ (((a % 1024) % 32)).toNat) % 2)=1))) wN ?_
 refine aw (vb (decide ((((b.Bits.getD (((a % 1024) / 32)).toNat 0) / (2:Int) ^ (((a % 1024) % 32)).toNat) % 2)=1))) ?_
 refine n3 ?_
 refine rt (vb (decide ((((b.Bits.getD (((a % 1024) / 32)).toNat 0) / (2:Int) ^ (((a % 1024) % 32)).toNat) % 2)=1))) ?_
 refine ⟨g.keep0,?_⟩
 have p:Dm b a=decide ((((b.Bits.getD (((a % 1024) / 32)).toNat 0) / (2:Int) ^ (((a % 1024) % 32)).toNat) % 2)=1):=by rfl
 rw [p]
 exact rfl

def EQ (w:PWin):Bool:=bif (decide ((w.Bits.length:Int)=32)) then (bif Cy w.Top (-1) 281474976710655 then (bif Fj w.Bits then (bif decide (0≤w.Top) && !(Dm w w.Top) then false else IB (Dm w) (w.Top+1) 1024) else false) else false) else false
theorem NT (s:World) (W:Value) (d:PWin) (an:LD s W d) :Fn Tryz.prog 104 #[W] s (fun v t=>Keep s t∧O_4 t s.heap.size v (EQ d)):=by
 obtain ⟨E,F,rfl,H,N⟩:=an
 refine Cl (n:=46) [(va (DW d E F))] Tryz.func104 rfl rfl ?_
 refine sr ?_
 refine bx (DW d E F) wN ?_
 intro o ao a9 L ap M
 have O:=(Ch.base s).extk ap
 refine aw (vb false) ?_
 refine n4 ?_
 refine jT1 [(1,(vp o 0)),(2,(vb false))] (EQ d=false) ?_ fun X=>?_
 ·intro aq G au aA
  have av:=O.extk au
  refine sr ?_
  refine aw (vb false) ?_
  refine n1 ?_
  refine rt (vb false) ?_
  refine ⟨av.keep0,?_⟩
  rw [aq]
  exact rfl
 refine pu (vp o 1) wN ?_
 refine ld (vs E d.Bits.length F) wN Dk M ?_
 refine ln wN Cd (H.from0 O) ?_
 refine pu (vb (!(decide ((d.Bits.length:Int)=32)))) wN ?_
 refine mw (vb (!(decide ((d.Bits.length:Int)=32)))) ?_
 rcases bf (decide ((d.Bits.length:Int)=32)) with e|e
 ·have aB:=dF e
  iterate 4 refine sk (cA not e) ?_
  refine pk (vb true) wN (cA not e) ?_
  refine n2 ?_
  refine ct (Eq.refl true) ?_
  have ax:EQ d=false:=by first|(simp [EQ,e];done)|(have hz:=FD (x:=d.Bits) (k:=i) (by omega) (by assumption);simp [EQ,e,hz];done)|(have hy:=Dq (x:=d.Bits) (k:=i) (by assumption) (by omega);simp [EQ,e,hy];done)|(have hy:=Dq (x:=d.Bits) (k:=i) (by assumption) (by omega);have hz:=EL (f:=Dm d) (a:=d.Top+1) (b:=1024) (q:=q) (by assumption) (by omega) (by omega);simp [EQ,e,hy,hz];done)|(have hy:=Dq (x:=d.Bits) (k:=i) (by assumption) (by omega);have hz:=EK (f:=Dm d) (a:=d.Top+1) (b:=1024) (q:=q) (by assumption) (by omega);simp [EQ,e,hy,hz];done)
  exact wj (X ax _ (Ch.refl _ _))
 have aC:=dT e
 refine pu (vp o 0) (wS (cA not e)) ?_
 refine ld (vi d.Top) (wS (cA not e)) tE M ?_
 refine cl (wS (cA not e)) (EA ao d.Top (-1) 281474976710655) ?_
 rintro _ G ⟨B,rfl⟩
 have ay:=O.extk B
 refine pu (vb (!(Cy d.Top (-1) 281474976710655))) (wS (cA not e)) ?_
 refine pf (vb (!(Cy d.Top (-1) 281474976710655))) wN (cA not e) ?_
 refine n2 ?_
 rcases bf (Cy d.Top (-1) 281474976710655) with g|g
 ·have aD:=CW g
  refine ct (cA not g) ?_
  have az:EQ d=false:=by first|(simp [EQ,e,g];done)|(have hz:=FD (x:=d.Bits) (k:=i) (by omega) (by assumption);simp [EQ,e,g,hz];done)|(have hy:=Dq (x:=d.Bits) (k:=i) (by assumption) (by omega);simp [EQ,e,g,hy];done)|(have hy:=Dq (x:=d.Bits) (k:=i) (by assumption) (by omega);have hz:=EL (f:=Dm d) (a:=d.Top+1) (b:=1024) (q:=q) (by assumption) (by omega) (by omega);simp [EQ,e,g,hy,hz];done)|(have hy:=Dq (x:=d.Bits) (k:=i) (by assumption) (by omega);have hz:=EK (f:=Dm d) (a:=d.Top+1) (b:=1024) (q:=q) (by assumption) (by omega);simp [EQ,e,g,hy,hz];done)
  exact wj (X az _ B)
 have aE:=CK g
 refine cf (cA not g) ?_
 refine y2 ?_
 refine aw (vi 0) ?_
 refine BU<|re<|Ca ?_
 refine CJ [(1,(vp o 0)),(3,(vi ((0:Nat):Int)))] ⟨rfl,(cA (Value.int .i64) (show (0:Int)=((0:Nat):Int) by omega)),trivial⟩ (fun e' t=>∃ (i:Nat) (Y:Env),e'=pt Y [(1,(vp o 0)),(3,(vi ((i:Nat):Int)))]∧Ch (fun k=>s.heap.size≤k) s t∧Ch (fun k=>G.heap.size≤k) G t∧i≤32∧Fj (d.Bits.take i)=true) (fun e' _=>(32 - (intOf (e' 3))).toNat) ?_ ?_
 ·exact fun u=>⟨0,u,rfl,ay,(Ch.refl (fun k=>G.heap.size≤k) G),(by omega),(by first|rfl|exact Gq (by assumption) (by omega) (by assumption))⟩
 ·rintro _ A ⟨i,Y,rfl,I,K,aF,aG⟩
  refine Cc<|sr ?_
  refine mw (vi ((i:Nat):Int)) ?_
  refine pu (vb (decide (((i:Nat):Int) < 32))) wN ?_
  refine n2 ?_
  rcases bt (decide (((i:Nat):Int) < 32)) with j|j
  ·have aH:=dT j
   refine ct j ?_
   refine Ct<|re<|Cc<|Ca<|sr ?_
   refine pu (vp o 1) wN ?_
   have a0:=((M.kp B).ch K (Nat.not_le.2 (nL L B.size)))
   refine ld (vs E d.Bits.length F) wN Dk a0 ?_
   refine mw (vi ((i:Nat):Int)) ?_
   refine ix wN ((i:Nat):Int) Cd (H.from0 I) ?_
   refine ei (x:=d.Bits) i wN tE (H.from0 I) ?_
   refine cl wN (EA A (d.Bits.getD i 0) 0 4294967295) ?_
   rintro _ w ⟨Z,rfl⟩
   have aa:=I.extk Z
   refine pu (vb (!(Cy (d.Bits.getD i 0) 0 4294967295))) wN ?_
   refine n2 ?_
   rcases bt (Cy (d.Bits.getD i 0) 0 4294967295) with y|y
   ·have aI:=CK y
    refine cf (cA not y) ?_
    refine Ct<|BS<|re<|BZ ?_
    refine mw (vi ((i:Nat):Int)) ?_
    refine ar (((i:Nat):Int)+1) wN ?_
    refine aw (vi (((i:Nat):Int)+1)) ?_
    refine BU ?_
    refine CI (w0:=A) [(1,(vp o 0)),(3,(vi (((i+1):Nat):Int)))] ?_ ?_ ?_
    · exact ⟨rfl,(cA (Value.int .i64) (show ((((i:Nat):Int)+1):Int)=(((i+1):Nat):Int) by omega)),trivial⟩
    · exact fun u=>⟨(i+1),u,rfl,aa,(((Ch.refl (fun k=>G.heap.size≤k) G).ext K (fun k hk=>hk)).extk Z),(by omega),(by first|rfl|exact Gq (by assumption) (by omega) (by assumption))⟩
    · show (32 - (((i+1):Nat):Int)).toNat < (32 - ((i:Nat):Int)).toNat;omega
   have aJ:=CW y
   refine ct (cA not y) ?_
   refine sr ?_
   refine aw (vb false) ?_
   refine BU<|re<|DJ<|CB<|Cb<|Cb<|CB<|Cb ?_
   refine rt (vb false) ?_
   refine ⟨aa.keep0,?_⟩
   have a1:EQ d=false:=by first|(simp [EQ,e,g,j,y];done)|(have hz:=FD (x:=d.Bits) (k:=i) (by omega) (by assumption);simp [EQ,e,g,j,y,hz];done)|(have hy:=Dq (x:=d.Bits) (k:=i) (by assumption) (by omega);simp [EQ,e,g,j,y,hy];done)|(have hy:=Dq (x:=d.Bits) (k:=i) (by assumption) (by omega);have hz:=EL (f:=Dm d) (a:=d.Top+1) (b:=1024) (q:=q) (by assumption) (by omega) (by omega);simp [EQ,e,g,j,y,hy,hz];done)|(have hy:=Dq (x:=d.Bits) (k:=i) (by assumption) (by omega);have hz:=EK (f:=Dm d) (a:=d.Top+1) (b:=1024) (q:=q) (by assumption) (by omega);simp [EQ,e,g,j,y,hy,hz];done)
   rw [a1]
   exact rfl
  have aK:=dF j
  refine cf j ?_
  refine CS<|wb<|wb<|Ce<|re<|Cc<|sr ?_
  refine pu (vp o 0) wN ?_
  have J:=((M.kp B).ch K (Nat.not_le.2 (nL L B.size)))
  refine ld (vi d.Top) wN tE J ?_
  refine pu (vb (decide (0≤d.Top))) wN ?_
  refine mw (vb (decide (0≤d.Top))) ?_
  rcases bf (decide (0≤d.Top)) with h|h
  ·have aL:=dF h
   iterate 5 refine sk h ?_
   refine pf (vb false) wN h ?_
   refine n2 ?_
   refine cf (Eq.refl false) ?_
   refine y2 ?_
   refine pu (vp o 0) wN ?_
   refine ld (vi d.Top) wN tE J ?_
   refine ar (d.Top+1) wN ?_
   refine aw (vi (d.Top+1)) ?_
   refine BU<|re<|Ca ?_
   refine CJ [(1,(vp o 0)),(4,(vi (d.Top+1)))] ⟨rfl,rfl,trivial⟩ (fun e' t=>∃ (q:Int) (ab:Env),e'=pt ab [(1,(vp o 0)),(4,(vi q))]∧Ch (fun k=>s.heap.size≤k) s t∧Ch (fun k=>A.heap.size≤k) A t∧d.Top+1≤q∧q≤281474976710656∧(∀ m:Int,d.Top+1≤m→m < q→Dm d m=false)) (fun e' _=>(1024 - (intOf (e' 4))).toNat) ?_ ?_
   ·exact fun u=>⟨(d.Top+1),u,rfl,I,(Ch.refl (fun k=>A.heap.size≤k) A),(by omega),(by omega),(by first|(intro m P Q;omega)|exact Gn (by assumption) (by assumption))⟩
   ·rintro _ w ⟨q,ab,rfl,R,ac,aM,aN,aO⟩
    refine Cc<|sr ?_
    refine mw (vi q) ?_
    refine pu (vb (decide (q < 1024))) wN ?_
    refine n2 ?_
    rcases bf (decide (q < 1024)) with p|p
    ·have aP:=dF p
     refine cf p ?_
     refine CS<|wb<|wb<|Ce<|re<|sr ?_
     refine aw (vb true) ?_
     refine n3 ?_
     refine rt (vb true) ?_
     refine ⟨R.keep0,?_⟩
     have a2:EQ d=true:=by first|(simp [EQ,e,g,j,h,p];done)|(have hz:=FD (x:=d.Bits) (k:=i) (by omega) (by assumption);simp [EQ,e,g,j,h,p,hz];done)|(have hy:=Dq (x:=d.Bits) (k:=i) (by assumption) (by omega);simp [EQ,e,g,j,h,p,hy];done)|(have hy:=Dq (x:=d.Bits) (k:=i) (by assumption) (by omega);have hz:=EL (f:=Dm d) (a:=d.Top+1) (b:=1024) (q:=q) (by assumption) (by omega) (by omega);simp [EQ,e,g,j,h,p,hy,hz];done)|(have hy:=Dq (x:=d.Bits) (k:=i) (by assumption) (by omega);have hz:=EK (f:=Dm d) (a:=d.Top+1) (b:=1024) (q:=q) (by assumption) (by omega);simp [EQ,e,g,j,h,p,hy,hz];done)
     rw [a2]
     exact rfl
    have aQ:=dT p
    refine ct p ?_
    refine Ct<|re<|Cc<|Ca<|sr ?_
    have a3:=(J.ch ac (Nat.not_le.2 (nL L (z2 B K))))
    refine lN (DW d E F) wN CM Cj a3 ?_
    refine mw (vi q) ?_
    refine cl wN (Kd w _ d (FX (H.from0 R) N) q (by first|assumption|omega) (by first|assumption|omega)) ?_
    rintro _ S ⟨ad,rfl⟩
    have ae:=R.extk ad
    refine n2 ?_
    rcases bf (Dm d q) with C|C
    ·refine cf C ?_
     refine Ct<|BS<|re<|BZ ?_
     refine mw (vi q) ?_
     refine ar (q+1) wN ?_
     refine aw (vi (q+1)) ?_
     refine BU ?_
     refine CI (w0:=w) [(1,(vp o 0)),(4,(vi (q+1)))] ?_ ?_ ?_
     · exact ⟨rfl,rfl,trivial⟩
     · exact fun u=>⟨(q+1),u,rfl,ae,(((Ch.refl (fun k=>A.heap.size≤k) A).ext ac (fun k hk=>hk)).extk ad),(by omega),(by omega),(by first|(intro m P Q;omega)|exact Gn (by assumption) (by assumption))⟩
     · show (1024 - (q+1)).toNat < (1024 - q).toNat;omega
    refine ct C ?_
    refine sr ?_
    refine aw (vb false) ?_
    refine BU<|re<|DJ<|CB<|Cb<|Cb<|CB<|Cb ?_
    refine rt (vb false) ?_
    refine ⟨ae.keep0,?_⟩
    have a4:EQ d=false:=by first|(simp [EQ,e,g,j,h,p,C];done)|(have hz:=FD (x:=d.Bits) (k:=i) (by omega) (by assumption);simp [EQ,e,g,j,h,p,C,hz];done)|(have hy:=Dq (x:=d.Bits) (k:=i) (by assumption) (by omega);simp [EQ,e,g,j,h,p,C,hy];done)|(have hy:=Dq (x:=d.Bits) (k:=i) (by assumption) (by omega);have hz:=EL (f:=Dm d) (a:=d.Top+1) (b:=1024) (q:=q) (by assumption) (by omega) (by omega);simp [EQ,e,g,j,h,p,C,hy,hz];done)|(have hy:=Dq (x:=d.Bits) (k:=i) (by assumption) (by omega);have hz:=EK (f:=Dm d) (a:=d.Top+1) (b:=1024) (q:=q) (by assumption) (by omega);simp [EQ,e,g,j,h,p,C,hy,hz];done)
    rw [a4]
    exact rfl
  have aR:=dT h
  refine lN (DW d E F) (wS h) CM Cj J ?_
  refine pu (vp o 0) (wS h) ?_
  refine ld (vi d.Top) (wS h) tE J ?_
  refine cl (wS h) (Kd A _ d (FX (H.from0 I) N) d.Top (by first|assumption|omega) (by first|assumption|omega)) ?_
  rintro _ w ⟨T,rfl⟩
  have af:=I.extk T
  refine pu (vb (!(Dm d d.Top))) (wS h) ?_
  refine pk (vb (!(Dm d d.Top))) wN h ?_
  refine n2 ?_
  rcases bf (Dm d d.Top) with l|l
  ·refine ct (cA not l) ?_
   refine sr ?_
   refine aw (vb false) ?_
   refine n1 ?_
   refine rt (vb false) ?_
   refine ⟨af.keep0,?_⟩
   have a5:EQ d=false:=by first|(simp [EQ,e,g,j,h,l];done)|(have hz:=FD (x:=d.Bits) (k:=i) (by omega) (by assumption);simp [EQ,e,g,j,h,l,hz];done)|(have hy:=Dq (x:=d.Bits) (k:=i) (by assumption) (by omega);simp [EQ,e,g,j,h,l,hy];done)|(have hy:=Dq (x:=d.Bits) (k:=i) (by assumption) (by omega);have hz:=EL (f:=Dm d) (a:=d.Top+1) (b:=1024) (q:=q) (by assumption) (by omega) (by omega);simp [EQ,e,g,j,h,l,hy,hz];done)|(have hy:=Dq (x:=d.Bits) (k:=i) (by assumption) (by omega);have hz:=EK (f:=Dm d) (a:=d.Top+1) (b:=1024) (q:=q) (by assumption) (by omega);simp [EQ,e,g,j,h,l,hy,hz];done)
   rw [a5]
   exact rfl
  refine cf (cA not l) ?_
  refine y2 ?_
  refine pu (vp o 0) wN ?_
  have ah:=(J.kp T)
  refine ld (vi d.Top) wN tE ah ?_
  refine ar (d.Top+1) wN ?_
  refine aw (vi (d.Top+1)) ?_
  refine BU<|re<|Ca ?_
  refine CJ [(1,(vp o 0)),(4,(vi (d.Top+1)))] ⟨rfl,rfl,trivial⟩ (fun e' t=>∃ (q:Int) (ai:Env),e'=pt ai [(1,(vp o 0)),(4,(vi q))]∧Ch (fun k=>s.heap.size≤k) s t∧Ch (fun k=>w.heap.size≤k) w t∧d.Top+1≤q∧q≤281474976710656∧(∀ m:Int,d.Top+1≤m→m < q→Dm d m=false)) (fun e' _=>(1024 - (intOf (e' 4))).toNat) ?_ ?_
  ·exact fun u=>⟨(d.Top+1),u,rfl,af,(Ch.refl (fun k=>w.heap.size≤k) w),(by omega),(by omega),(by first|(intro m P Q;omega)|exact Gn (by assumption) (by assumption))⟩
  ·rintro _ S ⟨q,ai,rfl,V,aj,aS,aT,aU⟩
   refine Cc<|sr ?_
   refine mw (vi q) ?_
   refine pu (vb (decide (q < 1024))) wN ?_
   refine n2 ?_
   rcases bf (decide (q < 1024)) with r|r
   ·have aV:=dF r
    refine cf r ?_
    refine CS<|wb<|wb<|Ce<|re<|sr ?_
    refine aw (vb true) ?_
    refine n3 ?_
    refine rt (vb true) ?_
    refine ⟨V.keep0,?_⟩
    have a6:EQ d=true:=by first|(simp [EQ,e,g,j,h,l,r];done)|(have hz:=FD (x:=d.Bits) (k:=i) (by omega) (by assumption);simp [EQ,e,g,j,h,l,r,hz];done)|(have hy:=Dq (x:=d.Bits) (k:=i) (by assumption) (by omega);simp [EQ,e,g,j,h,l,r,hy];done)|(have hy:=Dq (x:=d.Bits) (k:=i) (by assumption) (by omega);have hz:=EL (f:=Dm d) (a:=d.Top+1) (b:=1024) (q:=q) (by assumption) (by omega) (by omega);simp [EQ,e,g,j,h,l,r,hy,hz];done)|(have hy:=Dq (x:=d.Bits) (k:=i) (by assumption) (by omega);have hz:=EK (f:=Dm d) (a:=d.Top+1) (b:=1024) (q:=q) (by assumption) (by omega);simp [EQ,e,g,j,h,l,r,hy,hz];done)
    rw [a6]
    exact rfl
   have aW:=dT r
   refine ct r ?_
   refine Ct<|re<|Cc<|Ca<|sr ?_
   have a7:=(ah.ch aj (Nat.not_le.2 (nL L (z3 B K T))))
   refine lN (DW d E F) wN CM Cj a7 ?_
   refine mw (vi q) ?_
   refine cl wN (Kd S _ d (FX (H.from0 V) N) q (by first|assumption|omega) (by first|assumption|omega)) ?_
   rintro _ aX ⟨ak,rfl⟩
   have am:=V.extk ak
   refine n2 ?_
   rcases bf (Dm d q) with D|D
   ·refine cf D ?_
    refine Ct<|BS<|re<|BZ ?_
    refine mw (vi q) ?_
    refine ar (q+1) wN ?_
    refine aw (vi (q+1)) ?_
    refine BU ?_
    refine CI (w0:=S) [(1,(vp o 0)),(4,(vi (q+1)))] ?_ ?_ ?_
    · exact ⟨rfl,rfl,trivial⟩
    · exact fun u=>⟨(q+1),u,rfl,am,(((Ch.refl (fun k=>w.heap.size≤k) w).ext aj (fun k hk=>hk)).extk ak),(by omega),(by omega),(by first|(intro m P Q;omega)|exact Gn (by assumption) (by assumption))⟩
    · show (1024 - (q+1)).toNat < (1024 - q).toNat;omega
   refine ct D ?_
   refine sr ?_
   refine aw (vb false) ?_
   refine BU<|re<|DJ<|CB<|Cb<|Cb<|CB<|Cb ?_
   refine rt (vb false) ?_
   refine ⟨am.keep0,?_⟩
   have a8:EQ d=false:=by first|(simp [EQ,e,g,j,h,l,r,D];done)|(have hz:=FD (x:=d.Bits) (k:=i) (by omega) (by assumption);simp [EQ,e,g,j,h,l,r,D,hz];done)|(have hy:=Dq (x:=d.Bits) (k:=i) (by assumption) (by omega);simp [EQ,e,g,j,h,l,r,D,hy];done)|(have hy:=Dq (x:=d.Bits) (k:=i) (by assumption) (by omega);have hz:=EL (f:=Dm d) (a:=d.Top+1) (b:=1024) (q:=q) (by assumption) (by omega) (by omega);simp [EQ,e,g,j,h,l,r,D,hy,hz];done)|(have hy:=Dq (x:=d.Bits) (k:=i) (by assumption) (by omega);have hz:=EK (f:=Dm d) (a:=d.Top+1) (b:=1024) (q:=q) (by assumption) (by omega);simp [EQ,e,g,j,h,l,r,D,hy,hz];done)
   rw [a8]
   exact rfl
theorem PL {w:PWin} (h:EQ w=true):Fj w.Bits=true∧w.Bits.length=32 ∧ -1≤w.Top∧w.Top≤281474976710655:=by
  unfold EQ at h
  cases h0:decide ((w.Bits.length:Int)=32) with
  | false=>simp only [h0,cond_false] at h;cases h
  | true =>
    cases h1:Cy w.Top (-1) 281474976710655 with
    | false=>simp only [h0,h1,cond_true,cond_false] at h;cases h
    | true =>
      cases h2:Fj w.Bits with
      | false=>simp only [h0,h1,h2,cond_true,cond_false] at h;cases h
      | true =>
        have b:=dT h0
        have a:=CK h1
        exact ⟨rfl,by omega,a.1,a.2⟩

def Eo (a:PEp):(Bool):=bif (Cy a.N 0 4294967295) then (bif (decide ((a.Key.length:Int)=32)) then (bif (Cy a.Seq 0 281474976710656) then ((EQ a.Win)) else (false)) else (false)) else (false)
theorem Mg (f:World) (p:Value) (a:PEp) (u:Lf f p a) :Fn Tryz.prog 65 #[p] f (fun v q=>Keep f q∧O_4 q f.heap.size v (Eo a)):=by
 obtain ⟨i,j,k,l,rfl,w,H,x,y⟩:=u
 refine Cl (n:=22) [(va (Dd a i j k l))] Tryz.func65 rfl rfl ?_
 refine sr ?_
 refine bx (Dd a i j k l) wN ?_
 intro g A I J B r
 refine aw (vb false) ?_
 refine nx ?_
 refine pu (vp g 0) wN ?_
 refine ld (vi a.N) wN tE r ?_
 refine cl wN (EA A a.N 0 4294967295) ?_
 rintro _ C ⟨s,rfl⟩
 have h:=((Ch.base f).extk B).extk s
 refine mw (vb (Cy a.N 0 4294967295)) ?_
 rcases bf (Cy a.N 0 4294967295) with b|b
 ·have K:=CW b
  iterate 4 refine sk b ?_
  refine pf (vb false) wN b ?_
  refine mw (vb false) ?_
  iterate 3 refine sk (Eq.refl false) ?_
  refine pf (vb false) wN (Eq.refl false) ?_
  refine mw (vb false) ?_
  iterate 3 refine sk (Eq.refl false) ?_
  refine pf (vb false) wN (Eq.refl false) ?_
  refine aw (vb false) ?_
  refine n3 ?_
  refine rt (vb false) ?_
  refine ⟨h.keep0,?_⟩
  simp only [Eo,b,cond_true,cond_false]
  exact rfl
 have L:=CK b
 refine pu (vp g 1) (wS b) ?_
 have m:=(r.kp s)
 refine ld (vs i a.Key.length j) (wS b) BT m ?_
 refine ln (wS b) tD (w.from0 h) ?_
 refine pu (vb (decide ((a.Key.length:Int)=32))) (wS b) ?_
 refine pk (vb (decide ((a.Key.length:Int)=32))) wN b ?_
 refine mw (vb (decide ((a.Key.length:Int)=32))) ?_
 rcases bf (decide ((a.Key.length:Int)=32)) with d|d
 ·have M:=dF d
  iterate 3 refine sk d ?_
  refine pf (vb false) wN d ?_
  refine mw (vb false) ?_
  iterate 3 refine sk (Eq.refl false) ?_
  refine pf (vb false) wN (Eq.refl false) ?_
  refine aw (vb false) ?_
  refine n3 ?_
  refine rt (vb false) ?_
  refine ⟨h.keep0,?_⟩
  simp only [Eo,b,d,cond_true,cond_false]
  exact rfl
 have O:=dT d
 refine pu (vp g 2) (wS d) ?_
 refine ld (vi a.Seq) (wS d) tE m ?_
 refine cl (wS d) (EA C a.Seq 0 281474976710656) ?_
 rintro _ D ⟨t,rfl⟩
 have o:=h.extk t
 refine pk (vb (Cy a.Seq 0 281474976710656)) wN d ?_
 refine mw (vb (Cy a.Seq 0 281474976710656)) ?_
 rcases bf (Cy a.Seq 0 281474976710656) with e|e
 ·have P:=CW e
  iterate 3 refine sk e ?_
  refine pf (vb false) wN e ?_
  refine aw (vb false) ?_
  refine n3 ?_
  refine rt (vb false) ?_
  refine ⟨o.keep0,?_⟩
  simp only [Eo,b,d,e,cond_true,cond_false]
  exact rfl
 have Q:=CK e
 refine pu (vp g 3) (wS e) ?_
 have E:=(m.kp t)
 refine lN (DW a.Win k l) (wS e) CM Cj E ?_
 refine cl (wS e) (NT D _ a.Win (FX (x.from0 o) y)) ?_
 rintro _ R ⟨F,rfl⟩
 have G:=o.extk F
 refine pk (vb (EQ a.Win)) wN e ?_
 refine aw (vb (EQ a.Win)) ?_
 refine n3 ?_
 refine rt (vb (EQ a.Win)) ?_
 refine ⟨G.keep0,?_⟩
 simp only [Eo,b,d,e,cond_true,cond_false]
 exact rfl
theorem FV {e:PEp} (h:Eo e=true):0≤e.N∧e.N≤4294967295∧(e.Key.length:Int)=32∧0≤e.Seq∧e.Seq≤281474976710656∧EQ e.Win=true:=by
  simp only [Eo,Bool.cond_false_right,Bool.and_eq_true,decide_eq_true_eq] at h
  have a:=CK h.1
  have b:=CK h.2.2.1
  exact ⟨a.1,a.2,h.2.1,b.1,b.2,h.2.2.2⟩

def En (a:PEp):(Bool):=bif (decide (a.N=0)) then (bif (decide ((a.Key.length:Int)=0)) then (bif (decide (a.Seq=0)) then (bif (decide (a.Win.Top=0)) then (decide ((a.Win.Bits.length:Int)=0)) else (false)) else (false)) else (false)) else (false)
theorem NR (i:World) (p:Value) (a:PEp) (r:Lf i p a) :Fn Tryz.prog 66 #[p] i (fun v q=>Keep i q∧O_4 q i.heap.size v (En a)):=by
 obtain ⟨k,l,m,o,rfl,s,w,t,x⟩:=r
 refine Cl (n:=30) [(va (Dd a k l m o))] Tryz.func66 rfl rfl ?_
 refine sr ?_
 refine bx (Dd a k l m o) wN ?_
 intro g y A B u j
 have h:=(Ch.base i).extk u
 refine aw (vb false) ?_
 refine nx ?_
 refine pu (vp g 0) wN ?_
 refine ld (vi a.N) wN tE j ?_
 refine pu (vb (decide (a.N=0))) wN ?_
 refine mw (vb (decide (a.N=0))) ?_
 rcases bf (decide (a.N=0)) with b|b
 ·have C:=dF b
  iterate 4 refine sk b ?_
  refine pf (vb false) wN b ?_
  refine mw (vb false) ?_
  iterate 3 refine sk (Eq.refl false) ?_
  refine pf (vb false) wN (Eq.refl false) ?_
  refine mw (vb false) ?_
  iterate 4 refine sk (Eq.refl false) ?_
  refine pf (vb false) wN (Eq.refl false) ?_
  refine mw (vb false) ?_
  iterate 5 refine sk (Eq.refl false) ?_
  refine pf (vb false) wN (Eq.refl false) ?_
  refine aw (vb false) ?_
  refine n3 ?_
  refine rt (vb false) ?_
  refine ⟨h.keep0,?_⟩
  simp only [En,b,cond_true,cond_false]
  exact rfl
 have D:=dT b
 refine pu (vp g 1) (wS b) ?_
 refine ld (vs k a.Key.length l) (wS b) BT j ?_
 refine ln (wS b) tD (s.from0 h) ?_
 refine pu (vb (decide ((a.Key.length:Int)=0))) (wS b) ?_
 refine pk (vb (decide ((a.Key.length:Int)=0))) wN b ?_
 refine mw (vb (decide ((a.Key.length:Int)=0))) ?_
 rcases bf (decide ((a.Key.length:Int)=0)) with d|d
 ·have E:=dF d
  iterate 3 refine sk d ?_
  refine pf (vb false) wN d ?_
  refine mw (vb false) ?_
  iterate 4 refine sk (Eq.refl false) ?_
  refine pf (vb false) wN (Eq.refl false) ?_
  refine mw (vb false) ?_
  iterate 5 refine sk (Eq.refl false) ?_
  refine pf (vb false) wN (Eq.refl false) ?_
  refine aw (vb false) ?_
  refine n3 ?_
  refine rt (vb false) ?_
  refine ⟨h.keep0,?_⟩
  simp only [En,b,d,cond_true,cond_false]
  exact rfl
 have F:=dT d
 refine pu (vp g 2) (wS d) ?_
 refine ld (vi a.Seq) (wS d) tE j ?_
 refine pu (vb (decide (a.Seq=0))) (wS d) ?_
 refine pk (vb (decide (a.Seq=0))) wN d ?_
 refine mw (vb (decide (a.Seq=0))) ?_
 rcases bf (decide (a.Seq=0)) with e|e
 ·have G:=dF e
  iterate 4 refine sk e ?_
  refine pf (vb false) wN e ?_
  refine mw (vb false) ?_
  iterate 5 refine sk (Eq.refl false) ?_
  refine pf (vb false) wN (Eq.refl false) ?_
  refine aw (vb false) ?_
  refine n3 ?_
  refine rt (vb false) ?_
  refine ⟨h.keep0,?_⟩
  simp only [En,b,d,e,cond_true,cond_false]
  exact rfl
 have H:=dT e
 refine pu (vp g 3) (wS e) ?_
 refine pu (vp g 3) (wS e) ?_
 refine ld (vi a.Win.Top) (wS e) tE j ?_
 refine pu (vb (decide (a.Win.Top=0))) (wS e) ?_
 refine pk (vb (decide (a.Win.Top=0))) wN e ?_
 refine mw (vb (decide (a.Win.Top=0))) ?_
 rcases bf (decide (a.Win.Top=0)) with f|f
 ·have I:=dF f
  iterate 5 refine sk f ?_
  refine pf (vb false) wN f ?_
  refine aw (vb false) ?_
  refine n3 ?_
  refine rt (vb false) ?_
  refine ⟨h.keep0,?_⟩
  simp only [En,b,d,e,f,cond_true,cond_false]
  exact rfl
 have J:=dT f
 refine pu (vp g 3) (wS f) ?_
 refine pu (vp g 4) (wS f) ?_
 refine ld (vs m a.Win.Bits.length o) (wS f) Dk j ?_
 refine ln (wS f) Cd (t.from0 h) ?_
 refine pu (vb (decide ((a.Win.Bits.length:Int)=0))) (wS f) ?_
 refine pk (vb (decide ((a.Win.Bits.length:Int)=0))) wN f ?_
 refine aw (vb (decide ((a.Win.Bits.length:Int)=0))) ?_
 refine n3 ?_
 refine rt (vb (decide ((a.Win.Bits.length:Int)=0))) ?_
 refine ⟨h.keep0,?_⟩
 simp only [En,b,d,e,f,cond_true,cond_false]
 exact rfl

def CQ (a:PChan):(Bool):=bif (Cy a.Role 0 1) then (bif (decide ((a.Sn.length:Int)=12)) then (bif (Eo a.Cur) then (bif a.HasOld then (bif (decide (a.Role=0)) then (bif (Eo a.Old) then (bif (decide (a.Old.N=(a.Cur.N - 1))) then (bif (Cy a.Until 0 1000005) then (bif (decide ((a.Next.length:Int)=0)) then (true) else (bif (decide ((a.Next.length:Int)=32)) then (decide (a.Cur.N < 4294967295)) else (false))) else (false)) else (false)) else (false)) else (bif (Eo a.Old) then (bif (decide (a.Old.N=(a.Cur.N - 1))) then (bif (Cy a.Until (-1) 1000005) then (bif (decide ((a.Next.length:Int)=0)) then (true) else (false)) else (false)) else (false)) else (false))) else (bif (En a.Old) then (bif (decide (a.Until=0)) then (bif (decide ((a.Next.length:Int)=0)) then (true) else (bif (decide (a.Role=0)) then (bif (decide ((a.Next.length:Int)=32)) then (decide (a.Cur.N < 4294967295)) else (false)) else (false))) else (false)) else (false))) else (false)) else (false)) else (false)
theorem Pm (F:World) (av:Value) (a:PChan) (a3:Nc F av a) :Fn Tryz.prog 27 #[av] F (fun v ax=>Keep F ax∧O_4 ax F.heap.size v (CQ a)):=by
 obtain ⟨X,Y,Z,aa,ab,ac,G,H,I,J,A,B,rfl,a4,aZ,a5,a6,a7,a8,ad,ae,af,ah,K,ba⟩:=a3
 refine Cl (n:=74) [(va (Dv a X Y Z aa ab ac G H I J A B))] Tryz.func27 rfl rfl ?_
 refine sr ?_
 refine bx (Dv a X Y Z aa ab ac G H I J A B) wN ?_
 intro b a9 bb bc aA ay
 have az:=(Ch.base F).extk aA
 refine aw (vb false) ?_
 refine n4 ?_
 refine jT1 [(1,(vp b 0)),(2,(vb false))] (CQ a=false) ?_ fun ai=>?_
 ·intro aB a0 aC bd
  have aD:=az.extk aC
  refine sr ?_
  refine aw (vb false) ?_
  refine n1 ?_
  refine rt (vb false) ?_
  refine ⟨aD.keep0,?_⟩
  rw [aB]
  exact rfl
 refine pu (vp b 0) wN ?_
 refine ld (vi a.Role) wN tE ay ?_
 refine cl wN (EA a9 a.Role 0 1) ?_
 rintro _ a0 ⟨L,rfl⟩
 have R:=az.extk L
 refine pu (vb (!(Cy a.Role 0 1))) wN ?_
 refine mw (vb (!(Cy a.Role 0 1))) ?_
 rcases bf (Cy a.Role 0 1) with d|d
 ·have be:=CW d
  iterate 4 refine sk (cA not d) ?_
  refine pk (vb true) wN (cA not d) ?_
  refine mw (vb true) ?_
  iterate 4 refine sk (Eq.refl true) ?_
  refine pk (vb true) wN (Eq.refl true) ?_
  refine n2 ?_
  refine ct (Eq.refl true) ?_
  have aE:CQ a=false:=by simp only [CQ,d,cond_true,cond_false]
  exact wj (ai aE _ L)
 have bg:=CK d
 refine pu (vp b 1) (wS (cA not d)) ?_
 have aj:=(ay.kp L)
 refine ld (vs X a.Sn.length Y) (wS (cA not d)) BT aj ?_
 refine ln (wS (cA not d)) tD (a4.from0 R) ?_
 refine pu (vb (!(decide ((a.Sn.length:Int)=12)))) (wS (cA not d)) ?_
 refine pf (vb (!(decide ((a.Sn.length:Int)=12)))) wN (cA not d) ?_
 refine mw (vb (!(decide ((a.Sn.length:Int)=12)))) ?_
 rcases bf (decide ((a.Sn.length:Int)=12)) with e|e
 ·have bh:=dF e
  iterate 4 refine sk (cA not e) ?_
  refine pk (vb true) wN (cA not e) ?_
  refine n2 ?_
  refine ct (Eq.refl true) ?_
  have aF:CQ a=false:=by simp only [CQ,d,e,cond_true,cond_false]
  exact wj (ai aF _ L)
 have bi:=dT e
 refine pu (vp b 2) (wS (cA not e)) ?_
 refine lN (Dd a.Cur Z aa ab ac) (wS (cA not e)) Cs BW aj ?_
 refine cl (wS (cA not e)) (Mg a0 _ a.Cur (Fh (a5.from0 R) a6 (a7.from0 R) a8)) ?_
 rintro _ ak ⟨am,rfl⟩
 have p:=R.extk am
 refine pu (vb (!(Eo a.Cur))) (wS (cA not e)) ?_
 refine pf (vb (!(Eo a.Cur))) wN (cA not e) ?_
 refine n2 ?_
 rcases bf (Eo a.Cur) with g|g
 ·refine ct (cA not g) ?_
  have aG:CQ a=false:=by simp only [CQ,d,e,g,cond_true,cond_false]
  exact wj (ai aG _ (L.trans am))
 have bj:=FV g
 refine cf (cA not g) ?_
 refine y2 ?_
 refine pu (vp b 12) wN ?_
 have w:=(aj.kp am)
 refine ld (vb a.HasOld) wN FZ w ?_
 refine n2 ?_
 rcases bf a.HasOld with h|h
 ·refine cf h ?_
  refine sr ?_
  refine jT1 [(1,(vp b 0)),(2,(vb false))] (CQ a=false) ?_ fun a1=>?_
  ·intro aH C aI bk
   have aJ:=p.extk aI
   refine sr ?_
   refine aw (vb false) ?_
   refine n1 ?_
   refine rt (vb false) ?_
   refine ⟨aJ.keep0,?_⟩
   rw [aH]
   exact rfl
  refine pu (vp b 7) wN ?_
  refine lN (Dd a.Old G H I J) wN Cs BW w ?_
  refine cl wN (NR ak _ a.Old (Fh (ad.from0 p) ae (af.from0 p) ah)) ?_
  rintro _ C ⟨S,rfl⟩
  have E:=p.extk S
  refine pu (vb (!(En a.Old))) wN ?_
  refine mw (vb (!(En a.Old))) ?_
  rcases bf (En a.Old) with m|m
  ·iterate 3 refine sk (cA not m) ?_
   refine pk (vb true) wN (cA not m) ?_
   refine n2 ?_
   refine ct (Eq.refl true) ?_
   have aK:CQ a=false:=by simp only [CQ,d,e,g,h,m,cond_true,cond_false]
   exact wj (a1 aK _ S)
  refine pu (vp b 13) (wS (cA not m)) ?_
  have M:=(w.kp S)
  refine ld (vi a.Until) (wS (cA not m)) tE M ?_
  refine pu (vb (!(decide (a.Until=0)))) (wS (cA not m)) ?_
  refine pf (vb (!(decide (a.Until=0)))) wN (cA not m) ?_
  refine n2 ?_
  rcases bf (decide (a.Until=0)) with s|s
  ·have bl:=dF s
   refine ct (cA not s) ?_
   have aL:CQ a=false:=by simp only [CQ,d,e,g,h,m,s,cond_true,cond_false]
   exact wj (a1 aL _ S)
  have bm:=dT s
  refine cf (cA not s) ?_
  refine y2 ?_
  refine pu (vp b 14) wN ?_
  refine ld (vs A a.Next.length B) wN BT M ?_
  refine ln wN tD (K.from0 E) ?_
  refine pu (vb (decide ((a.Next.length:Int)=0))) wN ?_
  refine n2 ?_
  rcases bt (decide ((a.Next.length:Int)=0)) with t|t
  ·have bn:=dT t
   refine ct t ?_
   refine sr ?_
   refine aw (vb true) ?_
   refine n1 ?_
   refine rt (vb true) ?_
   refine ⟨E.keep0,?_⟩
   simp only [CQ,d,e,g,h,m,s,t,cond_true,cond_false]
   exact rfl
  have bo:=dF t
  refine cf t ?_
  refine y1 ?_
  refine pu (vp b 0) wN ?_
  refine ld (vi a.Role) wN tE M ?_
  refine pu (vb (decide (a.Role=0))) wN ?_
  refine mw (vb (decide (a.Role=0))) ?_
  rcases bf (decide (a.Role=0)) with o|o
  ·have bp:=dF o
   iterate 4 refine sk o ?_
   refine pf (vb false) wN o ?_
   refine mw (vb false) ?_
   iterate 4 refine sk (Eq.refl false) ?_
   refine pf (vb false) wN (Eq.refl false) ?_
   refine aw (vb false) ?_
   refine n3 ?_
   refine rt (vb false) ?_
   refine ⟨E.keep0,?_⟩
   simp only [CQ,d,e,g,h,m,s,t,o,cond_true,cond_false]
   exact rfl
  have bq:=dT o
  refine pu (vp b 14) (wS o) ?_
  refine ld (vs A a.Next.length B) (wS o) BT M ?_
  refine ln (wS o) tD (K.from0 E) ?_
  refine pu (vb (decide ((a.Next.length:Int)=32))) (wS o) ?_
  refine pk (vb (decide ((a.Next.length:Int)=32))) wN o ?_
  refine mw (vb (decide ((a.Next.length:Int)=32))) ?_
  rcases bf (decide ((a.Next.length:Int)=32)) with q|q
  ·have br:=dF q
   iterate 4 refine sk q ?_
   refine pf (vb false) wN q ?_
   refine aw (vb false) ?_
   refine n3 ?_
   refine rt (vb false) ?_
   refine ⟨E.keep0,?_⟩
   simp only [CQ,d,e,g,h,m,s,t,o,q,cond_true,cond_false]
   exact rfl
  have bu:=dT q
  refine pu (vp b 2) (wS q) ?_
  refine pu (vp b 2) (wS q) ?_
  refine ld (vi a.Cur.N) (wS q) tE M ?_
  refine pu (vb (decide (a.Cur.N < 4294967295))) (wS q) ?_
  refine pk (vb (decide (a.Cur.N < 4294967295))) wN q ?_
  refine aw (vb (decide (a.Cur.N < 4294967295))) ?_
  refine n3 ?_
  refine rt (vb (decide (a.Cur.N < 4294967295))) ?_
  refine ⟨E.keep0,?_⟩
  simp only [CQ,d,e,g,h,m,s,t,o,q,cond_true,cond_false]
  exact rfl
 refine ct h ?_
 refine sr ?_
 refine aw (vi (-1)) ?_
 refine n4 ?_
 refine pu (vp b 0) wN ?_
 refine ld (vi a.Role) wN tE w ?_
 refine pu (vb (decide (a.Role=0))) wN ?_
 refine n2 ?_
 rcases bf (decide (a.Role=0)) with f|f
 ·have bv:=dF f
  refine cf f ?_
  refine y1 ?_
  refine jT1 [(1,(vp b 0)),(2,(vb false))] (CQ a=false) ?_ fun an=>?_
  ·intro aM C aN bw
   have aO:=p.extk aN
   refine sr ?_
   refine aw (vb false) ?_
   refine n1 ?_
   refine rt (vb false) ?_
   refine ⟨aO.keep0,?_⟩
   rw [aM]
   exact rfl
  refine pu (vp b 7) wN ?_
  refine lN (Dd a.Old G H I J) wN Cs BW w ?_
  refine cl wN (Mg ak _ a.Old (Fh (ad.from0 p) ae (af.from0 p) ah)) ?_
  rintro _ C ⟨O,rfl⟩
  refine pu (vb (!(Eo a.Old))) wN ?_
  refine mw (vb (!(Eo a.Old))) ?_
  rcases bf (Eo a.Old) with j|j
  ·iterate 8 refine sk (cA not j) ?_
   refine pk (vb true) wN (cA not j) ?_
   refine mw (vb true) ?_
   iterate 5 refine sk (Eq.refl true) ?_
   refine pk (vb true) wN (Eq.refl true) ?_
   refine n2 ?_
   refine ct (Eq.refl true) ?_
   have aP:CQ a=false:=by simp only [CQ,d,e,g,h,f,j,cond_true,cond_false]
   exact wj (an aP _ O)
  have bz:=FV j
  refine pu (vp b 7) (wS (cA not j)) ?_
  refine pu (vp b 7) (wS (cA not j)) ?_
  have T:=(w.kp O)
  refine ld (vi a.Old.N) (wS (cA not j)) tE T ?_
  refine pu (vp b 2) (wS (cA not j)) ?_
  refine pu (vp b 2) (wS (cA not j)) ?_
  refine ld (vi a.Cur.N) (wS (cA not j)) tE T ?_
  refine ar (a.Cur.N - 1) (wS (cA not j)) ?_
  refine pu (vb (!(decide (a.Old.N=(a.Cur.N - 1))))) (wS (cA not j)) ?_
  refine pf (vb (!(decide (a.Old.N=(a.Cur.N - 1))))) wN (cA not j) ?_
  refine mw (vb (!(decide (a.Old.N=(a.Cur.N - 1))))) ?_
  rcases bf (decide (a.Old.N=(a.Cur.N - 1))) with l|l
  ·have b0:=dF l
   iterate 5 refine sk (cA not l) ?_
   refine pk (vb true) wN (cA not l) ?_
   refine n2 ?_
   refine ct (Eq.refl true) ?_
   have aQ:CQ a=false:=by simp only [CQ,d,e,g,h,f,j,l,cond_true,cond_false]
   exact wj (an aQ _ O)
  have b1:=dT l
  refine pu (vp b 13) (wS (cA not l)) ?_
  refine ld (vi a.Until) (wS (cA not l)) tE T ?_
  refine mv (vi (-1)) (wS (cA not l)) ?_
  refine cl (wS (cA not l)) (EA C a.Until (-1) 1000005) ?_
  rintro _ aR ⟨ao,rfl⟩
  have ap:=(p.extk O).extk ao
  refine pu (vb (!(Cy a.Until (-1) 1000005))) (wS (cA not l)) ?_
  refine pf (vb (!(Cy a.Until (-1) 1000005))) wN (cA not l) ?_
  refine n2 ?_
  rcases bf (Cy a.Until (-1) 1000005) with x|x
  ·have b2:=CW x
   refine ct (cA not x) ?_
   have aS:CQ a=false:=by simp only [CQ,d,e,g,h,f,j,l,x,cond_true,cond_false]
   exact wj (an aS _ (O.trans ao))
  have b3:=CK x
  refine cf (cA not x) ?_
  refine y2 ?_
  refine pu (vp b 14) wN ?_
  have a2:=(T.kp ao)
  refine ld (vs A a.Next.length B) wN BT a2 ?_
  refine ln wN tD (K.from0 ap) ?_
  refine pu (vb (decide ((a.Next.length:Int)=0))) wN ?_
  refine n2 ?_
  rcases bt (decide ((a.Next.length:Int)=0)) with D|D
  ·have b4:=dT D
   refine ct D ?_
   refine sr ?_
   refine aw (vb true) ?_
   refine n1 ?_
   refine rt (vb true) ?_
   refine ⟨ap.keep0,?_⟩
   simp only [CQ,d,e,g,h,f,j,l,x,D,cond_true,cond_false]
   exact rfl
  have b5:=dF D
  refine cf D ?_
  refine y1 ?_
  refine pu (vp b 0) wN ?_
  refine ld (vi a.Role) wN tE a2 ?_
  refine pu (vb (decide (a.Role=0))) wN ?_
  refine mw (vb (decide (a.Role=0))) ?_
  iterate 4 refine sk f ?_
  refine pf (vb false) wN f ?_
  refine mw (vb false) ?_
  iterate 4 refine sk (Eq.refl false) ?_
  refine pf (vb false) wN (Eq.refl false) ?_
  refine aw (vb false) ?_
  refine n3 ?_
  refine rt (vb false) ?_
  refine ⟨ap.keep0,?_⟩
  simp only [CQ,d,e,g,h,f,j,l,x,D,cond_true,cond_false]
  exact rfl
 have b6:=dT f
 refine ct f ?_
 refine BZ ?_
 refine aw (vi 0) ?_
 refine nx ?_
 refine jT1 [(1,(vp b 0)),(2,(vb false))] (CQ a=false) ?_ fun aq=>?_
 ·intro aT C aU b7
  have aV:=p.extk aU
  refine sr ?_
  refine aw (vb false) ?_
  refine n1 ?_
  refine rt (vb false) ?_
  refine ⟨aV.keep0,?_⟩
  rw [aT]
  exact rfl
 refine pu (vp b 7) wN ?_
 refine lN (Dd a.Old G H I J) wN Cs BW w ?_
 refine cl wN (Mg ak _ a.Old (Fh (ad.from0 p) ae (af.from0 p) ah)) ?_
 rintro _ C ⟨P,rfl⟩
 refine pu (vb (!(Eo a.Old))) wN ?_
 refine mw (vb (!(Eo a.Old))) ?_
 rcases bf (Eo a.Old) with i|i
 ·iterate 8 refine sk (cA not i) ?_
  refine pk (vb true) wN (cA not i) ?_
  refine mw (vb true) ?_
  iterate 5 refine sk (Eq.refl true) ?_
  refine pk (vb true) wN (Eq.refl true) ?_
  refine n2 ?_
  refine ct (Eq.refl true) ?_
  have aW:CQ a=false:=by simp only [CQ,d,e,g,h,f,i,cond_true,cond_false]
  exact wj (aq aW _ P)
 have b8:=FV i
 refine pu (vp b 7) (wS (cA not i)) ?_
 refine pu (vp b 7) (wS (cA not i)) ?_
 have V:=(w.kp P)
 refine ld (vi a.Old.N) (wS (cA not i)) tE V ?_
 refine pu (vp b 2) (wS (cA not i)) ?_
 refine pu (vp b 2) (wS (cA not i)) ?_
 refine ld (vi a.Cur.N) (wS (cA not i)) tE V ?_
 refine ar (a.Cur.N - 1) (wS (cA not i)) ?_
 refine pu (vb (!(decide (a.Old.N=(a.Cur.N - 1))))) (wS (cA not i)) ?_
 refine pf (vb (!(decide (a.Old.N=(a.Cur.N - 1))))) wN (cA not i) ?_
 refine mw (vb (!(decide (a.Old.N=(a.Cur.N - 1))))) ?_
 rcases bf (decide (a.Old.N=(a.Cur.N - 1))) with k|k
 ·have b9:=dF k
  iterate 5 refine sk (cA not k) ?_
  refine pk (vb true) wN (cA not k) ?_
  refine n2 ?_
  refine ct (Eq.refl true) ?_
  have aX:CQ a=false:=by simp only [CQ,d,e,g,h,f,i,k,cond_true,cond_false]
  exact wj (aq aX _ P)
 have bA:=dT k
 refine pu (vp b 13) (wS (cA not k)) ?_
 refine ld (vi a.Until) (wS (cA not k)) tE V ?_
 refine mv (vi 0) (wS (cA not k)) ?_
 refine cl (wS (cA not k)) (EA C a.Until 0 1000005) ?_
 rintro _ aR ⟨au,rfl⟩
 have Q:=(p.extk P).extk au
 refine pu (vb (!(Cy a.Until 0 1000005))) (wS (cA not k)) ?_
 refine pf (vb (!(Cy a.Until 0 1000005))) wN (cA not k) ?_
 refine n2 ?_
 rcases bf (Cy a.Until 0 1000005) with u|u
 ·have bB:=CW u
  refine ct (cA not u) ?_
  have aY:CQ a=false:=by simp only [CQ,d,e,g,h,f,i,k,u,cond_true,cond_false]
  exact wj (aq aY _ (P.trans au))
 have bC:=CK u
 refine cf (cA not u) ?_
 refine y2 ?_
 refine pu (vp b 14) wN ?_
 have W:=(V.kp au)
 refine ld (vs A a.Next.length B) wN BT W ?_
 refine ln wN tD (K.from0 Q) ?_
 refine pu (vb (decide ((a.Next.length:Int)=0))) wN ?_
 refine n2 ?_
 rcases bt (decide ((a.Next.length:Int)=0)) with y|y
 ·have bD:=dT y
  refine ct y ?_
  refine sr ?_
  refine aw (vb true) ?_
  refine n1 ?_
  refine rt (vb true) ?_
  refine ⟨Q.keep0,?_⟩
  simp only [CQ,d,e,g,h,f,i,k,u,y,cond_true,cond_false]
  exact rfl
 have bE:=dF y
 refine cf y ?_
 refine y1 ?_
 refine pu (vp b 0) wN ?_
 refine ld (vi a.Role) wN tE W ?_
 refine pu (vb (decide (a.Role=0))) wN ?_
 refine mw (vb (decide (a.Role=0))) ?_
 refine pu (vp b 14) (wS f) ?_
 refine ld (vs A a.Next.length B) (wS f) BT W ?_
 refine ln (wS f) tD (K.from0 Q) ?_
 refine pu (vb (decide ((a.Next.length:Int)=32))) (wS f) ?_
 refine pk (vb (decide ((a.Next.length:Int)=32))) wN f ?_
 refine mw (vb (decide ((a.Next.length:Int)=32))) ?_
 rcases bf (decide ((a.Next.length:Int)=32)) with r|r
 ·have bF:=dF r
  iterate 4 refine sk r ?_
  refine pf (vb false) wN r ?_
  refine aw (vb false) ?_
  refine n3 ?_
  refine rt (vb false) ?_
  refine ⟨Q.keep0,?_⟩
  simp only [CQ,d,e,g,h,f,i,k,u,y,r,cond_true,cond_false]
  exact rfl
 have bG:=dT r
 refine pu (vp b 2) (wS r) ?_
 refine pu (vp b 2) (wS r) ?_
 refine ld (vi a.Cur.N) (wS r) tE W ?_
 refine pu (vb (decide (a.Cur.N < 4294967295))) (wS r) ?_
 refine pk (vb (decide (a.Cur.N < 4294967295))) wN r ?_
 refine aw (vb (decide (a.Cur.N < 4294967295))) ?_
 refine n3 ?_
 refine rt (vb (decide (a.Cur.N < 4294967295))) ?_
 refine ⟨Q.keep0,?_⟩
 simp only [CQ,d,e,g,h,f,i,k,u,y,r,cond_true,cond_false]
 exact rfl
theorem JL {c:PChan} (h:CQ c=true):0≤c.Cur.N∧c.Cur.N≤4294967295∧0≤c.Role∧c.Role≤1:=by
  simp only [CQ,Bool.cond_false_right,Bool.and_eq_true] at h
  have b:=CK h.1
  have a:=FV h.2.2.1
  exact ⟨a.1,a.2.1,by omega,by omega⟩

def Ej (a:Int):(Bool):=(Cy a 4 8)
theorem Ke (b:World) (a:Int) :Fn Tryz.prog 35 #[(vi a)] b (fun v d=>Keep b d∧O_4 d b.heap.size v (Ej a)):=by
 refine Cl (n:=5) [(vi a)] Tryz.func35 rfl rfl ?_
 refine sr ?_
 refine aw (vb false) ?_
 refine nx ?_
 refine mw (vi a) ?_
 refine cl wN (EA b a 4 8) ?_
 rintro _ h ⟨e,rfl⟩
 have f:=(Ch.base b).extk e
 refine aw (vb (Cy a 4 8)) ?_
 refine n3 ?_
 refine rt (vb (Cy a 4 8)) ?_
 refine ⟨f.keep0,?_⟩
 have g:Ej a=(Cy a 4 8):=by rfl
 rw [g]
 exact rfl

def Ey (b:Int) (a:Int):(Bool):=bif (decide (b=4)) then (decide (a≤40)) else (bif (decide (b=5)) then (decide (a=12)) else (bif (decide (b=6)) then (decide (a=12)) else (decide (a=4))))
theorem Pg (g:World) (b:Int) (a:Int) :Fn Tryz.prog 71 #[(vi b),(vi a)] g (fun v h=>Keep g h∧O_4 h g.heap.size v (Ey b a)):=by
 refine Cl (n:=19) [(vi b),(vi a)] Tryz.func71 rfl rfl ?_
 refine sr ?_
 refine aw (vb false) ?_
 refine n4 ?_
 refine mw (vi b) ?_
 refine pu (vb (decide (b=4))) wN ?_
 refine n2 ?_
 rcases bt (decide (b=4)) with e|e
 ·have p:=dT e
  refine ct e ?_
  refine sr ?_
  refine mw (vi a) ?_
  refine pu (vb (decide (a≤40))) wN ?_
  refine aw (vb (decide (a≤40))) ?_
  refine n1 ?_
  refine rt (vb (decide (a≤40))) ?_
  refine ⟨Ch.refl _ _,?_⟩
  simp only [Ey,e,cond_true,cond_false]
  exact rfl
 have q:=dF e
 refine cf e ?_
 refine y2 ?_
 refine jT1 [(1,(vi a)),(4,(vb false))] (Ey b a=(decide (a=12))) ?_ fun i=>?_
 ·intro j r k s
  have l:=(Ch.base g).extk k
  refine sr ?_
  refine mw (vi a) ?_
  refine pu (vb (decide (a=12))) wN ?_
  refine aw (vb (decide (a=12))) ?_
  refine n1 ?_
  refine rt (vb (decide (a=12))) ?_
  refine ⟨l.keep0,?_⟩
  rw [j]
  exact rfl
 refine mw (vi b) ?_
 refine pu (vb (decide (b=5))) wN ?_
 refine mw (vb (decide (b=5))) ?_
 rcases bt (decide (b=5)) with d|d
 ·have t:=dT d
  iterate 2 refine sk d ?_
  refine pk (vb true) wN d ?_
  refine n2 ?_
  refine ct (Eq.refl true) ?_
  have m:Ey b a=(decide (a=12)):=by simp only [Ey,e,d,cond_true,cond_false]
  exact wj (i m _ (Ch.refl _ _))
 have u:=dF d
 refine mv (vi b) (wS d) ?_
 refine pu (vb (decide (b=6))) (wS d) ?_
 refine pf (vb (decide (b=6))) wN d ?_
 refine n2 ?_
 rcases bt (decide (b=6)) with f|f
 ·have w:=dT f
  refine ct f ?_
  have o:Ey b a=(decide (a=12)):=by simp only [Ey,e,d,f,cond_true,cond_false]
  exact wj (i o _ (Ch.refl _ _))
 have x:=dF f
 refine cf f ?_
 refine y1 ?_
 refine mw (vi a) ?_
 refine pu (vb (decide (a=4))) wN ?_
 refine aw (vb (decide (a=4))) ?_
 refine n3 ?_
 refine rt (vb (decide (a=4))) ?_
 refine ⟨Ch.refl _ _,?_⟩
 simp only [Ey,e,d,f,cond_true,cond_false]
 exact rfl

abbrev EB (x:PFrame) (a:Option Addr) (b:Nat) (d:Option Addr) (e:Nat) (f:Option Addr) (g:Nat) (h:Option Addr) (i:Nat) (j:Option Addr) (k:Nat) (l:Option Addr) (m:Nat):List Value:=[vi x.Kind,vi x.Id,vs a x.Cn.length b,vs d x.Sn.length e,vi x.Tick,vs f x.Cookie.length g,vs h x.Proof.length i,vi x.Epoch,vi x.Seq,vs j x.Body.length k,vs l x.Tag.length m]
def JC (w:World) (v:Value) (x:(PFrame)):Prop:=∃ (a:Option Addr) (b:Nat) (d:Option Addr) (e:Nat) (f:Option Addr) (g:Nat) (h:Option Addr) (i:Nat) (j:Option Addr) (k:Nat) (l:Option Addr) (m:Nat),v=.agg #[.int .i64 x.Kind,.int .i64 x.Id,.slice a x.Cn.length b,.slice d x.Sn.length e,.int .i64 x.Tick,.slice f x.Cookie.length g,.slice h x.Proof.length i,.int .i64 x.Epoch,.int .i64 x.Seq,.slice j x.Body.length k,.slice l x.Tag.length m]∧Rd w 1 (.slice a x.Cn.length b) x.Cn.length (x.Cn.map bV)∧x.Cn.length≤1073741824∧Rd w 1 (.slice d x.Sn.length e) x.Sn.length (x.Sn.map bV)∧x.Sn.length≤1073741824∧Rd w 1 (.slice f x.Cookie.length g) x.Cookie.length (x.Cookie.map bV)∧x.Cookie.length≤1073741824∧Rd w 1 (.slice h x.Proof.length i) x.Proof.length (x.Proof.map bV)∧x.Proof.length≤1073741824∧Rd w 1 (.slice j x.Body.length k) x.Body.length (x.Body.map bV)∧x.Body.length≤1073741824∧Rd w 1 (.slice l x.Tag.length m) x.Tag.length (x.Tag.map bV)∧x.Tag.length≤1073741824
def Cx (a:PFrame):(Bool):=bif (Ej a.Kind) then (bif (decide (a.Id=0)) then (bif (decide ((a.Cn.length:Int)=0)) then (bif (decide ((a.Sn.length:Int)=12)) then (bif (decide (a.Tick=0)) then (bif (decide ((a.Cookie.length:Int)=0)) then (bif (decide ((a.Proof.length:Int)=0)) then (bif (Cy a.Epoch 0 4294967295) then (bif (Cy a.Seq 0 281474976710655) then (bif (Ey a.Kind (a.Body.length:Int)) then (decide ((a.Tag.length:Int)=16)) else (false)) else (false)) else (false)) else (false)) else (false)) else (false)) else (false)) else (false)) else (false)) else (bif (decide (a.Epoch=0)) then (bif (decide (a.Seq=0)) then (bif (decide ((a.Body.length:Int)=0)) then (bif (decide ((a.Tag.length:Int)=0)) then (bif (decide ((a.Cn.length:Int)=12)) then (bif (decide (a.Kind=1)) then (bif (Cy a.Id 1 9) then (bif (decide ((a.Sn.length:Int)=0)) then (bif (decide (a.Tick=0)) then (bif (decide ((a.Cookie.length:Int)=0)) then (decide ((a.Proof.length:Int)=0)) else (false)) else (false)) else (false)) else (false)) else (bif (decide (a.Kind=2)) then (bif (decide (a.Id=0)) then (bif (decide ((a.Sn.length:Int)=12)) then (bif (Cy a.Tick 0 1000000) then (bif (decide ((a.Cookie.length:Int)=16)) then (decide ((a.Proof.length:Int)=0)) else (false)) else (false)) else (false)) else (false)) else (bif (decide (a.Kind=3)) then (bif (Cy a.Id 1 9) then (bif (decide ((a.Sn.length:Int)=12)) then (bif (Cy a.Tick 0 1000000) then (bif (decide ((a.Cookie.length:Int)=16)) then (decide ((a.Proof.length:Int)=16)) else (false)) else (false)) else (false)) else (false)) else (false)))) else (false)) else (false)) else (false)) else (false)) else (false))
theorem KW (W:World) (ay:Value) (a:PFrame) (aF:JC W ay a) :Fn Tryz.prog 34 #[ay] W (fun v az=>Keep W az∧O_4 az W.heap.size v (Cx a)):=by
 obtain ⟨aa,ab,O,P,Q,R,S,T,ac,ad,ae,af,rfl,a0,aR,ah,aS,ai,aT,aj,aU,a1,aV,a2,aW⟩:=aF
 refine Cl (n:=174) [(va (EB a aa ab O P Q R S T ac ad ae af))] Tryz.func34 rfl rfl ?_
 refine sr ?_
 refine bx (EB a aa ab O P Q R S T ac ad ae af) wN ?_
 intro b aG aX aY aH ao
 refine aw (vb false) ?_
 refine n4 ?_
 refine pu (vp b 0) wN ?_
 refine ld (vi a.Kind) wN tE ao ?_
 refine cl wN (Ke aG a.Kind) ?_
 rintro _ ak ⟨ap,rfl⟩
 have i:=((Ch.base W).extk aH).extk ap
 refine n2 ?_
 rcases bt (Ej a.Kind) with d|d
 ·refine ct d ?_
  refine sr ?_
  refine pu (vp b 1) wN ?_
  have M:=(ao.kp ap)
  refine ld (vi a.Id) wN tE M ?_
  refine pu (vb (decide (a.Id=0))) wN ?_
  refine mw (vb (decide (a.Id=0))) ?_
  rcases bf (decide (a.Id=0)) with l|l
  ·have aZ:=dF l
   iterate 4 refine sk l ?_
   refine pf (vb false) wN l ?_
   refine mw (vb false) ?_
   iterate 4 refine sk (Eq.refl false) ?_
   refine pf (vb false) wN (Eq.refl false) ?_
   refine mw (vb false) ?_
   iterate 3 refine sk (Eq.refl false) ?_
   refine pf (vb false) wN (Eq.refl false) ?_
   refine mw (vb false) ?_
   iterate 4 refine sk (Eq.refl false) ?_
   refine pf (vb false) wN (Eq.refl false) ?_
   refine mw (vb false) ?_
   iterate 4 refine sk (Eq.refl false) ?_
   refine pf (vb false) wN (Eq.refl false) ?_
   refine mw (vb false) ?_
   iterate 3 refine sk (Eq.refl false) ?_
   refine pf (vb false) wN (Eq.refl false) ?_
   refine mw (vb false) ?_
   iterate 3 refine sk (Eq.refl false) ?_
   refine pf (vb false) wN (Eq.refl false) ?_
   refine mw (vb false) ?_
   iterate 6 refine sk (Eq.refl false) ?_
   refine pf (vb false) wN (Eq.refl false) ?_
   refine mw (vb false) ?_
   iterate 4 refine sk (Eq.refl false) ?_
   refine pf (vb false) wN (Eq.refl false) ?_
   refine aw (vb false) ?_
   refine n1 ?_
   refine rt (vb false) ?_
   refine ⟨i.keep0,?_⟩
   simp only [Cx,d,l,cond_true,cond_false]
   exact rfl
  have ba:=dT l
  refine pu (vp b 2) (wS l) ?_
  refine ld (vs aa a.Cn.length ab) (wS l) BT M ?_
  refine ln (wS l) tD (a0.from0 i) ?_
  refine pu (vb (decide ((a.Cn.length:Int)=0))) (wS l) ?_
  refine pk (vb (decide ((a.Cn.length:Int)=0))) wN l ?_
  refine mw (vb (decide ((a.Cn.length:Int)=0))) ?_
  rcases bf (decide ((a.Cn.length:Int)=0)) with m|m
  ·have bb:=dF m
   iterate 4 refine sk m ?_
   refine pf (vb false) wN m ?_
   refine mw (vb false) ?_
   iterate 3 refine sk (Eq.refl false) ?_
   refine pf (vb false) wN (Eq.refl false) ?_
   refine mw (vb false) ?_
   iterate 4 refine sk (Eq.refl false) ?_
   refine pf (vb false) wN (Eq.refl false) ?_
   refine mw (vb false) ?_
   iterate 4 refine sk (Eq.refl false) ?_
   refine pf (vb false) wN (Eq.refl false) ?_
   refine mw (vb false) ?_
   iterate 3 refine sk (Eq.refl false) ?_
   refine pf (vb false) wN (Eq.refl false) ?_
   refine mw (vb false) ?_
   iterate 3 refine sk (Eq.refl false) ?_
   refine pf (vb false) wN (Eq.refl false) ?_
   refine mw (vb false) ?_
   iterate 6 refine sk (Eq.refl false) ?_
   refine pf (vb false) wN (Eq.refl false) ?_
   refine mw (vb false) ?_
   iterate 4 refine sk (Eq.refl false) ?_
   refine pf (vb false) wN (Eq.refl false) ?_
   refine aw (vb false) ?_
   refine n1 ?_
   refine rt (vb false) ?_
   refine ⟨i.keep0,?_⟩
   simp only [Cx,d,l,m,cond_true,cond_false]
   exact rfl
  have bc:=dT m
  refine pu (vp b 3) (wS m) ?_
  refine ld (vs O a.Sn.length P) (wS m) BT M ?_
  refine ln (wS m) tD (ah.from0 i) ?_
  refine pu (vb (decide ((a.Sn.length:Int)=12))) (wS m) ?_
  refine pk (vb (decide ((a.Sn.length:Int)=12))) wN m ?_
  refine mw (vb (decide ((a.Sn.length:Int)=12))) ?_
  rcases bf (decide ((a.Sn.length:Int)=12)) with o|o
  ·have bd:=dF o
   iterate 3 refine sk o ?_
   refine pf (vb false) wN o ?_
   refine mw (vb false) ?_
   iterate 4 refine sk (Eq.refl false) ?_
   refine pf (vb false) wN (Eq.refl false) ?_
   refine mw (vb false) ?_
   iterate 4 refine sk (Eq.refl false) ?_
   refine pf (vb false) wN (Eq.refl false) ?_
   refine mw (vb false) ?_
   iterate 3 refine sk (Eq.refl false) ?_
   refine pf (vb false) wN (Eq.refl false) ?_
   refine mw (vb false) ?_
   iterate 3 refine sk (Eq.refl false) ?_
   refine pf (vb false) wN (Eq.refl false) ?_
   refine mw (vb false) ?_
   iterate 6 refine sk (Eq.refl false) ?_
   refine pf (vb false) wN (Eq.refl false) ?_
   refine mw (vb false) ?_
   iterate 4 refine sk (Eq.refl false) ?_
   refine pf (vb false) wN (Eq.refl false) ?_
   refine aw (vb false) ?_
   refine n1 ?_
   refine rt (vb false) ?_
   refine ⟨i.keep0,?_⟩
   simp only [Cx,d,l,m,o,cond_true,cond_false]
   exact rfl
  have be:=dT o
  refine pu (vp b 4) (wS o) ?_
  refine ld (vi a.Tick) (wS o) tE M ?_
  refine pu (vb (decide (a.Tick=0))) (wS o) ?_
  refine pk (vb (decide (a.Tick=0))) wN o ?_
  refine mw (vb (decide (a.Tick=0))) ?_
  rcases bf (decide (a.Tick=0)) with p|p
  ·have bg:=dF p
   iterate 4 refine sk p ?_
   refine pf (vb false) wN p ?_
   refine mw (vb false) ?_
   iterate 4 refine sk (Eq.refl false) ?_
   refine pf (vb false) wN (Eq.refl false) ?_
   refine mw (vb false) ?_
   iterate 3 refine sk (Eq.refl false) ?_
   refine pf (vb false) wN (Eq.refl false) ?_
   refine mw (vb false) ?_
   iterate 3 refine sk (Eq.refl false) ?_
   refine pf (vb false) wN (Eq.refl false) ?_
   refine mw (vb false) ?_
   iterate 6 refine sk (Eq.refl false) ?_
   refine pf (vb false) wN (Eq.refl false) ?_
   refine mw (vb false) ?_
   iterate 4 refine sk (Eq.refl false) ?_
   refine pf (vb false) wN (Eq.refl false) ?_
   refine aw (vb false) ?_
   refine n1 ?_
   refine rt (vb false) ?_
   refine ⟨i.keep0,?_⟩
   simp only [Cx,d,l,m,o,p,cond_true,cond_false]
   exact rfl
  have bh:=dT p
  refine pu (vp b 5) (wS p) ?_
  refine ld (vs Q a.Cookie.length R) (wS p) BT M ?_
  refine ln (wS p) tD (ai.from0 i) ?_
  refine pu (vb (decide ((a.Cookie.length:Int)=0))) (wS p) ?_
  refine pk (vb (decide ((a.Cookie.length:Int)=0))) wN p ?_
  refine mw (vb (decide ((a.Cookie.length:Int)=0))) ?_
  rcases bf (decide ((a.Cookie.length:Int)=0)) with q|q
  ·have bi:=dF q
   iterate 4 refine sk q ?_
   refine pf (vb false) wN q ?_
   refine mw (vb false) ?_
   iterate 3 refine sk (Eq.refl false) ?_
   refine pf (vb false) wN (Eq.refl false) ?_
   refine mw (vb false) ?_
   iterate 3 refine sk (Eq.refl false) ?_
   refine pf (vb false) wN (Eq.refl false) ?_
   refine mw (vb false) ?_
   iterate 6 refine sk (Eq.refl false) ?_
   refine pf (vb false) wN (Eq.refl false) ?_
   refine mw (vb false) ?_
   iterate 4 refine sk (Eq.refl false) ?_
   refine pf (vb false) wN (Eq.refl false) ?_
   refine aw (vb false) ?_
   refine n1 ?_
   refine rt (vb false) ?_
   refine ⟨i.keep0,?_⟩
   simp only [Cx,d,l,m,o,p,q,cond_true,cond_false]
   exact rfl
  have bj:=dT q
  refine pu (vp b 6) (wS q) ?_
  refine ld (vs S a.Proof.length T) (wS q) BT M ?_
  refine ln (wS q) tD (aj.from0 i) ?_
  refine pu (vb (decide ((a.Proof.length:Int)=0))) (wS q) ?_
  refine pk (vb (decide ((a.Proof.length:Int)=0))) wN q ?_
  refine mw (vb (decide ((a.Proof.length:Int)=0))) ?_
  rcases bf (decide ((a.Proof.length:Int)=0)) with x|x
  ·have bk:=dF x
   iterate 3 refine sk x ?_
   refine pf (vb false) wN x ?_
   refine mw (vb false) ?_
   iterate 3 refine sk (Eq.refl false) ?_
   refine pf (vb false) wN (Eq.refl false) ?_
   refine mw (vb false) ?_
   iterate 6 refine sk (Eq.refl false) ?_
   refine pf (vb false) wN (Eq.refl false) ?_
   refine mw (vb false) ?_
   iterate 4 refine sk (Eq.refl false) ?_
   refine pf (vb false) wN (Eq.refl false) ?_
   refine aw (vb false) ?_
   refine n1 ?_
   refine rt (vb false) ?_
   refine ⟨i.keep0,?_⟩
   simp only [Cx,d,l,m,o,p,q,x,cond_true,cond_false]
   exact rfl
  have bl:=dT x
  refine pu (vp b 7) (wS x) ?_
  refine ld (vi a.Epoch) (wS x) tE M ?_
  refine cl (wS x) (EA ak a.Epoch 0 4294967295) ?_
  rintro _ V ⟨a3,rfl⟩
  have a4:=i.extk a3
  refine pk (vb (Cy a.Epoch 0 4294967295)) wN x ?_
  refine mw (vb (Cy a.Epoch 0 4294967295)) ?_
  rcases bf (Cy a.Epoch 0 4294967295) with A|A
  ·have bm:=CW A
   iterate 3 refine sk A ?_
   refine pf (vb false) wN A ?_
   refine mw (vb false) ?_
   iterate 6 refine sk (Eq.refl false) ?_
   refine pf (vb false) wN (Eq.refl false) ?_
   refine mw (vb false) ?_
   iterate 4 refine sk (Eq.refl false) ?_
   refine pf (vb false) wN (Eq.refl false) ?_
   refine aw (vb false) ?_
   refine n1 ?_
   refine rt (vb false) ?_
   refine ⟨a4.keep0,?_⟩
   simp only [Cx,d,l,m,o,p,q,x,A,cond_true,cond_false]
   exact rfl
  have bn:=CK A
  refine pu (vp b 8) (wS A) ?_
  have a5:=(M.kp a3)
  refine ld (vi a.Seq) (wS A) tE a5 ?_
  refine cl (wS A) (EA V a.Seq 0 281474976710655) ?_
  rintro _ a6 ⟨a7,rfl⟩
  have aq:=a4.extk a7
  refine pk (vb (Cy a.Seq 0 281474976710655)) wN A ?_
  refine mw (vb (Cy a.Seq 0 281474976710655)) ?_
  rcases bf (Cy a.Seq 0 281474976710655) with s|s
  ·have bo:=CW s
   iterate 6 refine sk s ?_
   refine pf (vb false) wN s ?_
   refine mw (vb false) ?_
   iterate 4 refine sk (Eq.refl false) ?_
   refine pf (vb false) wN (Eq.refl false) ?_
   refine aw (vb false) ?_
   refine n1 ?_
   refine rt (vb false) ?_
   refine ⟨aq.keep0,?_⟩
   simp only [Cx,d,l,m,o,p,q,x,A,s,cond_true,cond_false]
   exact rfl
  have bp:=CK s
  refine pu (vp b 0) (wS s) ?_
  have au:=(a5.kp a7)
  refine ld (vi a.Kind) (wS s) tE au ?_
  refine pu (vp b 9) (wS s) ?_
  refine ld (vs ac a.Body.length ad) (wS s) BT au ?_
  refine ln (wS s) tD (a1.from0 aq) ?_
  refine cl (wS s) (Pg a6 a.Kind (a.Body.length:Int)) ?_
  rintro _ bq ⟨a8,rfl⟩
  have av:=aq.extk a8
  refine pk (vb (Ey a.Kind (a.Body.length:Int))) wN s ?_
  refine mw (vb (Ey a.Kind (a.Body.length:Int))) ?_
  rcases bf (Ey a.Kind (a.Body.length:Int)) with L|L
  ·iterate 4 refine sk L ?_
   refine pf (vb false) wN L ?_
   refine aw (vb false) ?_
   refine n1 ?_
   refine rt (vb false) ?_
   refine ⟨av.keep0,?_⟩
   simp only [Cx,d,l,m,o,p,q,x,A,s,L,cond_true,cond_false]
   exact rfl
  refine pu (vp b 10) (wS L) ?_
  have aI:=(au.kp a8)
  refine ld (vs ae a.Tag.length af) (wS L) BT aI ?_
  refine ln (wS L) tD (a2.from0 av) ?_
  refine pu (vb (decide ((a.Tag.length:Int)=16))) (wS L) ?_
  refine pk (vb (decide ((a.Tag.length:Int)=16))) wN L ?_
  refine aw (vb (decide ((a.Tag.length:Int)=16))) ?_
  refine n1 ?_
  refine rt (vb (decide ((a.Tag.length:Int)=16))) ?_
  refine ⟨av.keep0,?_⟩
  simp only [Cx,d,l,m,o,p,q,x,A,s,L,cond_true,cond_false]
  exact rfl
 refine cf d ?_
 refine y2 ?_
 refine jT1 [(1,(vp b 0)),(2,(vb false))] (Cx a=false) ?_ fun X=>?_
 ·intro aJ V aK br
  have aL:=i.extk aK
  refine sr ?_
  refine aw (vb false) ?_
  refine n1 ?_
  refine rt (vb false) ?_
  refine ⟨aL.keep0,?_⟩
  rw [aJ]
  exact rfl
 refine pu (vp b 7) wN ?_
 have y:=(ao.kp ap)
 refine ld (vi a.Epoch) wN tE y ?_
 refine pu (vb (!(decide (a.Epoch=0)))) wN ?_
 refine mw (vb (!(decide (a.Epoch=0)))) ?_
 rcases bf (decide (a.Epoch=0)) with e|e
 ·have bu:=dF e
  iterate 3 refine sk (cA not e) ?_
  refine pk (vb true) wN (cA not e) ?_
  refine mw (vb true) ?_
  iterate 4 refine sk (Eq.refl true) ?_
  refine pk (vb true) wN (Eq.refl true) ?_
  refine mw (vb true) ?_
  iterate 4 refine sk (Eq.refl true) ?_
  refine pk (vb true) wN (Eq.refl true) ?_
  refine mw (vb true) ?_
  iterate 4 refine sk (Eq.refl true) ?_
  refine pk (vb true) wN (Eq.refl true) ?_
  refine n2 ?_
  refine ct (Eq.refl true) ?_
  have aM:Cx a=false:=by simp only [Cx,d,e,cond_true,cond_false]
  exact wj (X aM _ (Ch.refl _ _))
 have bv:=dT e
 refine pu (vp b 8) (wS (cA not e)) ?_
 refine ld (vi a.Seq) (wS (cA not e)) tE y ?_
 refine pu (vb (!(decide (a.Seq=0)))) (wS (cA not e)) ?_
 refine pf (vb (!(decide (a.Seq=0)))) wN (cA not e) ?_
 refine mw (vb (!(decide (a.Seq=0)))) ?_
 rcases bf (decide (a.Seq=0)) with f|f
 ·have bw:=dF f
  iterate 4 refine sk (cA not f) ?_
  refine pk (vb true) wN (cA not f) ?_
  refine mw (vb true) ?_
  iterate 4 refine sk (Eq.refl true) ?_
  refine pk (vb true) wN (Eq.refl true) ?_
  refine mw (vb true) ?_
  iterate 4 refine sk (Eq.refl true) ?_
  refine pk (vb true) wN (Eq.refl true) ?_
  refine n2 ?_
  refine ct (Eq.refl true) ?_
  have aN:Cx a=false:=by simp only [Cx,d,e,f,cond_true,cond_false]
  exact wj (X aN _ (Ch.refl _ _))
 have bz:=dT f
 refine pu (vp b 9) (wS (cA not f)) ?_
 refine ld (vs ac a.Body.length ad) (wS (cA not f)) BT y ?_
 refine ln (wS (cA not f)) tD (a1.from0 i) ?_
 refine pu (vb (!(decide ((a.Body.length:Int)=0)))) (wS (cA not f)) ?_
 refine pf (vb (!(decide ((a.Body.length:Int)=0)))) wN (cA not f) ?_
 refine mw (vb (!(decide ((a.Body.length:Int)=0)))) ?_
 rcases bf (decide ((a.Body.length:Int)=0)) with g|g
 ·have b0:=dF g
  iterate 4 refine sk (cA not g) ?_
  refine pk (vb true) wN (cA not g) ?_
  refine mw (vb true) ?_
  iterate 4 refine sk (Eq.refl true) ?_
  refine pk (vb true) wN (Eq.refl true) ?_
  refine n2 ?_
  refine ct (Eq.refl true) ?_
  have aO:Cx a=false:=by simp only [Cx,d,e,f,g,cond_true,cond_false]
  exact wj (X aO _ (Ch.refl _ _))
 have b1:=dT g
 refine pu (vp b 10) (wS (cA not g)) ?_
 refine ld (vs ae a.Tag.length af) (wS (cA not g)) BT y ?_
 refine ln (wS (cA not g)) tD (a2.from0 i) ?_
 refine pu (vb (!(decide ((a.Tag.length:Int)=0)))) (wS (cA not g)) ?_
 refine pf (vb (!(decide ((a.Tag.length:Int)=0)))) wN (cA not g) ?_
 refine mw (vb (!(decide ((a.Tag.length:Int)=0)))) ?_
 rcases bf (decide ((a.Tag.length:Int)=0)) with h|h
 ·have b2:=dF h
  iterate 4 refine sk (cA not h) ?_
  refine pk (vb true) wN (cA not h) ?_
  refine n2 ?_
  refine ct (Eq.refl true) ?_
  have aP:Cx a=false:=by simp only [Cx,d,e,f,g,h,cond_true,cond_false]
  exact wj (X aP _ (Ch.refl _ _))
 have b3:=dT h
 refine pu (vp b 2) (wS (cA not h)) ?_
 refine ld (vs aa a.Cn.length ab) (wS (cA not h)) BT y ?_
 refine ln (wS (cA not h)) tD (a0.from0 i) ?_
 refine pu (vb (!(decide ((a.Cn.length:Int)=12)))) (wS (cA not h)) ?_
 refine pf (vb (!(decide ((a.Cn.length:Int)=12)))) wN (cA not h) ?_
 refine n2 ?_
 rcases bf (decide ((a.Cn.length:Int)=12)) with j|j
 ·have b4:=dF j
  refine ct (cA not j) ?_
  have aQ:Cx a=false:=by simp only [Cx,d,e,f,g,h,j,cond_true,cond_false]
  exact wj (X aQ _ (Ch.refl _ _))
 have b5:=dT j
 refine cf (cA not j) ?_
 refine y2 ?_
 refine pu (vp b 0) wN ?_
 refine ld (vi a.Kind) wN tE y ?_
 refine BU<|re<|Ca<|sr ?_
 refine pu (vb (decide (a.Kind=1))) wN ?_
 refine aw (vb (decide (a.Kind=1))) ?_
 refine n2 ?_
 rcases bt (decide (a.Kind=1)) with k|k
 ·have b6:=dT k
  refine ct k ?_
  refine sr ?_
  refine pu (vp b 1) wN ?_
  refine ld (vi a.Id) wN tE y ?_
  refine cl wN (EA ak a.Id 1 9) ?_
  rintro _ V ⟨a9,rfl⟩
  have N:=i.extk a9
  refine mw (vb (Cy a.Id 1 9)) ?_
  rcases bf (Cy a.Id 1 9) with t|t
  ·have b7:=CW t
   iterate 4 refine sk t ?_
   refine pf (vb false) wN t ?_
   refine mw (vb false) ?_
   iterate 3 refine sk (Eq.refl false) ?_
   refine pf (vb false) wN (Eq.refl false) ?_
   refine mw (vb false) ?_
   iterate 4 refine sk (Eq.refl false) ?_
   refine pf (vb false) wN (Eq.refl false) ?_
   refine mw (vb false) ?_
   iterate 4 refine sk (Eq.refl false) ?_
   refine pf (vb false) wN (Eq.refl false) ?_
   refine aw (vb false) ?_
   refine BU<|re<|DJ<|CB<|Cb ?_
   refine rt (vb false) ?_
   refine ⟨N.keep0,?_⟩
   simp only [Cx,d,e,f,g,h,j,k,t,cond_true,cond_false]
   exact rfl
  have b8:=CK t
  refine pu (vp b 3) (wS t) ?_
  have am:=(y.kp a9)
  refine ld (vs O a.Sn.length P) (wS t) BT am ?_
  refine ln (wS t) tD (ah.from0 N) ?_
  refine pu (vb (decide ((a.Sn.length:Int)=0))) (wS t) ?_
  refine pk (vb (decide ((a.Sn.length:Int)=0))) wN t ?_
  refine mw (vb (decide ((a.Sn.length:Int)=0))) ?_
  rcases bf (decide ((a.Sn.length:Int)=0)) with B|B
  ·have b9:=dF B
   iterate 3 refine sk B ?_
   refine pf (vb false) wN B ?_
   refine mw (vb false) ?_
   iterate 4 refine sk (Eq.refl false) ?_
   refine pf (vb false) wN (Eq.refl false) ?_
   refine mw (vb false) ?_
   iterate 4 refine sk (Eq.refl false) ?_
   refine pf (vb false) wN (Eq.refl false) ?_
   refine aw (vb false) ?_
   refine BU<|re<|DJ<|CB<|Cb ?_
   refine rt (vb false) ?_
   refine ⟨N.keep0,?_⟩
   simp only [Cx,d,e,f,g,h,j,k,t,B,cond_true,cond_false]
   exact rfl
  have bA:=dT B
  refine pu (vp b 4) (wS B) ?_
  refine ld (vi a.Tick) (wS B) tE am ?_
  refine pu (vb (decide (a.Tick=0))) (wS B) ?_
  refine pk (vb (decide (a.Tick=0))) wN B ?_
  refine mw (vb (decide (a.Tick=0))) ?_
  rcases bf (decide (a.Tick=0)) with C|C
  ·have bB:=dF C
   iterate 4 refine sk C ?_
   refine pf (vb false) wN C ?_
   refine mw (vb false) ?_
   iterate 4 refine sk (Eq.refl false) ?_
   refine pf (vb false) wN (Eq.refl false) ?_
   refine aw (vb false) ?_
   refine BU<|re<|DJ<|CB<|Cb ?_
   refine rt (vb false) ?_
   refine ⟨N.keep0,?_⟩
   simp only [Cx,d,e,f,g,h,j,k,t,B,C,cond_true,cond_false]
   exact rfl
  have bC:=dT C
  refine pu (vp b 5) (wS C) ?_
  refine ld (vs Q a.Cookie.length R) (wS C) BT am ?_
  refine ln (wS C) tD (ai.from0 N) ?_
  refine pu (vb (decide ((a.Cookie.length:Int)=0))) (wS C) ?_
  refine pk (vb (decide ((a.Cookie.length:Int)=0))) wN C ?_
  refine mw (vb (decide ((a.Cookie.length:Int)=0))) ?_
  rcases bf (decide ((a.Cookie.length:Int)=0)) with H|H
  ·have bD:=dF H
   iterate 4 refine sk H ?_
   refine pf (vb false) wN H ?_
   refine aw (vb false) ?_
   refine BU<|re<|DJ<|CB<|Cb ?_
   refine rt (vb false) ?_
   refine ⟨N.keep0,?_⟩
   simp only [Cx,d,e,f,g,h,j,k,t,B,C,H,cond_true,cond_false]
   exact rfl
  have bE:=dT H
  refine pu (vp b 6) (wS H) ?_
  refine ld (vs S a.Proof.length T) (wS H) BT am ?_
  refine ln (wS H) tD (aj.from0 N) ?_
  refine pu (vb (decide ((a.Proof.length:Int)=0))) (wS H) ?_
  refine pk (vb (decide ((a.Proof.length:Int)=0))) wN H ?_
  refine aw (vb (decide ((a.Proof.length:Int)=0))) ?_
  refine BU<|re<|DJ<|CB<|Cb ?_
  refine rt (vb (decide ((a.Proof.length:Int)=0))) ?_
  refine ⟨N.keep0,?_⟩
  simp only [Cx,d,e,f,g,h,j,k,t,B,C,H,cond_true,cond_false]
  exact rfl
 have bF:=dF k
 refine cf k ?_
 refine sr ?_
 refine pu (vb (decide (a.Kind=2))) wN ?_
 refine aw (vb (decide (a.Kind=2))) ?_
 refine n2 ?_
 rcases bt (decide (a.Kind=2)) with r|r
 ·have bG:=dT r
  refine ct r ?_
  refine sr ?_
  refine pu (vp b 1) wN ?_
  refine ld (vi a.Id) wN tE y ?_
  refine pu (vb (decide (a.Id=0))) wN ?_
  refine mw (vb (decide (a.Id=0))) ?_
  rcases bf (decide (a.Id=0)) with u|u
  ·have bH:=dF u
   iterate 4 refine sk u ?_
   refine pf (vb false) wN u ?_
   refine mw (vb false) ?_
   iterate 3 refine sk (Eq.refl false) ?_
   refine pf (vb false) wN (Eq.refl false) ?_
   refine mw (vb false) ?_
   iterate 4 refine sk (Eq.refl false) ?_
   refine pf (vb false) wN (Eq.refl false) ?_
   refine mw (vb false) ?_
   iterate 4 refine sk (Eq.refl false) ?_
   refine pf (vb false) wN (Eq.refl false) ?_
   refine aw (vb false) ?_
   refine BU<|re<|DJ<|CB<|Cb ?_
   refine rt (vb false) ?_
   refine ⟨i.keep0,?_⟩
   simp only [Cx,d,e,f,g,h,j,k,r,u,cond_true,cond_false]
   exact rfl
  have bI:=dT u
  refine pu (vp b 3) (wS u) ?_
  refine ld (vs O a.Sn.length P) (wS u) BT y ?_
  refine ln (wS u) tD (ah.from0 i) ?_
  refine pu (vb (decide ((a.Sn.length:Int)=12))) (wS u) ?_
  refine pk (vb (decide ((a.Sn.length:Int)=12))) wN u ?_
  refine mw (vb (decide ((a.Sn.length:Int)=12))) ?_
  rcases bf (decide ((a.Sn.length:Int)=12)) with D|D
  ·have bJ:=dF D
   iterate 3 refine sk D ?_
   refine pf (vb false) wN D ?_
   refine mw (vb false) ?_
   iterate 4 refine sk (Eq.refl false) ?_
   refine pf (vb false) wN (Eq.refl false) ?_
   refine mw (vb false) ?_
   iterate 4 refine sk (Eq.refl false) ?_
   refine pf (vb false) wN (Eq.refl false) ?_
   refine aw (vb false) ?_
   refine BU<|re<|DJ<|CB<|Cb ?_
   refine rt (vb false) ?_
   refine ⟨i.keep0,?_⟩
   simp only [Cx,d,e,f,g,h,j,k,r,u,D,cond_true,cond_false]
   exact rfl
  have bK:=dT D
  refine pu (vp b 4) (wS D) ?_
  refine ld (vi a.Tick) (wS D) tE y ?_
  refine cl (wS D) (EA ak a.Tick 0 1000000) ?_
  rintro _ V ⟨aA,rfl⟩
  have Y:=i.extk aA
  refine pk (vb (Cy a.Tick 0 1000000)) wN D ?_
  refine mw (vb (Cy a.Tick 0 1000000)) ?_
  rcases bf (Cy a.Tick 0 1000000) with E|E
  ·have bL:=CW E
   iterate 4 refine sk E ?_
   refine pf (vb false) wN E ?_
   refine mw (vb false) ?_
   iterate 4 refine sk (Eq.refl false) ?_
   refine pf (vb false) wN (Eq.refl false) ?_
   refine aw (vb false) ?_
   refine BU<|re<|DJ<|CB<|Cb ?_
   refine rt (vb false) ?_
   refine ⟨Y.keep0,?_⟩
   simp only [Cx,d,e,f,g,h,j,k,r,u,D,E,cond_true,cond_false]
   exact rfl
  have bM:=CK E
  refine pu (vp b 5) (wS E) ?_
  have aB:=(y.kp aA)
  refine ld (vs Q a.Cookie.length R) (wS E) BT aB ?_
  refine ln (wS E) tD (ai.from0 Y) ?_
  refine pu (vb (decide ((a.Cookie.length:Int)=16))) (wS E) ?_
  refine pk (vb (decide ((a.Cookie.length:Int)=16))) wN E ?_
  refine mw (vb (decide ((a.Cookie.length:Int)=16))) ?_
  rcases bf (decide ((a.Cookie.length:Int)=16)) with I|I
  ·have bN:=dF I
   iterate 4 refine sk I ?_
   refine pf (vb false) wN I ?_
   refine aw (vb false) ?_
   refine BU<|re<|DJ<|CB<|Cb ?_
   refine rt (vb false) ?_
   refine ⟨Y.keep0,?_⟩
   simp only [Cx,d,e,f,g,h,j,k,r,u,D,E,I,cond_true,cond_false]
   exact rfl
  have bO:=dT I
  refine pu (vp b 6) (wS I) ?_
  refine ld (vs S a.Proof.length T) (wS I) BT aB ?_
  refine ln (wS I) tD (aj.from0 Y) ?_
  refine pu (vb (decide ((a.Proof.length:Int)=0))) (wS I) ?_
  refine pk (vb (decide ((a.Proof.length:Int)=0))) wN I ?_
  refine aw (vb (decide ((a.Proof.length:Int)=0))) ?_
  refine BU<|re<|DJ<|CB<|Cb ?_
  refine rt (vb (decide ((a.Proof.length:Int)=0))) ?_
  refine ⟨Y.keep0,?_⟩
  simp only [Cx,d,e,f,g,h,j,k,r,u,D,E,I,cond_true,cond_false]
  exact rfl
 have bP:=dF r
 refine cf r ?_
 refine sr ?_
 refine pu (vb (decide (a.Kind=3))) wN ?_
 refine aw (vb (decide (a.Kind=3))) ?_
 refine n2 ?_
 rcases bf (decide (a.Kind=3)) with K|K
 ·have bQ:=dF K
  refine cf K ?_
  refine Ct<|BS<|re<|sr ?_
  refine aw (vb false) ?_
  refine n3 ?_
  refine rt (vb false) ?_
  refine ⟨i.keep0,?_⟩
  simp only [Cx,d,e,f,g,h,j,k,r,K,cond_true,cond_false]
  exact rfl
 have bR:=dT K
 refine ct K ?_
 refine sr ?_
 refine pu (vp b 1) wN ?_
 refine ld (vi a.Id) wN tE y ?_
 refine cl wN (EA ak a.Id 1 9) ?_
 rintro _ V ⟨aC,rfl⟩
 have an:=i.extk aC
 refine mw (vb (Cy a.Id 1 9)) ?_
 rcases bf (Cy a.Id 1 9) with w|w
 ·have bS:=CW w
  iterate 4 refine sk w ?_
  refine pf (vb false) wN w ?_
  refine mw (vb false) ?_
  iterate 3 refine sk (Eq.refl false) ?_
  refine pf (vb false) wN (Eq.refl false) ?_
  refine mw (vb false) ?_
  iterate 4 refine sk (Eq.refl false) ?_
  refine pf (vb false) wN (Eq.refl false) ?_
  refine mw (vb false) ?_
  iterate 4 refine sk (Eq.refl false) ?_
  refine pf (vb false) wN (Eq.refl false) ?_
  refine aw (vb false) ?_
  refine BU<|re<|DJ<|CB<|Cb ?_
  refine rt (vb false) ?_
  refine ⟨an.keep0,?_⟩
  simp only [Cx,d,e,f,g,h,j,k,r,K,w,cond_true,cond_false]
  exact rfl
 have bT:=CK w
 refine pu (vp b 3) (wS w) ?_
 have ax:=(y.kp aC)
 refine ld (vs O a.Sn.length P) (wS w) BT ax ?_
 refine ln (wS w) tD (ah.from0 an) ?_
 refine pu (vb (decide ((a.Sn.length:Int)=12))) (wS w) ?_
 refine pk (vb (decide ((a.Sn.length:Int)=12))) wN w ?_
 refine mw (vb (decide ((a.Sn.length:Int)=12))) ?_
 rcases bf (decide ((a.Sn.length:Int)=12)) with F|F
 ·have bU:=dF F
  iterate 3 refine sk F ?_
  refine pf (vb false) wN F ?_
  refine mw (vb false) ?_
  iterate 4 refine sk (Eq.refl false) ?_
  refine pf (vb false) wN (Eq.refl false) ?_
  refine mw (vb false) ?_
  iterate 4 refine sk (Eq.refl false) ?_
  refine pf (vb false) wN (Eq.refl false) ?_
  refine aw (vb false) ?_
  refine BU<|re<|DJ<|CB<|Cb ?_
  refine rt (vb false) ?_
  refine ⟨an.keep0,?_⟩
  simp only [Cx,d,e,f,g,h,j,k,r,K,w,F,cond_true,cond_false]
  exact rfl
 have bW:=dT F
 refine pu (vp b 4) (wS F) ?_
 refine ld (vi a.Tick) (wS F) tE ax ?_
 refine cl (wS F) (EA V a.Tick 0 1000000) ?_
 rintro _ a6 ⟨aD,rfl⟩
 have Z:=an.extk aD
 refine pk (vb (Cy a.Tick 0 1000000)) wN F ?_
 refine mw (vb (Cy a.Tick 0 1000000)) ?_
 rcases bf (Cy a.Tick 0 1000000) with G|G
 ·have bX:=CW G
  iterate 4 refine sk G ?_
  refine pf (vb false) wN G ?_
  refine mw (vb false) ?_
  iterate 4 refine sk (Eq.refl false) ?_
  refine pf (vb false) wN (Eq.refl false) ?_
  refine aw (vb false) ?_
  refine BU<|re<|DJ<|CB<|Cb ?_
  refine rt (vb false) ?_
  refine ⟨Z.keep0,?_⟩
  simp only [Cx,d,e,f,g,h,j,k,r,K,w,F,G,cond_true,cond_false]
  exact rfl
 have bY:=CK G
 refine pu (vp b 5) (wS G) ?_
 have aE:=(ax.kp aD)
 refine ld (vs Q a.Cookie.length R) (wS G) BT aE ?_
 refine ln (wS G) tD (ai.from0 Z) ?_
 refine pu (vb (decide ((a.Cookie.length:Int)=16))) (wS G) ?_
 refine pk (vb (decide ((a.Cookie.length:Int)=16))) wN G ?_
 refine mw (vb (decide ((a.Cookie.length:Int)=16))) ?_
 rcases bf (decide ((a.Cookie.length:Int)=16)) with J|J
 ·have bZ:=dF J
  iterate 4 refine sk J ?_
  refine pf (vb false) wN J ?_
  refine aw (vb false) ?_
  refine BU<|re<|DJ<|CB<|Cb ?_
  refine rt (vb false) ?_
  refine ⟨Z.keep0,?_⟩
  simp only [Cx,d,e,f,g,h,j,k,r,K,w,F,G,J,cond_true,cond_false]
  exact rfl
 have ca:=dT J
 refine pu (vp b 6) (wS J) ?_
 refine ld (vs S a.Proof.length T) (wS J) BT aE ?_
 refine ln (wS J) tD (aj.from0 Z) ?_
 refine pu (vb (decide ((a.Proof.length:Int)=16))) (wS J) ?_
 refine pk (vb (decide ((a.Proof.length:Int)=16))) wN J ?_
 refine aw (vb (decide ((a.Proof.length:Int)=16))) ?_
 refine BU<|re<|DJ<|CB<|Cb ?_
 refine rt (vb (decide ((a.Proof.length:Int)=16))) ?_
 refine ⟨Z.keep0,?_⟩
 simp only [Cx,d,e,f,g,h,j,k,r,K,w,F,G,J,cond_true,cond_false]
 exact rfl
theorem KP {f:PFrame} (h:Cx f=true):f.Body.length≤40:=by
  simp only [Cx,Bool.cond_false_right] at h
  cases h1:Ej f.Kind
  · simp only [h1,cond_false,Bool.and_eq_true,decide_eq_true_eq] at h
    have:=h.2.2.1
    omega
  · simp only [h1,cond_true,Bool.and_eq_true] at h
    have hb:=h.2.2.2.2.2.2.2.2.1
    simp only [Ey,cond_eq_ite,decide_eq_true_eq] at hb
    (repeat' split at hb) <;> (have hq:=dT hb;omega)

def EP (w:World) (v:Value) (x:(List UInt8)):Prop:=∃ (a:Option Addr) (b:Nat),v=.slice a x.length b∧Rd w 1 (.slice a x.length b) x.length (x.map bV)∧x.length≤1073741824
def Gf (a:List UInt8) (b:List UInt8):(Bool):=(eqS (ByteArray.mk a.toArray) (ByteArray.mk b.toArray))
theorem Ph (d:World) (e:Value) (a:List UInt8) (l:EP d e a) (f:Value) (b:List UInt8) (m:EP d f b) :Fn Tryz.prog 36 #[e,f] d (fun v g=>Keep d g∧O_4 g d.heap.size v (Gf a b)):=by
 obtain ⟨h,i,rfl,o,r⟩:=l
 obtain ⟨j,k,rfl,p,s⟩:=m
 refine Cl (n:=10) [(vs h a.length i),(vs j b.length k)] Tryz.func36 rfl rfl ?_
 refine sr ?_
 refine aw (vb false) ?_
 refine nx ?_
 refine mw (vs h a.length i) ?_
 refine LJ a wN rfl rfl rfl rfl Tryz.underlying22 Tryz.underlying5 Tryz.underlying9 o ?_
 refine mw (vs j b.length k) ?_
 refine LJ b wN rfl rfl rfl rfl Tryz.underlying22 Tryz.underlying5 Tryz.underlying9 p ?_
 refine pu (vb (eqS (ByteArray.mk a.toArray) (ByteArray.mk b.toArray))) wN ?_
 refine aw (vb (eqS (ByteArray.mk a.toArray) (ByteArray.mk b.toArray))) ?_
 refine n3 ?_
 refine rt (vb (eqS (ByteArray.mk a.toArray) (ByteArray.mk b.toArray))) ?_
 refine ⟨Ch.refl _ _,?_⟩
 have q:Gf a b=(eqS (ByteArray.mk a.toArray) (ByteArray.mk b.toArray)):=by rfl
 rw [q]
 exact rfl

def GE (w:World) (lo:Nat) (v:Value) (x:(List UInt8)):Prop:=∃ (a:Option Addr) (b:Nat),v=.slice a x.length b∧w.ownsRow lo 5 1 (.slice a x.length b) x.length (x.map bV)∧x.length≤1073741824∧Aps [(a,b)]
theorem Jw (e:World) (B:Value) (d:List UInt8) (S:EP e B d) (b:Int) (a:Int) (aj:d.length≤1000000):Fn Tryz.prog 143 #[B,(vi b),(vi a)] e (fun v o=>Keep e o∧GE o e.heap.size v (Et d b a)):=by
 obtain ⟨C,D,rfl,T,E⟩:=S
 refine Cl (n:=35) [(vs C d.length D),(vi b),(vi a)] Tryz.func143 rfl rfl ?_
 refine sr ?_
 refine aw (vs none 0 0) ?_
 refine nx ?_
 refine CR wN rfl rfl tD (fun w=>by kernel_rfl) ?_
 intro ak am y V
 have F:=(Ch.base e).extk y
 refine mw (vs C d.length D) ?_
 refine ap0 d wN tD V (T.from0 F) y.size ?_
 intro f g A G H an
 have I:=F.extk G
 refine aw (vs f d.length g) ?_
 refine n4 ?_
 refine jT1 [(1,(vi b)),(2,(vi a)),(6,(vs none 0 0)),(7,(vs f d.length g))] (Et d b a=d) ?_ fun J=>?_
 ·intro W K L ao
  have X:=I.extk L
  refine sr ?_
  refine mw (vs f d.length g) ?_
  refine aw (vs f d.length g) ?_
  refine n1 ?_
  have Y:=(gc H L)
  refine rt (vs f d.length g) ?_
  refine ⟨X.keep0,?_⟩
  rw [W]
  exact ⟨_,_,rfl,Y,E,⟨trivial,trivial⟩⟩
 refine mw (vi a) ?_
 refine pu (vb (decide (a < 1))) wN ?_
 refine mw (vb (decide (a < 1))) ?_
 rcases bt (decide (a < 1)) with h|h
 ·have ap:=dT h
  iterate 2 refine sk h ?_
  refine pk (vb true) wN h ?_
  refine n2 ?_
  refine ct (Eq.refl true) ?_
  have Z:Et d b a=d:=by first|exact GR (by omega)|exact GS (by omega) (by omega) (by omega)
  exact wj (J Z _ (Ch.refl _ _))
 have aq:=dF h
 refine mv (vi a) (wS h) ?_
 refine pu (vb (decide (6 < a))) (wS h) ?_
 refine pf (vb (decide (6 < a))) wN h ?_
 refine n2 ?_
 rcases bt (decide (6 < a)) with p|p
 ·have au:=dT p
  refine ct p ?_
  have aa:Et d b a=d:=by first|exact GR (by omega)|exact GS (by omega) (by omega) (by omega)
  exact wj (J aa _ (Ch.refl _ _))
 have av:=dF p
 refine cf p ?_
 refine y2 ?_
 refine mw (vi a) ?_
 refine ar (a - 1) wN ?_
 refine aw (vi (a - 1)) ?_
 refine BU<|re<|Ca ?_
 have M:(d:List UInt8)=d++Fg b a 0:=by simp [Fg]
 refine CJ [(1,(vi b)),(6,(vs none 0 0)),(7,(.slice f (d++Fg b a 0).length g)),(8,(vi (a - 1 - ((0:Nat):Int))))] ⟨rfl,rfl,(cA (fun l:List UInt8=>Value.slice f l.length g) M),(cA (Value.int .i64) (show ((a - 1):Int)=(a - 1 - ((0:Nat):Int)) by omega)),trivial⟩ (fun e' o=>∃ (j:Nat) (N:Env) (i:Option Addr) (m:Nat),e'=pt N [(1,(vi b)),(6,(vs none 0 0)),(7,(.slice i (d++Fg b a j).length m)),(8,(vi (a - 1 - ((j:Nat):Int))))]∧Ch (fun k=>e.heap.size≤k) e o∧Ch (fun k=>e.heap.size≤k) A o∧((j:Nat):Int)≤a∧(World.ownsRow o e.heap.size 5 1 (.slice i (d++Fg b a j).length m) (d++Fg b a j).length ((d++Fg b a j).map bV)∧(d++Fg b a j).length≤1073741824)) (fun e' _=>((intOf (e' 8))+1).toNat) ?_ ?_
 ·exact fun u=>⟨0,u,f,g,rfl,I,(Ch.refl (fun k=>e.heap.size≤k) A),(by omega),(M ▸ ⟨H,E⟩)⟩
 ·rintro _ K ⟨j,N,i,m,rfl,O,P,ax,⟨r,ab⟩⟩
  have hpl:=Gt b a j
  refine Cc<|sr ?_
  refine mw (vi (a - 1 - ((j:Nat):Int))) ?_
  refine pu (vb (decide (0≤(a - 1 - ((j:Nat):Int))))) wN ?_
  refine n2 ?_
  rcases bf (decide (0≤(a - 1 - ((j:Nat):Int)))) with q|q
  ·have ay:=dF q
   refine cf q ?_
   refine CS<|wb<|wb<|Ce<|re<|sr ?_
   refine mw (vs i (d++Fg b a j).length m) ?_
   refine aw (vs i (d++Fg b a j).length m) ?_
   refine n3 ?_
   refine rt (vs i (d++Fg b a j).length m) ?_
   refine ⟨O.keep0,?_⟩
   have ac:Et d b a=(d++Fg b a j):=by first|exact GR (by omega)|exact GS (by omega) (by omega) (by omega)
   rw [ac]
   exact ⟨_,_,rfl,r,ab,⟨trivial,trivial⟩⟩
  have az:=dT q
  refine ct q ?_
  refine Ct<|re<|Cc<|Ca<|BZ ?_
  refine mw (vs i (d++Fg b a j).length m) ?_
  refine mw (vi b) ?_
  refine mw (vi (a - 1 - ((j:Nat):Int))) ?_
  refine ar (8*(a - 1 - ((j:Nat):Int))) wN ?_
  refine Jg b (8*(a - 1 - ((j:Nat):Int))) wN rfl rfl rfl rfl rfl (by omega) (by omega) ?_
  refine FE (b / (2:Int) ^ ((8*(a - 1 - ((j:Nat):Int)))).toNat) 255 256 8 wN rfl rfl (by decide) (by decide) (by decide) (by kernel_rfl) ?_
  refine Gd ((b / (2:Int) ^ ((8*(a - 1 - ((j:Nat):Int)))).toNat) % 256) wN rfl rfl (by kernel_rfl) ?_
  refine ltB ([(by8 ((b / (2:Int) ^ ((8*(a - 1 - ((j:Nat):Int)))).toNat) % 256))]:List UInt8) wN tD ?_
  intro a0 a1 a2 s ad
  have ae:=(gc r s)
  refine apB (d++Fg b a j) ([(by8 ((b / (2:Int) ^ ((8*(a - 1 - ((j:Nat):Int)))).toNat) % 256))]:List UInt8) wN tD ae (Rd.of_own ad) (z4 y G P s) ?_
  intro t x a3 Q af a4 ah
  have ai:=(O.extk s).ext Q (fun k hk=>nT (Nat.le_refl e.heap.size) (Cm r k hk).1)
  refine aw (vs t ((d++Fg b a j)++([(by8 ((b / (2:Int) ^ ((8*(a - 1 - ((j:Nat):Int)))).toNat) % 256))]:List UInt8)).length x) ?_
  refine BU<|BS<|re<|BZ ?_
  refine mw (vi (a - 1 - ((j:Nat):Int))) ?_
  refine ar ((a - 1 - ((j:Nat):Int)) - 1) wN ?_
  refine aw (vi ((a - 1 - ((j:Nat):Int)) - 1)) ?_
  refine BU ?_
  have R:(((d++Fg b a j)++([(by8 ((b / (2:Int) ^ ((8*(a - 1 - ((j:Nat):Int)))).toNat) % 256))]:List UInt8)):List UInt8)=d++Fg b a (j+1):=by simp [Fg]
  refine CI (w0:=K) [(1,(vi b)),(6,(vs none 0 0)),(7,(.slice t (d++Fg b a (j+1)).length x)),(8,(vi (a - 1 - (((j+1):Nat):Int))))] ?_ ?_ ?_
  · exact ⟨rfl,rfl,(cA (fun l:List UInt8=>Value.slice t l.length x) R),(cA (Value.int .i64) (show (((a - 1 - ((j:Nat):Int)) - 1):Int)=(a - 1 - (((j+1):Nat):Int)) by omega)),trivial⟩
  · exact fun u=>⟨(j+1),u,t,x,rfl,ai,((((Ch.refl (fun k=>e.heap.size≤k) A).ext P (fun k hk=>hk)).extk s).ext Q (fun k hk=>nT (Nat.le_refl e.heap.size) (Cm r k hk).1)),(by omega),(R ▸ ⟨af,ah⟩)⟩
  · show ((a - 1 - (((j+1):Nat):Int))+1).toNat < ((a - 1 - ((j:Nat):Int))+1).toNat;omega

theorem CC {w:World} {x:List UInt8} {a:Option Addr} {b:Nat} (d:Rd w 1 (.slice a x.length b) x.length (x.map bV)) (e:x.length≤1073741824):EP w (vs a x.length b) x:=⟨_,_,rfl,d,e⟩
theorem Mf (i:World) (a:Int) (t:Value) (b:List UInt8) (K:EP i t b) (d:Int) (e:Int) :Fn Tryz.prog 108 #[(vi a),t,(vi d),(vi e)] i (fun v u=>Keep i u∧GE u i.heap.size v (CY a b d e)):=by
 obtain ⟨o,p,rfl,x,ah⟩:=K
 refine Cl (n:=37) [(vi a),(vs o b.length p),(vi d),(vi e)] Tryz.func108 rfl rfl ?_
 refine sr ?_
 refine aw (vs none 0 0) ?_
 refine n4 ?_
 refine jT1 [(0,(vi a)),(1,(vs o b.length p)),(2,(vi d)),(3,(vi e)),(8,(vs none 0 0))] (CY a b d e=[]) ?_ fun q=>?_
 ·intro L y A ai
  refine sr ?_
  refine CR wN rfl rfl tD (fun w=>by kernel_rfl) ?_
  intro B C M N
  have O:=((Ch.base i).extk A).extk M
  refine aw (vs (some B) 0 0) ?_
  refine n1 ?_
  refine rt (vs (some B) 0 0) ?_
  refine ⟨O.keep0,?_⟩
  rw [L]
  exact ⟨_,_,rfl,(tB N A.size),(by simp),⟨trivial,trivial⟩⟩
 refine mw (vi a) ?_
 refine cl wN (EA i a 0 1) ?_
 rintro _ y ⟨j,rfl⟩
 have D:=(Ch.base i).extk j
 refine pu (vb (!(Cy a 0 1))) wN ?_
 refine mw (vb (!(Cy a 0 1))) ?_
 rcases bf (Cy a 0 1) with f|f
 ·have aj:=CW f
  iterate 3 refine sk (cA not f) ?_
  refine pk (vb true) wN (cA not f) ?_
  refine mw (vb true) ?_
  iterate 3 refine sk (Eq.refl true) ?_
  refine pk (vb true) wN (Eq.refl true) ?_
  refine mw (vb true) ?_
  iterate 3 refine sk (Eq.refl true) ?_
  refine pk (vb true) wN (Eq.refl true) ?_
  refine n2 ?_
  refine ct (Eq.refl true) ?_
  have P:CY a b d e=[]:=by first|exact Fp (by omega)|exact Fo (by omega) (by omega) (by omega) (by omega) (by simp [Ci,HG,IW])
  exact wj (q P _ j)
 have ak:=CK f
 refine mv (vs o b.length p) (wS (cA not f)) ?_
 refine ln (wS (cA not f)) tD (x.from0 D) ?_
 refine pu (vb (!(decide ((b.length:Int)=12)))) (wS (cA not f)) ?_
 refine pf (vb (!(decide ((b.length:Int)=12)))) wN (cA not f) ?_
 refine mw (vb (!(decide ((b.length:Int)=12)))) ?_
 rcases bf (decide ((b.length:Int)=12)) with g|g
 ·have am:=dF g
  iterate 3 refine sk (cA not g) ?_
  refine pk (vb true) wN (cA not g) ?_
  refine mw (vb true) ?_
  iterate 3 refine sk (Eq.refl true) ?_
  refine pk (vb true) wN (Eq.refl true) ?_
  refine n2 ?_
  refine ct (Eq.refl true) ?_
  have Q:CY a b d e=[]:=by first|exact Fp (by omega)|exact Fo (by omega) (by omega) (by omega) (by omega) (by simp [Ci,HG,IW])
  exact wj (q Q _ j)
 have an:=dT g
 refine mv (vi d) (wS (cA not g)) ?_
 refine cl (wS (cA not g)) (EA y d 0 4294967295) ?_
 rintro _ C ⟨l,rfl⟩
 refine pu (vb (!(Cy d 0 4294967295))) (wS (cA not g)) ?_
 refine pf (vb (!(Cy d 0 4294967295))) wN (cA not g) ?_
 refine mw (vb (!(Cy d 0 4294967295))) ?_
 rcases bf (Cy d 0 4294967295) with h|h
 ·have ao:=CW h
  iterate 3 refine sk (cA not h) ?_
  refine pk (vb true) wN (cA not h) ?_
  refine n2 ?_
  refine ct (Eq.refl true) ?_
  have R:CY a b d e=[]:=by first|exact Fp (by omega)|exact Fo (by omega) (by omega) (by omega) (by omega) (by simp [Ci,HG,IW])
  exact wj (q R _ (j.trans l))
 have ap:=CK h
 refine mv (vi e) (wS (cA not h)) ?_
 refine cl (wS (cA not h)) (EA C e 0 281474976710655) ?_
 rintro _ aq ⟨r,rfl⟩
 refine pu (vb (!(Cy e 0 281474976710655))) (wS (cA not h)) ?_
 refine pf (vb (!(Cy e 0 281474976710655))) wN (cA not h) ?_
 refine n2 ?_
 rcases bf (Cy e 0 281474976710655) with m|m
 ·have au:=CW m
  refine ct (cA not m) ?_
  have S:CY a b d e=[]:=by first|exact Fp (by omega)|exact Fo (by omega) (by omega) (by omega) (by omega) (by simp [Ci,HG,IW])
  exact wj (q S _ ((j.trans l).trans r))
 have av:=CK m
 refine cf (cA not m) ?_
 refine y1 ?_
 refine mw (vi a) ?_
 refine Gd a wN rfl rfl (by kernel_rfl) ?_
 refine ltB ([(by8 a)]:List UInt8) wN tD ?_
 intro ax ay az s E
 have F:=((D.extk l).extk r).extk s
 refine mw (vs o b.length p) ?_
 refine apB ([(by8 a)]:List UInt8) b wN tD E (x.from0 F) s.size ?_
 intro a0 a1 T G V a2 W
 have X:=F.ext G (fun k hk=>nT (z3 j l r) (Cm E k hk).1)
 refine mw (vi d) ?_
 refine cl wN (Jw T _ (([(by8 a)]:List UInt8)++b) (CC (Rd.of_own V) W) d 4 (by first|omega|(simp;done)|(simp;omega)|(simp only [List.length_append,List.length_cons,List.length_nil] at *;omega))) ?_
 rintro _ Y ⟨H,⟨a3,a4,rfl,Z,aa,a5⟩⟩
 have a6:=Fa (([(by8 a)]:List UInt8)++b) d 4
 refine mw (vi e) ?_
 refine cl wN (Jw Y _ (Et (([(by8 a)]:List UInt8)++b) d 4) (CC (Rd.of_own Z) aa) e 6 (by first|omega|(simp;done)|(simp;omega)|(simp only [List.length_append,List.length_cons,List.length_nil] at *;omega))) ?_
 rintro _ a7 ⟨ab,⟨I,J,rfl,ac,ad,a8⟩⟩
 have ae:=(X.extk H).extk ab
 have a9:=Fa (Et (([(by8 a)]:List UInt8)++b) d 4) e 6
 refine aw (vs I (Et (Et (([(by8 a)]:List UInt8)++b) d 4) e 6).length J) ?_
 refine n3 ?_
 refine rt (vs I (Et (Et (([(by8 a)]:List UInt8)++b) d 4) e 6).length J) ?_
 refine ⟨ae.keep0,?_⟩
 have af:CY a b d e=(Et (Et (([(by8 a)]:List UInt8)++b) d 4) e 6):=by first|exact Fp (by omega)|exact Fo (by omega) (by omega) (by omega) (by omega) (by simp [Ci,HG,IW])
 rw [af]
 exact ⟨_,_,rfl,(tB ac (z6 j l r s G H)),ad,⟨trivial,trivial⟩⟩

theorem Dn:∀ w,(isAgg 42).run Tryz.prog w=.ok true w:=fun w=>by kernel_rfl
theorem CV:∀ w,(sizeOf 42).run Tryz.prog w=.ok 11 w:=fun w=>by kernel_rfl
theorem FC {w:World} {x:PFrame} {a:Option Addr} {b:Nat} {d:Option Addr} {e:Nat} {f:Option Addr} {g:Nat} {h:Option Addr} {i:Nat} {j:Option Addr} {k:Nat} {l:Option Addr} {m:Nat} (o:Rd w 1 (.slice a x.Cn.length b) x.Cn.length (x.Cn.map bV)) (p:x.Cn.length≤1073741824) (q:Rd w 1 (.slice d x.Sn.length e) x.Sn.length (x.Sn.map bV)) (r:x.Sn.length≤1073741824) (s:Rd w 1 (.slice f x.Cookie.length g) x.Cookie.length (x.Cookie.map bV)) (t:x.Cookie.length≤1073741824) (u:Rd w 1 (.slice h x.Proof.length i) x.Proof.length (x.Proof.map bV)) (v:x.Proof.length≤1073741824) (y:Rd w 1 (.slice j x.Body.length k) x.Body.length (x.Body.map bV)) (A:x.Body.length≤1073741824) (B:Rd w 1 (.slice l x.Tag.length m) x.Tag.length (x.Tag.map bV)) (C:x.Tag.length≤1073741824):JC w (va (EB x a b d e f g h i j k l m)) x:=⟨_,_,_,_,_,_,_,_,_,_,_,_,rfl,o,p,q,r,s,t,u,v,y,A,B,C⟩
def Cp (b:Int) (a:PFrame):(List UInt8):=bif (Cy b 0 1) then (bif (Cx a) then (bif (Ej a.Kind) then ((((([116]:List UInt8)++(CY b a.Sn a.Epoch a.Seq))++([(by8 a.Kind)]:List UInt8))++a.Body)) else ([])) else ([])) else ([])
theorem Jv (C:World) (b:Int) (ab:Value) (a:PFrame) (a1:JC C ab a) :Fn Tryz.prog 72 #[(vi b),ab] C (fun v o=>Keep C o∧GE o C.heap.size v (Cp b a)):=by
 obtain ⟨l,R,N,O,S,T,V,W,D,E,X,Y,rfl,a2,a3,ac,ad,a4,a5,a6,a7,ae,a8,a9,aA⟩:=a1
 refine Cl (n:=40) [(vi b),(va (EB a l R N O S T V W D E X Y))] Tryz.func72 rfl rfl ?_
 refine sr ?_
 refine bx (EB a l R N O S T V W D E X Y) wN ?_
 intro m Z bh P u aB
 have af:=(Ch.base C).extk u
 refine aw (vs none 0 0) ?_
 refine n4 ?_
 refine jT1 [(0,(vi b)),(3,(vp m 0)),(4,(vs none 0 0))] (Cp b a=[]) ?_ fun aa=>?_
 ·intro aC ah ai bi
  refine sr ?_
  refine CR wN rfl rfl tD (fun w=>by kernel_rfl) ?_
  intro aj ak aD aE
  have aF:=(af.extk ai).extk aD
  refine aw (vs (some aj) 0 0) ?_
  refine n1 ?_
  refine rt (vs (some aj) 0 0) ?_
  refine ⟨aF.keep0,?_⟩
  rw [aC]
  exact ⟨_,_,rfl,(tB aE (z2 u ai)),(by simp),⟨trivial,trivial⟩⟩
 refine mw (vi b) ?_
 refine cl wN (EA Z b 0 1) ?_
 rintro _ ah ⟨d,rfl⟩
 have r:=af.extk d
 refine pu (vb (!(Cy b 0 1))) wN ?_
 refine mw (vb (!(Cy b 0 1))) ?_
 rcases bf (Cy b 0 1) with f|f
 ·have bj:=CW f
  iterate 3 refine sk (cA not f) ?_
  refine pk (vb true) wN (cA not f) ?_
  refine mw (vb true) ?_
  iterate 4 refine sk (Eq.refl true) ?_
  refine pk (vb true) wN (Eq.refl true) ?_
  refine n2 ?_
  refine ct (Eq.refl true) ?_
  have aG:Cp b a=[]:=by simp only [Cp,f,cond_true,cond_false]
  exact wj (aa aG _ d)
 have bk:=CK f
 have am:=(aB.kp d)
 refine lN (EB a l R N O S T V W D E X Y) (wS (cA not f)) Dn CV am ?_
 refine cl (wS (cA not f)) (KW ah _ a (FC (a2.from0 r) a3 (ac.from0 r) ad (a4.from0 r) a5 (a6.from0 r) a7 (ae.from0 r) a8 (a9.from0 r) aA)) ?_
 rintro _ ak ⟨g,rfl⟩
 refine pu (vb (!(Cx a))) (wS (cA not f)) ?_
 refine pf (vb (!(Cx a))) wN (cA not f) ?_
 refine mw (vb (!(Cx a))) ?_
 rcases bf (Cx a) with i|i
 ·iterate 4 refine sk (cA not i) ?_
  refine pk (vb true) wN (cA not i) ?_
  refine n2 ?_
  refine ct (Eq.refl true) ?_
  have aH:Cp b a=[]:=by simp only [Cp,f,i,cond_true,cond_false]
  exact wj (aa aH _ (d.trans g))
 have bl:=KP i
 refine pu (vp m 0) (wS (cA not i)) ?_
 have an:=(am.kp g)
 refine ld (vi a.Kind) (wS (cA not i)) tE an ?_
 refine cl (wS (cA not i)) (Ke ak a.Kind) ?_
 rintro _ ao ⟨j,rfl⟩
 refine pu (vb (!(Ej a.Kind))) (wS (cA not i)) ?_
 refine pf (vb (!(Ej a.Kind))) wN (cA not i) ?_
 refine n2 ?_
 rcases bf (Ej a.Kind) with F|F
 ·refine ct (cA not F) ?_
  have aI:Cp b a=[]:=by simp only [Cp,f,i,F,cond_true,cond_false]
  exact wj (aa aI _ ((d.trans g).trans j))
 refine cf (cA not F) ?_
 refine y1 ?_
 refine ltB ([116]:List UInt8) wN tD ?_
 intro bm bn aJ G Q
 have ap:=((r.extk g).extk j).extk G
 refine mw (vi b) ?_
 refine pu (vp m 3) wN ?_
 have H:=((an.kp j).kp G)
 refine ld (vs N a.Sn.length O) wN BT H ?_
 refine pu (vp m 7) wN ?_
 refine ld (vi a.Epoch) wN tE H ?_
 refine pu (vp m 8) wN ?_
 refine ld (vi a.Seq) wN tE H ?_
 refine cl wN (Mf aJ b _ a.Sn (CC (ac.from0 ap) ad) a.Epoch a.Seq) ?_
 rintro _ bo ⟨s,⟨bp,bq,rfl,aK,_⟩⟩
 have br:=Fl b a.Sn a.Epoch a.Seq
 have aL:=(gc Q s)
 refine apB ([116]:List UInt8) (CY b a.Sn a.Epoch a.Seq) wN tD aL (Rd.of_own aK) (z2 G s) ?_
 intro x y aq I J bu bv
 have aM:=(ap.extk s).ext I (fun k hk=>nT (z4 u d g j) (Cm Q k hk).1)
 refine aw (vs x (([116]:List UInt8)++(CY b a.Sn a.Epoch a.Seq)).length y) ?_
 refine BU<|re<|Cc ?_
 refine CU ([(31,[],[],(fun _ v _=>v=(vs x (([116]:List UInt8)++(CY b a.Sn a.Epoch a.Seq)).length y))),(32,[],[],(fun _ v _=>v=(vp m 0))),(33,[],[1],(fun _ v _=>v=(vi a.Kind))),(34,[],[1,2],(fun _ v _=>v=(v8 ((by8 a.Kind).toNat:Int)))),(35,[],[1,2,3],(fun _ v w=>∃ (l:Option Addr) (A:Nat),v=.slice l ([(by8 a.Kind)]:List UInt8).length A∧w.ownsRow aq.heap.size 5 1 (.slice l ([(by8 a.Kind)]:List UInt8).length A) ([(by8 a.Kind)]:List UInt8).length (([(by8 a.Kind)]:List UInt8).map bV)∧([(by8 a.Kind)]:List UInt8).length≤1073741824∧Aps [(l,A)])),(36,[],[0,1,2,3,4],(fun _ v w=>∃ (l:Option Addr) (A:Nat),v=.slice l ((([116]:List UInt8)++(CY b a.Sn a.Epoch a.Seq))++([(by8 a.Kind)]:List UInt8)).length A∧w.ownsRow ao.heap.size 5 1 (.slice l ((([116]:List UInt8)++(CY b a.Sn a.Epoch a.Seq))++([(by8 a.Kind)]:List UInt8)).length A) ((([116]:List UInt8)++(CY b a.Sn a.Epoch a.Seq))++([(by8 a.Kind)]:List UInt8)).length (((([116]:List UInt8)++(CY b a.Sn a.Epoch a.Seq))++([(by8 a.Kind)]:List UInt8)).map bV)∧((([116]:List UInt8)++(CY b a.Sn a.Epoch a.Seq))++([(by8 a.Kind)]:List UInt8)).length≤1073741824)),(37,[],[],(fun _ v _=>v=(vp m 9))),(38,[],[6],(fun _ v _=>v=(vs D a.Body.length E)))]:GV) (fun lf o=>Ch (fun k=>(Value.slice x (([116]:List UInt8)++(CY b a.Sn a.Epoch a.Seq)).length y).ownBlock=some k) aq o∧(lf 5=false→World.ownsRow o ao.heap.size 5 1 (.slice x (([116]:List UInt8)++(CY b a.Sn a.Epoch a.Seq)).length y) (([116]:List UInt8)++(CY b a.Sn a.Epoch a.Seq)).length ((([116]:List UInt8)++(CY b a.Sn a.Epoch a.Seq)).map bV))) [(5,fun w o=>Ch (fun k=>(Value.slice x (([116]:List UInt8)++(CY b a.Sn a.Epoch a.Seq)).length y).ownBlock=some k) w o)] DN rfl (by kernel_rfl) (by kernel_rfl) ?_ (fun _ _ h=>⟨h.to _,fun _=>gc J h⟩) (fun _ _ _ _ h mo k=>⟨h.1.comp k (fun _ _ q=>q.elim),fun q=>gc (h.2 (mo _ q)) k⟩) ⟨(fun _ _ w o h mo hj t=>⟨h.1.comp t (fun _ _ q=>q),fun q=>by rw [hj] at q;cases q⟩),trivial⟩ ?_ ?_ ?_
 ·exact ⟨hV,hE,⟨hV,hE,⟨hV,hE,⟨hV,hE,⟨(fun e v w Z h hk=>by obtain ⟨K,L,he,B,M,hap⟩:=h;exact ⟨K,L,he,gc B hk,M,hap⟩),hE,⟨(fun e v w Z h hk=>by obtain ⟨K,L,he,B,M⟩:=h;exact ⟨K,L,he,gc B hk,M⟩),hE,⟨hV,hE,⟨hV,hE,trivial⟩⟩⟩⟩⟩⟩⟩⟩
 ·exact ⟨⟨.inr hV,⟨.inr hV,⟨.inr hV,⟨.inr hV,⟨.inr (fun e v wX wY h ht=>by obtain ⟨K,L,he,B,M,hap⟩:=h;exact ⟨K,L,he,tC B ht (fun gq hg _ hk=>by have bw:=(Cm B gq hg).1;have bz:=(Cm J gq hk).2;omega),M,hap⟩),⟨.inl rfl,⟨.inr hV,⟨.inr hV,trivial⟩⟩⟩⟩⟩⟩⟩⟩,trivial⟩
 ·refine ⟨?_,⟨?_,⟨?_,⟨?_,⟨?_,⟨?_,⟨?_,⟨?_,trivial⟩⟩⟩⟩⟩⟩⟩⟩
  ·rintro lf p ⟨b0,b1⟩ ⟨b2,-⟩
   rintro _ _ _ _ _ _ _ _
   refine sw ?_
   refine mw (vs x (([116]:List UInt8)++(CY b a.Sn a.Epoch a.Seq)).length y) ?_
   exact f1
  ·rintro lf p ⟨b3,b4⟩ ⟨b5,-⟩
   rintro _ _ _ _ _ _ _ _
   refine sw ?_
   refine pu (vp m 0) wN ?_
   exact f1
  ·rintro lf p ⟨aN,b6⟩ ⟨b7,-⟩
   rintro _ _ rfl _ _ _ _ _ _
   refine sw ?_
   have aO:=(((H.kp s).ch I (fun h=>by have:=(Cm Q _ h).1;have:=nL P (z3 d g j);omega)).ch aN (fun h=>by have:=(Cm J _ h).1;have:=nL P (z3 d g j);omega))
   refine ld (vi a.Kind) wN tE aO ?_
   exact f1
  ·rintro lf p ⟨b8,b9⟩ ⟨bA,-⟩
   rintro _ _ rfl _ rfl _ _ _ _ _
   refine sw ?_
   refine Gd a.Kind wN rfl rfl (by kernel_rfl) ?_
   exact f1
  ·rintro lf p ⟨aP,bB⟩ ⟨bC,-⟩
   rintro _ _ rfl _ rfl _ rfl _ _ _ _
   refine sw ?_
   refine ltB ([(by8 a.Kind)]:List UInt8) wN tD ?_
   intro bD bE au aQ aR
   exact CN aQ ⟨_,_,rfl,(tB aR aP.size),(by simp),⟨trivial,trivial⟩⟩
  ·rintro lf p ⟨aS,aT⟩ ⟨aU,-⟩
   have aV:=aT (aU.resolve_left (fun h=>Bool.noConfusion (show true=false from h.2)))
   rintro _ rfl _ rfl _ rfl _ rfl _ ⟨bF,bG,rfl,aW,bH,-⟩ _ _ _
   refine sw ?_
   refine apB (([116]:List UInt8)++(CY b a.Sn a.Epoch a.Seq)) ([(by8 a.Kind)]:List UInt8) wN tD aV (Rd.of_own aW) (z4 G s I aS) ?_
   intro bI bJ au aX aY bK aZ
   exact CN aX ⟨_,_,rfl,aY,aZ⟩
  ·rintro lf p ⟨bL,bM⟩ ⟨bN,-⟩
   rintro _ _ _ _ _ _ _ _
   refine sw ?_
   refine pu (vp m 9) wN ?_
   exact f1
  ·rintro lf p ⟨ba,bO⟩ ⟨bP,-⟩
   rintro _ _ _ _ _ _ _ rfl _
   refine sw ?_
   have bb:=(((H.kp s).ch I (fun h=>by have:=(Cm Q _ h).1;have:=nL P (z3 d g j);omega)).ch ba (fun h=>by have:=(Cm J _ h).1;have:=nL P (z3 d g j);omega))
   refine ld (vs D a.Body.length E) wN BT bb ?_
   exact f1
 ·rintro lf p ⟨av,bQ⟩
  have ax:=aM.ext av (fun k hk=>nT (z4 u d g j) (Cm J k hk).1)
  rintro _ rfl _ rfl _ rfl _ rfl _ ⟨bR,bS,rfl,bT,bU,-⟩ _ ⟨bW,bX,rfl,ay,bY⟩ _ rfl _ rfl
  refine sw ?_
  refine apB ((([116]:List UInt8)++(CY b a.Sn a.Epoch a.Seq))++([(by8 a.Kind)]:List UInt8)) a.Body wN tD ay (ae.from0 ax) (z4 G s I av) ?_
  intro az a0 au bc bd bZ be
  have bg:=ax.ext bc (fun k hk=>nT (z4 u d g j) (Cm ay k hk).1)
  refine aw (vs az (((([116]:List UInt8)++(CY b a.Sn a.Epoch a.Seq))++([(by8 a.Kind)]:List UInt8))++a.Body).length a0) ?_
  refine n3 ?_
  refine rt (vs az (((([116]:List UInt8)++(CY b a.Sn a.Epoch a.Seq))++([(by8 a.Kind)]:List UInt8))++a.Body).length a0) ?_
  refine ⟨bg.keep0,?_⟩
  simp only [Cp,f,i,F,cond_true,cond_false]
  exact ⟨_,_,rfl,(tB bd (z4 u d g j)),be,⟨trivial,trivial⟩⟩

def O_3 (w:World) (lo:Nat) (v:Value) (x:(Int)):Prop:=v=.int .i64 x
def EZ (a:Int):(Int):=bif (decide (a < 1024)) then (0) else (((a - 1024)+1))
theorem NP (d:World) (a:Int) (f:-1≤a∧a≤1000000000000000):Fn Tryz.prog 109 #[(vi a)] d (fun v e=>Keep d e∧O_3 e d.heap.size v (EZ a)):=by
 refine Cl (n:=8) [(vi a)] Tryz.func109 rfl rfl ?_
 refine sr ?_
 refine aw (vi 0) ?_
 refine n4 ?_
 refine mw (vi a) ?_
 refine pu (vb (decide (a < 1024))) wN ?_
 refine n2 ?_
 rcases bt (decide (a < 1024)) with b|b
 ·have g:=dT b
  refine ct b ?_
  refine sr ?_
  refine aw (vi 0) ?_
  refine n1 ?_
  refine rt (vi 0) ?_
  refine ⟨Ch.refl _ _,?_⟩
  simp only [EZ,b,cond_true,cond_false]
  exact rfl
 have h:=dF b
 refine cf b ?_
 refine y1 ?_
 refine mw (vi a) ?_
 refine ar (a - 1024) wN ?_
 refine ar ((a - 1024)+1) wN ?_
 refine aw (vi ((a - 1024)+1)) ?_
 refine n3 ?_
 refine rt (vi ((a - 1024)+1)) ?_
 refine ⟨Ch.refl _ _,?_⟩
 simp only [EZ,b,cond_true,cond_false]
 exact rfl

def DC (a:PWin) (b:Int):(Bool):=bif (EQ a) then (bif (Cy b 0 281474976710655) then (bif (decide (a.Top < b)) then (true) else (bif (decide ((EZ a.Top)≤b)) then (!(Dm a b)) else (false))) else (false)) else (false)
theorem Me (h:World) (r:Value) (a:PWin) (C:LD h r a) (b:Int) :Fn Tryz.prog 73 #[r,(vi b)] h (fun v s=>Keep h s∧O_4 s h.heap.size v (DC a b)):=by
 obtain ⟨i,j,rfl,t,u⟩:=C
 refine Cl (n:=30) [(va (DW a i j)),(vi b)] Tryz.func73 rfl rfl ?_
 refine sr ?_
 refine bx (DW a i j) wN ?_
 intro l D P Q E w
 have m:=(Ch.base h).extk E
 refine aw (vb false) ?_
 refine n4 ?_
 refine jT1 [(1,(vi b)),(2,(vp l 0)),(4,(vb false))] (DC a b=false) ?_ fun x=>?_
 ·intro F y G R
  have H:=m.extk G
  refine sr ?_
  refine aw (vb false) ?_
  refine n1 ?_
  refine rt (vb false) ?_
  refine ⟨H.keep0,?_⟩
  rw [F]
  exact rfl
 refine lN (DW a i j) wN CM Cj w ?_
 refine cl wN (NT D _ a (FX (t.from0 m) u)) ?_
 rintro _ y ⟨k,rfl⟩
 refine pu (vb (!(EQ a))) wN ?_
 refine mw (vb (!(EQ a))) ?_
 rcases bf (EQ a) with e|e
 ·iterate 3 refine sk (cA not e) ?_
  refine pk (vb true) wN (cA not e) ?_
  refine n2 ?_
  refine ct (Eq.refl true) ?_
  have I:DC a b=false:=by simp only [DC,e,cond_true,cond_false]
  exact wj (x I _ k)
 have S:=PL e
 refine mv (vi b) (wS (cA not e)) ?_
 refine cl (wS (cA not e)) (EA y b 0 281474976710655) ?_
 rintro _ J ⟨o,rfl⟩
 have A:=(m.extk k).extk o
 refine pu (vb (!(Cy b 0 281474976710655))) (wS (cA not e)) ?_
 refine pf (vb (!(Cy b 0 281474976710655))) wN (cA not e) ?_
 refine n2 ?_
 rcases bf (Cy b 0 281474976710655) with g|g
 ·have T:=CW g
  refine ct (cA not g) ?_
  have K:DC a b=false:=by simp only [DC,e,g,cond_true,cond_false]
  exact wj (x K _ (k.trans o))
 have V:=CK g
 refine cf (cA not g) ?_
 refine y1 ?_
 refine mw (vi b) ?_
 refine pu (vp l 0) wN ?_
 have p:=((w.kp k).kp o)
 refine ld (vi a.Top) wN tE p ?_
 refine pu (vb (decide (a.Top < b))) wN ?_
 refine mw (vb (decide (a.Top < b))) ?_
 rcases bt (decide (a.Top < b)) with d|d
 ·have W:=dT d
  iterate 6 refine sk d ?_
  refine su ?_
  refine su ?_
  refine su ?_
  refine su ?_
  refine sk d ?_
  refine pk (vb true) wN d ?_
  refine aw (vb true) ?_
  refine n3 ?_
  refine rt (vb true) ?_
  refine ⟨A.keep0,?_⟩
  simp only [DC,e,g,d,cond_true,cond_false]
  exact rfl
 have X:=dF d
 refine mv (vi b) (wS d) ?_
 refine pu (vp l 0) (wS d) ?_
 refine ld (vi a.Top) (wS d) tE p ?_
 refine cl (wS d) (NP J a.Top (by omega)) ?_
 rintro _ L ⟨B,rfl⟩
 have q:=A.extk B
 refine pu (vb (decide ((EZ a.Top)≤b))) (wS d) ?_
 refine mv (vb (decide ((EZ a.Top)≤b))) (wS d) ?_
 rcases bf (decide ((EZ a.Top)≤b)) with f|f
 ·have Y:=dF f
  iterate 4 refine sk f ?_
  refine pf (vb false) (wS d) f ?_
  refine pf (vb false) wN d ?_
  refine aw (vb false) ?_
  refine n3 ?_
  refine rt (vb false) ?_
  refine ⟨q.keep0,?_⟩
  simp only [DC,e,g,d,f,cond_true,cond_false]
  exact rfl
 have Z:=dT f
 have M:=(p.kp B)
 refine lN (DW a i j) (wS f) CM Cj M ?_
 refine mv (vi b) (wS f) ?_
 refine cl (wS f) (Kd L _ a (FX (t.from0 q) u) b (by first|assumption|omega) (by first|assumption|omega)) ?_
 rintro _ aa ⟨N,rfl⟩
 have O:=q.extk N
 refine pu (vb (!(Dm a b))) (wS f) ?_
 refine pk (vb (!(Dm a b))) (wS d) f ?_
 refine pf (vb (!(Dm a b))) wN d ?_
 refine aw (vb (!(Dm a b))) ?_
 refine n3 ?_
 refine rt (vb (!(Dm a b))) ?_
 refine ⟨O.keep0,?_⟩
 simp only [DC,e,g,d,f,cond_true,cond_false]
 exact rfl
theorem Gm {w:PWin} {n:Int} (h:DC w n=true):Fj w.Bits=true∧w.Bits.length=32 ∧ -1≤w.Top∧w.Top≤281474976710655∧0≤n∧n≤281474976710655:=by
  unfold DC at h
  cases h1:EQ w with
  | false=>simp only [h1,cond_false] at h;cases h
  | true =>
    cases h2:Cy n 0 281474976710655 with
    | false=>simp only [h1,h2,cond_true,cond_false] at h;cases h
    | true =>
      have a:=PL h1
      have b:=CK h2
      exact ⟨a.1,a.2.1,a.2.2.1,a.2.2.2,b.1,b.2⟩

theorem So (b:World) (a:Int) :Fn Tryz.prog 164 #[(vi a)] b (fun v e=>Keep b e∧GE e b.heap.size v (DQ a)):=by
 refine Cl (n:=27) [(vi a)] Tryz.func164 rfl rfl ?_
 refine sr ?_
 refine aw (vs none 0 0) ?_
 refine n4 ?_
 refine jT1 [(0,(vi a)),(2,(vs none 0 0))] (DQ a=[]) ?_ fun B=>?_
 ·intro N o C am
  refine sr ?_
  refine CR wN rfl rfl tD (fun w=>by kernel_rfl) ?_
  intro D x O P
  have Q:=((Ch.base b).extk C).extk O
  refine aw (vs (some D) 0 0) ?_
  refine n1 ?_
  refine rt (vs (some D) 0 0) ?_
  refine ⟨Q.keep0,?_⟩
  rw [N]
  exact ⟨_,_,rfl,(tB P C.size),(by simp),⟨trivial,trivial⟩⟩
 refine mw (vi a) ?_
 refine pu (vb (decide (a < 0))) wN ?_
 refine mw (vb (decide (a < 0))) ?_
 rcases bt (decide (a < 0)) with d|d
 ·have an:=dT d
  iterate 2 refine sk d ?_
  refine pk (vb true) wN d ?_
  refine n2 ?_
  refine ct (Eq.refl true) ?_
  have R:DQ a=[]:=by first|exact Jl (by omega)|exact NA (by omega) (by omega) (by omega) (by omega)
  exact wj (B R _ (Ch.refl _ _))
 have ao:=dF d
 refine mv (vi a) (wS d) ?_
 refine pu (vb (decide (1048576 < a))) (wS d) ?_
 refine pf (vb (decide (1048576 < a))) wN d ?_
 refine n2 ?_
 rcases bt (decide (1048576 < a)) with h|h
 ·have ap:=dT h
  refine ct h ?_
  have S:DQ a=[]:=by first|exact Jl (by omega)|exact NA (by omega) (by omega) (by omega) (by omega)
  exact wj (B S _ (Ch.refl _ _))
 have aq:=dF h
 refine cf h ?_
 refine y1 ?_
 refine ltB ([128]:List UInt8) wN tD ?_
 intro p q o y T
 have V:=(Ch.base b).extk y
 refine aw (vs p ([128]:List UInt8).length q) ?_
 refine BU<|re<|Cc<|Ca ?_
 have E:(([128]:List UInt8):List UInt8)=[(128:UInt8)]++List.replicate 0 (0:UInt8):=by first|rfl|(rw [List.replicate_succ',List.append_assoc])
 refine CJ [(0,(vi a)),(2,(vs none 0 0)),(3,(.slice p ([(128:UInt8)]++List.replicate 0 (0:UInt8)).length q))] ⟨rfl,rfl,(cA (fun l:List UInt8=>Value.slice p l.length q) E),trivial⟩ (fun e' e=>∃ (j:Nat) (F:Env) (f:Option Addr) (g:Nat),e'=pt F [(0,(vi a)),(2,(vs none 0 0)),(3,(.slice f ([(128:UInt8)]++List.replicate j (0:UInt8)).length g))]∧Ch (fun k=>b.heap.size≤k) b e∧Ch (fun k=>b.heap.size≤k) o e∧((j:Nat):Int)≤(64 - (a+9) % 64) % 64∧(World.ownsRow e b.heap.size 5 1 (.slice f ([(128:UInt8)]++List.replicate j (0:UInt8)).length g) ([(128:UInt8)]++List.replicate j (0:UInt8)).length (([(128:UInt8)]++List.replicate j (0:UInt8)).map bV)∧([(128:UInt8)]++List.replicate j (0:UInt8)).length≤1073741824)) (fun e' _=>100 - (lenOf (e' 3))) ?_ ?_
 ·exact fun u=>⟨0,u,p,q,rfl,V,(Ch.refl (fun k=>b.heap.size≤k) o),(by omega),(E ▸ ⟨T,(by simp)⟩)⟩
 ·rintro _ x ⟨j,F,f,g,rfl,G,A,au,⟨i,W⟩⟩
  have hpl:([(128:UInt8)]++List.replicate j (0:UInt8)).length=1+j:=by rw [List.length_append,List.length_replicate];rfl
  refine Cc<|sr ?_
  refine mw (vi a) ?_
  refine mw (vs f ([(128:UInt8)]++List.replicate j (0:UInt8)).length g) ?_
  refine ln wN tD (Rd.of_own i) ?_
  refine ar (a+(([(128:UInt8)]++List.replicate j (0:UInt8)).length:Int)) wN ?_
  refine ar ((a+(([(128:UInt8)]++List.replicate j (0:UInt8)).length:Int))+8) wN ?_
  refine Fq ((a+(([(128:UInt8)]++List.replicate j (0:UInt8)).length:Int))+8) 64 wN rfl rfl (by kernel_rfl) (by first|omega|assumption) ?_
  refine pu (vb (!(decide ((((a+(([(128:UInt8)]++List.replicate j (0:UInt8)).length:Int))+8) % 64)=0)))) wN ?_
  refine n2 ?_
  rcases bf (decide ((((a+(([(128:UInt8)]++List.replicate j (0:UInt8)).length:Int))+8) % 64)=0)) with m|m
  ·have av:=dF m
   refine ct (cA not m) ?_
   refine Ct<|re<|Ca<|BZ ?_
   refine mw (vs f ([(128:UInt8)]++List.replicate j (0:UInt8)).length g) ?_
   refine ltB ([0]:List UInt8) wN tD ?_
   intro ax ay H r X
   have Y:=(gc i r)
   refine apB ([(128:UInt8)]++List.replicate j (0:UInt8)) ([0]:List UInt8) wN tD Y (Rd.of_own X) (z3 y A r) ?_
   intro s t Z I aa az ab
   have ac:=(G.extk r).ext I (fun k hk=>nT (Nat.le_refl b.heap.size) (Cm i k hk).1)
   refine aw (vs s (([(128:UInt8)]++List.replicate j (0:UInt8))++([0]:List UInt8)).length t) ?_
   refine BU<|BS ?_
   have J:((([(128:UInt8)]++List.replicate j (0:UInt8))++([0]:List UInt8)):List UInt8)=[(128:UInt8)]++List.replicate (j+1) (0:UInt8):=by first|rfl|(rw [List.replicate_succ',List.append_assoc])
   refine CI (w0:=x) [(0,(vi a)),(2,(vs none 0 0)),(3,(.slice s ([(128:UInt8)]++List.replicate (j+1) (0:UInt8)).length t))] ?_ ?_ ?_
   · exact ⟨rfl,rfl,(cA (fun l:List UInt8=>Value.slice s l.length t) J),trivial⟩
   · exact fun u=>⟨(j+1),u,s,t,rfl,ac,((((Ch.refl (fun k=>b.heap.size≤k) o).ext A (fun k hk=>hk)).extk r).ext I (fun k hk=>nT (Nat.le_refl b.heap.size) (Cm i k hk).1)),(by omega),(J ▸ ⟨aa,ab⟩)⟩
   · show 100 - ([(128:UInt8)]++List.replicate (j+1) (0:UInt8)).length < 100 - ([(128:UInt8)]++List.replicate j (0:UInt8)).length;simp only [List.length_append,List.length_cons,List.length_nil,List.length_replicate];omega
  have a0:=dT m
  refine cf (cA not m) ?_
  refine CS<|wb<|wb<|Ce<|re<|sr ?_
  refine mw (vs f ([(128:UInt8)]++List.replicate j (0:UInt8)).length g) ?_
  refine cl wN (Jw x _ ([(128:UInt8)]++List.replicate j (0:UInt8)) (CC (Rd.of_own i) W) 0 4 (by first|omega|(simp;done)|(simp;omega)|(simp only [List.length_append,List.length_cons,List.length_nil] at *;omega))) ?_
  rintro _ H ⟨K,⟨a1,a2,rfl,ad,ae,a3⟩⟩
  have a4:=Fa ([(128:UInt8)]++List.replicate j (0:UInt8)) 0 4
  refine mw (vi a) ?_
  refine ar (8*a) wN ?_
  refine cl wN (Jw H _ (Et ([(128:UInt8)]++List.replicate j (0:UInt8)) 0 4) (CC (Rd.of_own ad) ae) (8*a) 4 (by first|omega|(simp;done)|(simp;omega)|(simp only [List.length_append,List.length_cons,List.length_nil] at *;omega))) ?_
  rintro _ Z ⟨af,⟨L,M,rfl,ah,ai,a5⟩⟩
  have aj:=(G.extk K).extk af
  have a6:=Fa (Et ([(128:UInt8)]++List.replicate j (0:UInt8)) 0 4) (8*a) 4
  refine aw (vs L (Et (Et ([(128:UInt8)]++List.replicate j (0:UInt8)) 0 4) (8*a) 4).length M) ?_
  refine n3 ?_
  refine rt (vs L (Et (Et ([(128:UInt8)]++List.replicate j (0:UInt8)) 0 4) (8*a) 4).length M) ?_
  refine ⟨aj.keep0,?_⟩
  have ak:DQ a=(Et (Et ([(128:UInt8)]++List.replicate j (0:UInt8)) 0 4) (8*a) 4):=by first|exact Jl (by omega)|exact NA (by omega) (by omega) (by omega) (by omega)
  rw [ak]
  exact ⟨_,_,rfl,(tB ah (z3 y A K)),ai,⟨trivial,trivial⟩⟩

def Qm (w:World) (lo:Nat) (v:Value) (x:(List Int)):Prop:=∃ (a:Option Addr) (b:Nat),v=.slice a x.length b∧w.ownsRow lo 3 1 (.slice a x.length b) x.length (x.map iV)∧x.length≤1073741824∧Aps [(a,b)]
theorem QH (a:World)  :Fn Tryz.prog 165 #[] a (fun v b=>Keep a b∧Qm b a.heap.size v (k0)):=by
 refine Cl (n:=2) [] Tryz.func165 rfl rfl ?_
 refine sr ?_
 refine aw (vs none 0 0) ?_
 refine nx ?_
 refine ltI ([1779033703,3144134277,1013904242,2773480762,1359893119,2600822924,528734635,1541459225]:List Int) wN Cd ?_
 intro d e j f g
 have h:=(Ch.base a).extk f
 refine aw (vs d ([1779033703,3144134277,1013904242,2773480762,1359893119,2600822924,528734635,1541459225]:List Int).length e) ?_
 refine n3 ?_
 refine rt (vs d ([1779033703,3144134277,1013904242,2773480762,1359893119,2600822924,528734635,1541459225]:List Int).length e) ?_
 refine ⟨h.keep0,?_⟩
 have i:k0=([1779033703,3144134277,1013904242,2773480762,1359893119,2600822924,528734635,1541459225]:List Int):=by rfl
 rw [i]
 exact ⟨_,_,rfl,g,(by simp),⟨trivial,trivial⟩⟩

def Mw (w:World) (v:Value) (x:(List Int)):Prop:=∃ (a:Option Addr) (b:Nat),v=.slice a x.length b∧Rd w 1 (.slice a x.length b) x.length (x.map iV)∧x.length≤1073741824
def ws8 (x:List Int):Bool:=Gp x 8
theorem RY {x:List Int} (h:ws8 x=true):Fj x=true∧(x.length:Int)=8:=FF h
theorem NQ (b:World) (m:Value) (a:List Int) (s:Mw b m a) :Fn Tryz.prog 169 #[m] b (fun v g=>Keep b g∧O_4 g b.heap.size v (ws8 a)):=by
 obtain ⟨d,e,rfl,l,A⟩:=s
 refine Cl (n:=19) [(vs d a.length e)] Tryz.func169 rfl rfl ?_
 refine sr ?_
 refine aw (vb false) ?_
 refine n4 ?_
 refine aw (vi 0) ?_
 refine BU<|re<|Ca ?_
 refine CJ [(0,(vs d a.length e)),(3,(vi ((0:Nat):Int)))] ⟨rfl,(cA (Value.int .i64) (show (0:Int)=((0:Nat):Int) by omega)),trivial⟩ (fun e' g=>∃ (i:Nat) (o:Env),e'=pt o [(0,(vs d a.length e)),(3,(vi ((i:Nat):Int)))]∧Ch (fun k=>b.heap.size≤k) b g∧Ch (fun k=>b.heap.size≤k) b g∧i≤a.length∧Fj (a.take i)=true) (fun e' _=>a.length - ((intOf (e' 3))).toNat) ?_ ?_
 ·exact fun u=>⟨0,u,rfl,(Ch.base b),(Ch.refl (fun k=>b.heap.size≤k) b),(by omega),(by first|rfl|exact Gq (by assumption) (by omega) (by assumption))⟩
 ·rintro _ p ⟨i,o,rfl,f,t,B,C⟩
  refine Cc<|sr ?_
  refine mw (vi ((i:Nat):Int)) ?_
  refine mw (vs d a.length e) ?_
  refine ln wN Cd (l.from0 f) ?_
  refine pu (vb (decide (((i:Nat):Int) < (a.length:Int)))) wN ?_
  refine n2 ?_
  rcases bf (decide (((i:Nat):Int) < (a.length:Int))) with h|h
  ·have D:=dF h
   refine cf h ?_
   refine CS<|wb<|wb<|Ce<|re<|sr ?_
   refine mw (vs d a.length e) ?_
   refine ln wN Cd (l.from0 f) ?_
   refine pu (vb (decide ((a.length:Int)=8))) wN ?_
   refine aw (vb (decide ((a.length:Int)=8))) ?_
   refine n3 ?_
   refine rt (vb (decide ((a.length:Int)=8))) ?_
   refine ⟨f.keep0,?_⟩
   have w:ws8 a=decide ((a.length:Int)=8):=by first|(have hz:=FD (x:=a) (k:=i) (by omega) (by first|assumption|omega);simp [ws8,Gp,hz])|(have hz:=Dq (x:=a) (k:=i) (by assumption) (by omega);simp [ws8,Gp,hz])
   rw [w]
   exact rfl
  have E:=dT h
  refine ct h ?_
  refine Ct<|re<|Cc<|Ca<|sr ?_
  refine mw (vs d a.length e) ?_
  refine mw (vi ((i:Nat):Int)) ?_
  refine ix wN ((i:Nat):Int) Cd (l.from0 f) ?_
  refine ei (x:=a) i wN tE (l.from0 f) ?_
  refine cl wN (EA p (a.getD i 0) 0 4294967295) ?_
  rintro _ F ⟨q,rfl⟩
  have r:=f.extk q
  refine pu (vb (!(Cy (a.getD i 0) 0 4294967295))) wN ?_
  refine n2 ?_
  rcases bf (Cy (a.getD i 0) 0 4294967295) with j|j
  ·have G:=CW j
   refine ct (cA not j) ?_
   refine sr ?_
   refine aw (vb false) ?_
   refine BU<|re<|DJ<|CB<|Cb<|Cb<|CB<|Cb ?_
   refine rt (vb false) ?_
   refine ⟨r.keep0,?_⟩
   have y:ws8 a=false:=by first|(have hz:=FD (x:=a) (k:=i) (by omega) (by first|assumption|omega);simp [ws8,Gp,hz])|(have hz:=Dq (x:=a) (k:=i) (by assumption) (by omega);simp [ws8,Gp,hz])
   rw [y]
   exact rfl
  have H:=CK j
  refine cf (cA not j) ?_
  refine Ct<|BS<|re<|BZ ?_
  refine mw (vi ((i:Nat):Int)) ?_
  refine ar (((i:Nat):Int)+1) wN ?_
  refine aw (vi (((i:Nat):Int)+1)) ?_
  refine BU ?_
  refine CI (w0:=p) [(0,(vs d a.length e)),(3,(vi (((i+1):Nat):Int)))] ?_ ?_ ?_
  · exact ⟨rfl,(cA (Value.int .i64) (show ((((i:Nat):Int)+1):Int)=(((i+1):Nat):Int) by omega)),trivial⟩
  · exact fun u=>⟨(i+1),u,rfl,r,(((Ch.refl (fun k=>b.heap.size≤k) b).ext t (fun k hk=>hk)).extk q),(by omega),(by first|rfl|exact Gq (by assumption) (by omega) (by assumption))⟩
  · show a.length - ((((i+1):Nat):Int)).toNat < a.length - (((i:Nat):Int)).toNat;omega

theorem Sl (a:World)  :Fn Tryz.prog 170 #[] a (fun v b=>Keep a b∧Qm b a.heap.size v (kw)):=by
 refine Cl (n:=2) [] Tryz.func170 rfl rfl ?_
 refine sr ?_
 refine aw (vs none 0 0) ?_
 refine nx ?_
 refine ltI ([1116352408,1899447441,3049323471,3921009573,961987163,1508970993,2453635748,2870763221,3624381080,310598401,607225278,1426881987,1925078388,2162078206,2614888103,3248222580,3835390401,4022224774,264347078,604807628,770255983,1249150122,1555081692,1996064986,2554220882,2821834349,2952996808,3210313671,3336571891,3584528711,113926993,338241895,666307205,773529912,1294757372,1396182291,1695183700,1986661051,2177026350,2456956037,2730485921,2820302411,3259730800,3345764771,3516065817,3600352804,4094571909,275423344,430227734,506948616,659060556,883997877,958139571,1322822218,1537002063,1747873779,1955562222,2024104815,2227730452,2361852424,2428436474,2756734187,3204031479,3329325298]:List Int) wN Cd ?_
 intro d e j f g
 have h:=(Ch.base a).extk f
 refine aw (vs d ([1116352408,1899447441,3049323471,3921009573,961987163,1508970993,2453635748,2870763221,3624381080,310598401,607225278,1426881987,1925078388,2162078206,2614888103,3248222580,3835390401,4022224774,264347078,604807628,770255983,1249150122,1555081692,1996064986,2554220882,2821834349,2952996808,3210313671,3336571891,3584528711,113926993,338241895,666307205,773529912,1294757372,1396182291,1695183700,1986661051,2177026350,2456956037,2730485921,2820302411,3259730800,3345764771,3516065817,3600352804,4094571909,275423344,430227734,506948616,659060556,883997877,958139571,1322822218,1537002063,1747873779,1955562222,2024104815,2227730452,2361852424,2428436474,2756734187,3204031479,3329325298]:List Int).length e) ?_
 refine n3 ?_
 refine rt (vs d ([1116352408,1899447441,3049323471,3921009573,961987163,1508970993,2453635748,2870763221,3624381080,310598401,607225278,1426881987,1925078388,2162078206,2614888103,3248222580,3835390401,4022224774,264347078,604807628,770255983,1249150122,1555081692,1996064986,2554220882,2821834349,2952996808,3210313671,3336571891,3584528711,113926993,338241895,666307205,773529912,1294757372,1396182291,1695183700,1986661051,2177026350,2456956037,2730485921,2820302411,3259730800,3345764771,3516065817,3600352804,4094571909,275423344,430227734,506948616,659060556,883997877,958139571,1322822218,1537002063,1747873779,1955562222,2024104815,2227730452,2361852424,2428436474,2756734187,3204031479,3329325298]:List Int).length e) ?_
 refine ⟨h.keep0,?_⟩
 have i:kw=([1116352408,1899447441,3049323471,3921009573,961987163,1508970993,2453635748,2870763221,3624381080,310598401,607225278,1426881987,1925078388,2162078206,2614888103,3248222580,3835390401,4022224774,264347078,604807628,770255983,1249150122,1555081692,1996064986,2554220882,2821834349,2952996808,3210313671,3336571891,3584528711,113926993,338241895,666307205,773529912,1294757372,1396182291,1695183700,1986661051,2177026350,2456956037,2730485921,2820302411,3259730800,3345764771,3516065817,3600352804,4094571909,275423344,430227734,506948616,659060556,883997877,958139571,1322822218,1537002063,1747873779,1955562222,2024104815,2227730452,2361852424,2428436474,2756734187,3204031479,3329325298]:List Int):=by rfl
 rw [i]
 exact ⟨_,_,rfl,g,(by simp),⟨trivial,trivial⟩⟩

theorem EF:∀ w,(isAgg 5).run Tryz.prog w=.ok false w:=fun w=>by kernel_rfl
def Oz (w:World) (lo:Nat) (v:Value) (x:(Int)×(Int)×(Bool)):Prop:=v=.tuple #[.int .i64 x.1,.int .i64 x.2.1,.bool x.2.2]
theorem RC (e:World) (t:Value) (b:List UInt8) (A:EP e t b) (a:Int) (d:Int) :Fn Tryz.prog 174 #[t,(vi a),(vi d)] e (fun v m=>Keep e m∧Oz m e.heap.size v (DX b a d)):=by
 obtain ⟨j,l,rfl,s,K⟩:=A
 refine Cl (n:=48) [(vs j b.length l),(vi a),(vi d)] Tryz.func174 rfl rfl ?_
 refine sr ?_
 refine aw (vi 0) ?_
 refine aw (vi 0) ?_
 refine aw (vb false) ?_
 refine n4 ?_
 refine jT1 [(0,(vs j b.length l)),(1,(vi a)),(2,(vi d)),(6,(vi 0)),(7,(vi 0)),(8,(vb false))] (DX b a d=(0,0,false)) ?_ fun q=>?_
 ·intro B w C L
  have D:=(Ch.base e).extk C
  refine sr ?_
  refine aw (vi 0) ?_
  refine aw (vi 0) ?_
  refine aw (vb false) ?_
  refine n1 ?_
  refine ED (.inl rfl) (vi 0) (vi 0) (vb false) rfl rfl rfl rfl ?_
  refine ⟨D.keep0,?_⟩
  rw [B]
  exact rfl
 refine mw (vi d) ?_
 refine pu (vb (decide (d < 1))) wN ?_
 refine mw (vb (decide (d < 1))) ?_
 rcases bt (decide (d < 1)) with g|g
 ·have M:=dT g
  iterate 2 refine sk g ?_
  refine pk (vb true) wN g ?_
  refine mw (vb true) ?_
  iterate 2 refine sk (Eq.refl true) ?_
  refine pk (vb true) wN (Eq.refl true) ?_
  refine mw (vb true) ?_
  iterate 6 refine sk (Eq.refl true) ?_
  refine pk (vb true) wN (Eq.refl true) ?_
  refine n2 ?_
  refine ct (Eq.refl true) ?_
  have E:DX b a d=(0,0,false):=by first|exact Gk (by omega)|exact II (by omega) (by omega) (by omega) (by omega)
  exact wj (q E _ (Ch.refl _ _))
 have N:=dF g
 refine mv (vi d) (wS g) ?_
 refine pu (vb (decide (6 < d))) (wS g) ?_
 refine pf (vb (decide (6 < d))) wN g ?_
 refine mw (vb (decide (6 < d))) ?_
 rcases bt (decide (6 < d)) with h|h
 ·have O:=dT h
  iterate 2 refine sk h ?_
  refine pk (vb true) wN h ?_
  refine mw (vb true) ?_
  iterate 6 refine sk (Eq.refl true) ?_
  refine pk (vb true) wN (Eq.refl true) ?_
  refine n2 ?_
  refine ct (Eq.refl true) ?_
  have F:DX b a d=(0,0,false):=by first|exact Gk (by omega)|exact II (by omega) (by omega) (by omega) (by omega)
  exact wj (q F _ (Ch.refl _ _))
 have P:=dF h
 refine mv (vi a) (wS h) ?_
 refine pu (vb (decide (a < 0))) (wS h) ?_
 refine pf (vb (decide (a < 0))) wN h ?_
 refine mw (vb (decide (a < 0))) ?_
 rcases bt (decide (a < 0)) with f|f
 ·have Q:=dT f
  iterate 6 refine sk f ?_
  refine pk (vb true) wN f ?_
  refine n2 ?_
  refine ct (Eq.refl true) ?_
  have G:DX b a d=(0,0,false):=by first|exact Gk (by omega)|exact II (by omega) (by omega) (by omega) (by omega)
  exact wj (q G _ (Ch.refl _ _))
 have R:=dF f
 refine mv (vi a) (wS f) ?_
 refine mv (vs j b.length l) (wS f) ?_
 refine ln (wS f) tD s ?_
 refine mv (vi d) (wS f) ?_
 refine ar ((b.length:Int) - d) (wS f) ?_
 refine pu (vb (decide (((b.length:Int) - d) < a))) (wS f) ?_
 refine pf (vb (decide (((b.length:Int) - d) < a))) wN f ?_
 refine n2 ?_
 rcases bt (decide (((b.length:Int) - d) < a)) with o|o
 ·have S:=dT o
  refine ct o ?_
  have H:DX b a d=(0,0,false):=by first|exact Gk (by omega)|exact II (by omega) (by omega) (by omega) (by omega)
  exact wj (q H _ (Ch.refl _ _))
 have T:=dF o
 refine cf o ?_
 refine y1 ?_
 refine aw (vi 0) ?_
 refine n4 ?_
 refine aw (vi 0) ?_
 refine BU<|re<|Ca ?_
 refine CJ [(0,(vs j b.length l)),(1,(vi a)),(2,(vi d)),(6,(vi 0)),(7,(vi 0)),(8,(vb false)),(9,(vi (Gc ((b.drop a.toNat).take 0) 0))),(10,(vi ((0:Nat):Int)))] ⟨rfl,rfl,rfl,rfl,rfl,rfl,(cA (Value.int .i64) (show (0:Int)=(Gc ((b.drop a.toNat).take 0) 0) by rfl)),(cA (Value.int .i64) (show (0:Int)=((0:Nat):Int) by omega)),trivial⟩ (fun e' m=>∃ (i:Nat) (y:Env),e'=pt y [(0,(vs j b.length l)),(1,(vi a)),(2,(vi d)),(6,(vi 0)),(7,(vi 0)),(8,(vb false)),(9,(vi (Gc ((b.drop a.toNat).take i) 0))),(10,(vi ((i:Nat):Int)))]∧Ch (fun k=>e.heap.size≤k) e m∧Ch (fun k=>e.heap.size≤k) e m∧((i:Nat):Int)≤d) (fun e' _=>(d - (intOf (e' 10))).toNat) ?_ ?_
 ·exact fun u=>⟨0,u,rfl,(Ch.base e),(Ch.refl (fun k=>e.heap.size≤k) e),(by omega)⟩
 ·rintro _ w ⟨i,y,rfl,r,I,V⟩
  have hgb:=NJ (b.drop a.toNat) i (by omega)
  have W:(b.getD (a+((i:Nat):Int)).toNat 0).toNat < 256:=UInt8.toNat_lt _
  refine Cc<|sr ?_
  refine mw (vi ((i:Nat):Int)) ?_
  refine mw (vi d) ?_
  refine pu (vb (decide (((i:Nat):Int) < d))) wN ?_
  refine n2 ?_
  rcases bf (decide (((i:Nat):Int) < d)) with p|p
  ·have X:=dF p
   refine cf p ?_
   refine CS<|wb<|wb<|Ce<|re<|sr ?_
   refine mw (vi (Gc ((b.drop a.toNat).take i) 0)) ?_
   refine mw (vi a) ?_
   refine mw (vi d) ?_
   refine ar (a+d) wN ?_
   refine aw (vi (Gc ((b.drop a.toNat).take i) 0)) ?_
   refine aw (vi (a+d)) ?_
   refine aw (vb true) ?_
   refine n3 ?_
   refine ED (.inl rfl) (vi (Gc ((b.drop a.toNat).take i) 0)) (vi (a+d)) (vb true) rfl rfl rfl rfl ?_
   refine ⟨r.keep0,?_⟩
   have J:DX b a d=((Gc ((b.drop a.toNat).take i) 0),(a+d),true):=by first|exact Gk (by omega)|exact II (by omega) (by omega) (by omega) (by omega)
   rw [J]
   exact rfl
  have Y:=dT p
  refine ct p ?_
  refine Ct<|re<|Cc<|Ca<|BZ ?_
  refine mw (vi (Gc ((b.drop a.toNat).take i) 0)) ?_
  refine ar ((Gc ((b.drop a.toNat).take i) 0)*256) wN ?_
  refine mw (vs j b.length l) ?_
  refine mw (vi a) ?_
  refine mw (vi ((i:Nat):Int)) ?_
  refine ar (a+((i:Nat):Int)) wN ?_
  refine ix wN (a+((i:Nat):Int)) tD (s.from0 r) ?_
  refine eb (x:=b) (((a+((i:Nat):Int))).toNat) wN EF (s.from0 r) ?_
  refine ar ((b.getD ((a+((i:Nat):Int))).toNat 0).toNat:Int) wN ?_
  refine ar (((Gc ((b.drop a.toNat).take i) 0)*256)+((b.getD ((a+((i:Nat):Int))).toNat 0).toNat:Int)) wN ?_
  refine aw (vi (((Gc ((b.drop a.toNat).take i) 0)*256)+((b.getD ((a+((i:Nat):Int))).toNat 0).toNat:Int))) ?_
  refine BU<|BS<|re<|BZ ?_
  refine mw (vi ((i:Nat):Int)) ?_
  refine ar (((i:Nat):Int)+1) wN ?_
  refine aw (vi (((i:Nat):Int)+1)) ?_
  refine BU ?_
  refine CI (w0:=w) [(0,(vs j b.length l)),(1,(vi a)),(2,(vi d)),(6,(vi 0)),(7,(vi 0)),(8,(vb false)),(9,(vi (Gc ((b.drop a.toNat).take (i+1)) 0))),(10,(vi (((i+1):Nat):Int)))] ?_ ?_ ?_
  · exact ⟨rfl,rfl,rfl,rfl,rfl,rfl,(cA (Value.int .i64) (show ((((Gc ((b.drop a.toNat).take i) 0)*256)+((b.getD ((a+((i:Nat):Int))).toNat 0).toNat:Int)):Int)=(Gc ((b.drop a.toNat).take (i+1)) 0) by exact MG (by omega) (by omega))),(cA (Value.int .i64) (show ((((i:Nat):Int)+1):Int)=(((i+1):Nat):Int) by omega)),trivial⟩
  · exact fun u=>⟨(i+1),u,rfl,r,((Ch.refl (fun k=>e.heap.size≤k) e).ext I (fun k hk=>hk)),(by omega)⟩
  · show (d - (((i+1):Nat):Int)).toNat < (d - ((i:Nat):Int)).toNat;omega

theorem IZ (i:World) (e:Int) (d:Int) (x:1≤d) (y:d≤31):Fn Tryz.prog 172 #[(vi e),(vi d)] i (fun v l=>Keep i l∧O_3 l i.heap.size v (rot e d)):=by
 refine Cl (n:=24) [(vi e),(vi d)] Tryz.func172 rfl rfl ?_
 refine sr ?_
 refine aw (vi 0) ?_
 refine nx ?_
 refine mw (vi e) ?_
 refine FE e 4294967295 4294967296 32 wN rfl rfl (by decide) (by decide) (by decide) (by kernel_rfl) ?_
 refine aw (vi (e % 4294967296)) ?_
 refine n4 ?_
 refine jT1 [(1,(vi d)),(4,(vi 0)),(5,(vi (e % 4294967296)))] (rot e d=(e % 4294967296)) ?_ fun m=>?_
 ·intro o f p A
  have q:=(Ch.base i).extk p
  refine sr ?_
  refine mw (vi (e % 4294967296)) ?_
  refine aw (vi (e % 4294967296)) ?_
  refine n1 ?_
  refine rt (vi (e % 4294967296)) ?_
  refine ⟨q.keep0,?_⟩
  rw [o]
  exact rfl
 refine mw (vi d) ?_
 refine pu (vb (decide (d < 1))) wN ?_
 refine mw (vb (decide (d < 1))) ?_
 rcases bt (decide (d < 1)) with g|g
 ·have B:=dT g
  iterate 2 refine sk g ?_
  refine pk (vb true) wN g ?_
  refine n2 ?_
  refine ct (Eq.refl true) ?_
  have r:rot e d=(e % 4294967296):=by first|rfl|(exfalso;omega)
  exact wj (m r _ (Ch.refl _ _))
 have C:=dF g
 refine mv (vi d) (wS g) ?_
 refine pu (vb (decide (31 < d))) (wS g) ?_
 refine pf (vb (decide (31 < d))) wN g ?_
 refine n2 ?_
 rcases bt (decide (31 < d)) with j|j
 ·have D:=dT j
  refine ct j ?_
  have s:rot e d=(e % 4294967296):=by first|rfl|(exfalso;omega)
  exact wj (m s _ (Ch.refl _ _))
 have E:=dF j
 refine cf j ?_
 refine Ct<|re<|Cc ?_
 refine CU ([(15,[],[],(fun _ v _=>v=(vi (e % 4294967296)))),(16,[],[],(fun _ v _=>v=(vi d))),(17,[],[0,1],(fun _ v _=>v=(vi ((e % 4294967296) / (2:Int) ^ (d).toNat)))),(18,[],[],(fun _ v _=>v=(vi (e % 4294967296)))),(19,[],[],(fun _ v _=>v=(vi d))),(20,[],[4],(fun _ v _=>v=(vi (32 - d)))),(21,[],[3,4,5],(fun _ v _=>v=(vi ((e % 4294967296)*(2:Int) ^ ((32 - d)).toNat))))]:GV) (fun _ l=>Keep i l) [] DN rfl (by kernel_rfl) (by kernel_rfl) ?_ (fun _ _ h=>h) (fun _ _ _ _ h _ k=>h.trans k) trivial ?_ ?_ ?_
 ·exact ⟨hV,hE,⟨hV,hE,⟨hV,hE,⟨hV,hE,⟨hV,hE,⟨hV,hE,⟨hV,hE,trivial⟩⟩⟩⟩⟩⟩⟩
 ·exact trivial
 ·refine ⟨?_,⟨?_,⟨?_,⟨?_,⟨?_,⟨?_,⟨?_,trivial⟩⟩⟩⟩⟩⟩⟩
  ·intro _ f F _
   rintro _ _ _ _ _ _ _
   refine sw ?_
   refine mw (vi (e % 4294967296)) ?_
   exact f1
  ·intro _ f G _
   rintro _ _ _ _ _ _ _
   refine sw ?_
   refine mw (vi d) ?_
   exact f1
  ·intro _ f H _
   rintro _ rfl _ rfl _ _ _ _ _
   refine sw ?_
   refine Jg (e % 4294967296) d wN rfl rfl rfl rfl rfl (by omega) (by omega) ?_
   have I:=Kw (a:=(e % 4294967296)) (by omega) (d).toNat
   exact f1
  ·intro _ f J _
   rintro _ _ _ _ _ _ _
   refine sw ?_
   refine mw (vi (e % 4294967296)) ?_
   exact f1
  ·intro _ f K _
   rintro _ _ _ _ _ _ _
   refine sw ?_
   refine mw (vi d) ?_
   exact f1
  ·intro _ f L _
   rintro _ _ _ _ _ rfl _ _
   refine sw ?_
   refine ar (32 - d) wN ?_
   exact f1
  ·intro _ f M _
   rintro _ _ _ _ rfl _ rfl _ rfl _
   refine sw ?_
   refine Is (e % 4294967296) (32 - d) wN rfl rfl rfl rfl rfl (by omega) (by omega) (by omega) (by omega) ?_
   have N:=Nr (a:=(e % 4294967296)) (n:=((32 - d)).toNat) (by omega) (by omega) (by omega)
   exact f1
 ·intro _ f t
  have u:=(Ch.base i).extk t
  rintro _ rfl _ rfl _ rfl
  have O:=Kw (a:=(e % 4294967296)) (by omega) (d).toNat
  rintro _ rfl _ rfl _ rfl _ rfl
  have P:=Nr (a:=(e % 4294967296)) (n:=((32 - d)).toNat) (by omega) (by omega) (by omega)
  refine sw ?_
  refine Lg ((e % 4294967296) / (2:Int) ^ (d).toNat) ((e % 4294967296)*(2:Int) ^ ((32 - d)).toNat) wN rfl rfl (by kernel_rfl) (by omega) (by omega) (by omega) (by omega) ?_
  have Q:=Ro (a:=((e % 4294967296) / (2:Int) ^ (d).toNat)) (b:=((e % 4294967296)*(2:Int) ^ ((32 - d)).toNat)) (by omega) (by omega)
  refine FE (orI ((e % 4294967296) / (2:Int) ^ (d).toNat) ((e % 4294967296)*(2:Int) ^ ((32 - d)).toNat)) 4294967295 4294967296 32 wN rfl rfl (by decide) (by decide) (by decide) (by kernel_rfl) ?_
  refine aw (vi ((orI ((e % 4294967296) / (2:Int) ^ (d).toNat) ((e % 4294967296)*(2:Int) ^ ((32 - d)).toNat)) % 4294967296)) ?_
  refine n3 ?_
  refine rt (vi ((orI ((e % 4294967296) / (2:Int) ^ (d).toNat) ((e % 4294967296)*(2:Int) ^ ((32 - d)).toNat)) % 4294967296)) ?_
  refine ⟨u.keep0,?_⟩
  have w:rot e d=((orI ((e % 4294967296) / (2:Int) ^ (d).toNat) ((e % 4294967296)*(2:Int) ^ ((32 - d)).toNat)) % 4294967296):=by first|rfl|(exfalso;omega)
  rw [w]
  exact rfl

theorem MM (o:World) (ad:Value) (d:List UInt8) (a0:EP o ad d) :Fn Tryz.prog 171 #[ad] o (fun v s=>Keep o s∧Qm s o.heap.size v (schedP d)):=by
 obtain ⟨x,D,rfl,ae,a1⟩:=a0
 refine Cl (n:=84) [(vs x d.length D)] Tryz.func171 rfl rfl ?_
 refine sr ?_
 refine aw (vs none 0 0) ?_
 refine nx ?_
 refine CR wN rfl rfl Cd (fun w=>by kernel_rfl) ?_
 intro E J S af
 have T:=(Ch.base o).extk S
 refine aw (vs (some E) 0 0) ?_
 refine n4 ?_
 refine mw (vs x d.length D) ?_
 refine ln wN tD (ae.from0 T) ?_
 refine pu (vb (!(decide ((d.length:Int)=64)))) wN ?_
 refine n2 ?_
 rcases bf (decide ((d.length:Int)=64)) with F|F
 ·have aZ:=dF F
  refine ct (cA not F) ?_
  refine sr ?_
  refine mw (vs (some E) 0 0) ?_
  refine aw (vs (some E) 0 0) ?_
  refine n1 ?_
  refine rt (vs (some E) 0 0) ?_
  refine ⟨T.keep0,?_⟩
  have a2:schedP d=[]:=by first|exact Ie (by omega)|exact LN (by omega) (by omega) (by omega)
  rw [a2]
  exact ⟨_,_,rfl,af,(by simp),⟨trivial,trivial⟩⟩
 have ba:=dT F
 refine cf (cA not F) ?_
 refine y2 ?_
 refine aw (vi 0) ?_
 refine BU<|re<|Ca ?_
 have ah:([]:List Int)=DB d 0:=by rfl
 have ai:0=(DB d 0).length:=by rw [← ah];try (first|rfl|simp only [List.length_set]|simp)
 refine CJ [(0,(vs x d.length D)),(2,(vs none 0 0)),(3,(.slice (some E) (DB d 0).length 0)),(4,(vi ((0:Nat):Int)))] ⟨rfl,rfl,rfl,(cA (Value.int .i64) (show (0:Int)=((0:Nat):Int) by omega)),trivial⟩ (fun e' s=>∃ (k:Nat) (aj:Env) (i:Option Addr) (j:Nat),e'=pt aj [(0,(vs x d.length D)),(2,(vs none 0 0)),(3,(.slice i (DB d k).length j)),(4,(vi ((k:Nat):Int)))]∧Ch (fun k=>o.heap.size≤k) o s∧Ch (fun k=>o.heap.size≤k) J s∧k≤16∧(World.ownsRow s o.heap.size 3 1 (.slice i (DB d k).length j) (DB d k).length ((DB d k).map iV)∧(DB d k).length≤1073741824)) (fun e' _=>(16 - (intOf (e' 4))).toNat) ?_ ?_
 ·exact fun u=>⟨0,u,(some E),0,rfl,T,(Ch.refl (fun k=>o.heap.size≤k) J),(by omega),⟨(by rw [← ai,← ah];exact af),(by rw [← ai];first|exact (by simp)|(simp only [List.length_append,List.length_take,List.length_replicate];omega))⟩⟩
 ·rintro _ G ⟨k,aj,i,j,rfl,V,W,bb,⟨K,a3⟩⟩
  have hsl:=FW d k
  refine Cc<|sr ?_
  refine mw (vi ((k:Nat):Int)) ?_
  refine pu (vb (decide (((k:Nat):Int) < 16))) wN ?_
  refine n2 ?_
  rcases bt (decide (((k:Nat):Int) < 16)) with H|H
  ·have bc:=dT H
   refine ct H ?_
   refine Ct<|re<|Cc<|Ca<|sr ?_
   refine mw (vs x d.length D) ?_
   refine mw (vi ((k:Nat):Int)) ?_
   refine ar (4*((k:Nat):Int)) wN ?_
   refine cl wN (RC G _ d (CC (ae.from0 V) a1) (4*((k:Nat):Int)) 4) ?_
   rintro _ X ⟨L,rfl⟩
   refine mw (.tuple #[(vi ((DX d (4*((k:Nat):Int)) 4).1)),(vi ((DX d (4*((k:Nat):Int)) 4).2.1)),(vb ((DX d (4*((k:Nat):Int)) 4).2.2))]) ?_
   refine pu (vi ((DX d (4*((k:Nat):Int)) 4).1)) wN ?_
   refine pu (vi ((DX d (4*((k:Nat):Int)) 4).2.1)) wN ?_
   refine pu (vb ((DX d (4*((k:Nat):Int)) 4).2.2)) wN ?_
   refine aw (vi ((DX d (4*((k:Nat):Int)) 4).1)) ?_
   refine aw (vi ((DX d (4*((k:Nat):Int)) 4).2.1)) ?_
   refine aw (vb ((DX d (4*((k:Nat):Int)) 4).2.2)) ?_
   refine BU<|re<|BZ ?_
   refine mw (vs i (DB d k).length j) ?_
   refine mw (vi ((DX d (4*((k:Nat):Int)) 4).1)) ?_
   refine ltI ([(DX d (4*((k:Nat):Int)) 4).1]:List Int) wN Cd ?_
   intro bd be ak M a4
   have a5:=(gc (gc K L) M)
   refine apI (DB d k) ([(DX d (4*((k:Nat):Int)) 4).1]:List Int) wN Cd a5 (Rd.of_own a4) (z4 S W L M) ?_
   intro N O am an a6 bg a7
   have a8:=((V.extk L).extk M).ext an (fun k hk=>nT (Nat.le_refl o.heap.size) (Cm K k hk).1)
   refine aw (vs N ((DB d k)++([(DX d (4*((k:Nat):Int)) 4).1]:List Int)).length O) ?_
   refine BU<|BS<|re<|BZ ?_
   refine mw (vi ((k:Nat):Int)) ?_
   refine ar (((k:Nat):Int)+1) wN ?_
   refine aw (vi (((k:Nat):Int)+1)) ?_
   refine BU ?_
   have ao:(((DB d k)++([(DX d (4*((k:Nat):Int)) 4).1]:List Int)):List Int)=DB d (k+1):=by exact Li (by omega) (by omega)
   refine CI (w0:=G) [(0,(vs x d.length D)),(2,(vs none 0 0)),(3,(.slice N (DB d (k+1)).length O)),(4,(vi (((k+1):Nat):Int)))] ?_ ?_ ?_
   · exact ⟨rfl,rfl,(cA (fun l:List Int=>Value.slice N l.length O) ao),(cA (Value.int .i64) (show ((((k:Nat):Int)+1):Int)=(((k+1):Nat):Int) by omega)),trivial⟩
   · exact fun u=>⟨(k+1),u,N,O,rfl,a8,(((((Ch.refl (fun k=>o.heap.size≤k) J).ext W (fun k hk=>hk)).extk L).extk M).ext an (fun k hk=>nT (Nat.le_refl o.heap.size) (Cm K k hk).1)),(by omega),(ao ▸ ⟨a6,a7⟩)⟩
   · show (16 - (((k+1):Nat):Int)).toNat < (16 - ((k:Nat):Int)).toNat;omega
  have bh:=dF H
  refine cf H ?_
  refine CS<|wb ?_
  obtain rfl:k=16:=by omega
  refine wb<|Ce<|re<|Cc<|sr ?_
  refine aw (vi 16) ?_
  refine BU<|re<|Ca ?_
  have ap:((DB d 16):List Int)=schedN d 0:=by rfl
  refine CJ [(2,(vs none 0 0)),(3,(.slice i (schedN d 0).length j)),(8,(vi (16+((0:Nat):Int))))] ⟨rfl,(cA (fun l:List Int=>Value.slice i l.length j) ap),(cA (Value.int .i64) (show (16:Int)=(16+((0:Nat):Int)) by omega)),trivial⟩ (fun e' s=>∃ (m:Nat) (aq:Env) (i:Option Addr) (j:Nat),e'=pt aq [(2,(vs none 0 0)),(3,(.slice i (schedN d m).length j)),(8,(vi (16+((m:Nat):Int))))]∧Ch (fun k=>o.heap.size≤k) o s∧Ch (fun k=>o.heap.size≤k) G s∧m≤48∧(World.ownsRow s o.heap.size 3 1 (.slice i (schedN d m).length j) (schedN d m).length ((schedN d m).map iV)∧(schedN d m).length≤1073741824)) (fun e' _=>(64 - (intOf (e' 8))).toNat) ?_ ?_
  ·exact fun u=>⟨0,u,i,j,rfl,V,(Ch.refl (fun k=>o.heap.size≤k) G),(by omega),(ap ▸ ⟨K,a3⟩)⟩
  ·rintro _ X ⟨m,aq,i,j,rfl,au,av,bi,⟨t,a9⟩⟩
   have hsl:=FN d m
   obtain ⟨p,Y⟩:∃ z,(schedN d m).getD (((16+((m:Nat):Int)) - 7)).toNat 0=z:=⟨_,rfl⟩
   have bj:0≤p∧p < 4294967296:=Y ▸ Ha (Gr d m) (((16+((m:Nat):Int)) - 7)).toNat
   obtain ⟨q,Z⟩:∃ z,(schedN d m).getD (((16+((m:Nat):Int)) - 16)).toNat 0=z:=⟨_,rfl⟩
   have bk:0≤q∧q < 4294967296:=Z ▸ Ha (Gr d m) (((16+((m:Nat):Int)) - 16)).toNat
   obtain ⟨f,aa⟩:∃ z,(schedN d m).getD (((16+((m:Nat):Int)) - 15)).toNat 0=z:=⟨_,rfl⟩
   have bl:0≤f∧f < 4294967296:=aa ▸ Ha (Gr d m) (((16+((m:Nat):Int)) - 15)).toNat
   obtain ⟨g,ab⟩:∃ z,(schedN d m).getD (((16+((m:Nat):Int)) - 2)).toNat 0=z:=⟨_,rfl⟩
   have bm:0≤g∧g < 4294967296:=ab ▸ Ha (Gr d m) (((16+((m:Nat):Int)) - 2)).toNat
   refine Cc<|sr ?_
   refine mw (vi (16+((m:Nat):Int))) ?_
   refine pu (vb (decide ((16+((m:Nat):Int)) < 64))) wN ?_
   refine n2 ?_
   rcases bf (decide ((16+((m:Nat):Int)) < 64)) with I|I
   ·have bn:=dF I
    refine cf I ?_
    refine CS<|wb<|wb<|Ce<|re<|sr ?_
    refine mw (vs i (schedN d m).length j) ?_
    refine aw (vs i (schedN d m).length j) ?_
    refine n3 ?_
    refine rt (vs i (schedN d m).length j) ?_
    refine ⟨au.keep0,?_⟩
    have aA:schedP d=(schedN d m):=by first|exact Ie (by omega)|exact LN (by omega) (by omega) (by omega)
    rw [aA]
    exact ⟨_,_,rfl,t,a9,⟨trivial,trivial⟩⟩
   have bo:=dT I
   refine ct I ?_
   refine Ct<|re<|Cc<|Ca<|sr ?_
   refine mw (vs i (schedN d m).length j) ?_
   refine mw (vi (16+((m:Nat):Int))) ?_
   refine ar ((16+((m:Nat):Int)) - 15) wN ?_
   refine ix wN ((16+((m:Nat):Int)) - 15) Cd (Rd.of_own t) ?_
   refine Ex (iV f) wN rfl rfl rfl rfl tE (Rd.of_own t) (by rw [← aa];exact ME (by simp) (by first|omega|(simp <;> omega))) ?_
   refine aw (vi f) ?_
   refine nx ?_
   refine mw (vs i (schedN d m).length j) ?_
   refine mw (vi (16+((m:Nat):Int))) ?_
   refine ar ((16+((m:Nat):Int)) - 2) wN ?_
   refine ix wN ((16+((m:Nat):Int)) - 2) Cd (Rd.of_own t) ?_
   refine Ex (iV g) wN rfl rfl rfl rfl tE (Rd.of_own t) (by rw [← ab];exact ME (by simp) (by first|omega|(simp <;> omega))) ?_
   refine aw (vi g) ?_
   refine nx ?_
   refine mw (vi f) ?_
   refine cl wN (IZ X f 7 (by omega) (by omega)) ?_
   rintro _ ak ⟨y,rfl⟩
   have bp:=Dx f 7
   refine mw (vi f) ?_
   refine cl wN (IZ ak f 18 (by omega) (by omega)) ?_
   rintro _ am ⟨A,rfl⟩
   have aB:=(au.extk y).extk A
   have bq:=Dx f 18
   refine Ew (rot f 7) (rot f 18) wN rfl rfl (by kernel_rfl) (by omega) (by omega) (by omega) (by omega) ?_
   have br:=Dl (a:=(rot f 7)) (b:=(rot f 18)) (by omega) (by omega)
   refine mw (vi f) ?_
   refine JG f (3:Int) wN rfl rfl rfl rfl rfl (by omega) (by omega) ?_
   have bu:=Kw (a:=f) (by omega) ((3:Int)).toNat
   refine Ew (Ck (rot f 7) (rot f 18)) (f / (2:Int) ^ ((3:Int)).toNat) wN rfl rfl (by kernel_rfl) (by omega) (by omega) (by omega) (by omega) ?_
   have bv:=Dl (a:=(Ck (rot f 7) (rot f 18))) (b:=(f / (2:Int) ^ ((3:Int)).toNat)) (by omega) (by omega)
   refine aw (vi (Ck (Ck (rot f 7) (rot f 18)) (f / (2:Int) ^ ((3:Int)).toNat))) ?_
   refine nx ?_
   refine mw (vi g) ?_
   refine cl wN (IZ am g 17 (by omega) (by omega)) ?_
   rintro _ aC ⟨B,rfl⟩
   have bw:=Dx g 17
   refine mw (vi g) ?_
   refine cl wN (IZ aC g 19 (by omega) (by omega)) ?_
   rintro _ ax ⟨C,rfl⟩
   have aD:=(aB.extk B).extk C
   have bz:=Dx g 19
   refine Ew (rot g 17) (rot g 19) wN rfl rfl (by kernel_rfl) (by omega) (by omega) (by omega) (by omega) ?_
   have b0:=Dl (a:=(rot g 17)) (b:=(rot g 19)) (by omega) (by omega)
   refine mw (vi g) ?_
   refine JG g (10:Int) wN rfl rfl rfl rfl rfl (by omega) (by omega) ?_
   have b1:=Kw (a:=g) (by omega) ((10:Int)).toNat
   refine Ew (Ck (rot g 17) (rot g 19)) (g / (2:Int) ^ ((10:Int)).toNat) wN rfl rfl (by kernel_rfl) (by omega) (by omega) (by omega) (by omega) ?_
   have b2:=Dl (a:=(Ck (rot g 17) (rot g 19))) (b:=(g / (2:Int) ^ ((10:Int)).toNat)) (by omega) (by omega)
   refine aw (vi (Ck (Ck (rot g 17) (rot g 19)) (g / (2:Int) ^ ((10:Int)).toNat))) ?_
   refine n2 ?_
   refine CU ([(64,[],[],(fun _ v _=>v=(vs i (schedN d m).length j))),(65,[],[],(fun _ v _=>v=(vs i (schedN d m).length j))),(66,[],[],(fun _ v _=>v=(vi (16+((m:Nat):Int))))),(67,[],[2],(fun _ v _=>v=(vi ((16+((m:Nat):Int)) - 7)))),(68,[],[1,2,3],(fun _ v _=>v=(ve (vs i (schedN d m).length j) ((((16+((m:Nat):Int)) - 7)).toNat*1)))),(69,[],[1,2,3,4],(fun _ v _=>v=(vi p))),(70,[],[],(fun _ v _=>v=(vs i (schedN d m).length j))),(71,[],[],(fun _ v _=>v=(vi (16+((m:Nat):Int))))),(72,[],[7],(fun _ v _=>v=(vi ((16+((m:Nat):Int)) - 16)))),(73,[],[6,7,8],(fun _ v _=>v=(ve (vs i (schedN d m).length j) ((((16+((m:Nat):Int)) - 16)).toNat*1)))),(74,[],[6,7,8,9],(fun _ v _=>v=(vi q))),(75,[],[1,2,3,4,5,6,7,8,9,10],(fun _ v _=>v=(vi (p+q)))),(76,[],[],(fun _ v _=>v=(vi (Ck (Ck (rot f 7) (rot f 18)) (f / (2:Int) ^ ((3:Int)).toNat))))),(77,[],[1,2,3,4,5,6,7,8,9,10,11,12],(fun _ v _=>v=(vi ((p+q)+(Ck (Ck (rot f 7) (rot f 18)) (f / (2:Int) ^ ((3:Int)).toNat)))))),(78,[],[],(fun _ v _=>v=(vi (Ck (Ck (rot g 17) (rot g 19)) (g / (2:Int) ^ ((10:Int)).toNat))))),(79,[],[1,2,3,4,5,6,7,8,9,10,11,12,13,14],(fun _ v _=>v=(vi (((p+q)+(Ck (Ck (rot f 7) (rot f 18)) (f / (2:Int) ^ ((3:Int)).toNat)))+(Ck (Ck (rot g 17) (rot g 19)) (g / (2:Int) ^ ((10:Int)).toNat)))))),(80,[],[1,2,3,4,5,6,7,8,9,10,11,12,13,14,15],(fun _ v _=>v=(vi ((((p+q)+(Ck (Ck (rot f 7) (rot f 18)) (f / (2:Int) ^ ((3:Int)).toNat)))+(Ck (Ck (rot g 17) (rot g 19)) (g / (2:Int) ^ ((10:Int)).toNat))) % 4294967296)))),(81,[],[1,2,3,4,5,6,7,8,9,10,11,12,13,14,15,16],(fun _ v w=>∃ (x:Option Addr) (ac:Nat),v=.slice x ([((((p+q)+(Ck (Ck (rot f 7) (rot f 18)) (f / (2:Int) ^ ((3:Int)).toNat)))+(Ck (Ck (rot g 17) (rot g 19)) (g / (2:Int) ^ ((10:Int)).toNat))) % 4294967296)]:List Int).length ac∧w.ownsRow ax.heap.size 3 1 (.slice x ([((((p+q)+(Ck (Ck (rot f 7) (rot f 18)) (f / (2:Int) ^ ((3:Int)).toNat)))+(Ck (Ck (rot g 17) (rot g 19)) (g / (2:Int) ^ ((10:Int)).toNat))) % 4294967296)]:List Int).length ac) ([((((p+q)+(Ck (Ck (rot f 7) (rot f 18)) (f / (2:Int) ^ ((3:Int)).toNat)))+(Ck (Ck (rot g 17) (rot g 19)) (g / (2:Int) ^ ((10:Int)).toNat))) % 4294967296)]:List Int).length (([((((p+q)+(Ck (Ck (rot f 7) (rot f 18)) (f / (2:Int) ^ ((3:Int)).toNat)))+(Ck (Ck (rot g 17) (rot g 19)) (g / (2:Int) ^ ((10:Int)).toNat))) % 4294967296)]:List Int).map iV)∧([((((p+q)+(Ck (Ck (rot f 7) (rot f 18)) (f / (2:Int) ^ ((3:Int)).toNat)))+(Ck (Ck (rot g 17) (rot g 19)) (g / (2:Int) ^ ((10:Int)).toNat))) % 4294967296)]:List Int).length≤1073741824∧Aps [(x,ac)]))]:GV) (fun _ s=>Keep ax s) [] DN rfl (by kernel_rfl) (by kernel_rfl) ?_ (fun _ _ h=>h) (fun _ _ _ _ h _ k=>h.trans k) trivial ?_ ?_ ?_
   ·exact ⟨hV,hE,⟨hV,hE,⟨hV,hE,⟨hV,hE,⟨hV,hE,⟨hV,hE,⟨hV,hE,⟨hV,hE,⟨hV,hE,⟨hV,hE,⟨hV,hE,⟨hV,hE,⟨hV,hE,⟨hV,hE,⟨hV,hE,⟨hV,hE,⟨hV,hE,⟨(fun e v w J h hk=>by obtain ⟨aE,aF,he,aG,aH,hap⟩:=h;exact ⟨aE,aF,he,gc aG hk,aH,hap⟩),hE,trivial⟩⟩⟩⟩⟩⟩⟩⟩⟩⟩⟩⟩⟩⟩⟩⟩⟩⟩
   ·exact trivial
   ·refine ⟨?_,⟨?_,⟨?_,⟨?_,⟨?_,⟨?_,⟨?_,⟨?_,⟨?_,⟨?_,⟨?_,⟨?_,⟨?_,⟨?_,⟨?_,⟨?_,⟨?_,⟨?_,trivial⟩⟩⟩⟩⟩⟩⟩⟩⟩⟩⟩⟩⟩⟩⟩⟩⟩⟩
    ·intro _ r b3 _
     rintro _ _ _ _ _ _ _ _ _ _ _ _ _ _ _ _ _ _
     refine sw ?_
     refine mw (vs i (schedN d m).length j) ?_
     exact f1
    ·intro _ r b4 _
     rintro _ _ _ _ _ _ _ _ _ _ _ _ _ _ _ _ _ _
     refine sw ?_
     refine mw (vs i (schedN d m).length j) ?_
     exact f1
    ·intro _ r b5 _
     rintro _ _ _ _ _ _ _ _ _ _ _ _ _ _ _ _ _ _
     refine sw ?_
     refine mw (vi (16+((m:Nat):Int))) ?_
     exact f1
    ·intro _ r b6 _
     rintro _ _ _ rfl _ _ _ _ _ _ _ _ _ _ _ _ _ _ _
     refine sw ?_
     refine ar ((16+((m:Nat):Int)) - 7) wN ?_
     exact f1
    ·intro _ r aI _
     rintro _ _ rfl _ rfl _ rfl _ _ _ _ _ _ _ _ _ _ _ _ _ _
     refine sw ?_
     have aJ:=(gc (gc (gc (gc (gc t y) A) B) C) aI)
     refine ix wN ((16+((m:Nat):Int)) - 7) Cd (Rd.of_own aJ) ?_
     exact f1
    ·intro _ r aK _
     rintro _ _ rfl _ rfl _ rfl _ rfl _ _ _ _ _ _ _ _ _ _ _ _ _
     refine sw ?_
     have aL:=(gc (gc (gc (gc (gc t y) A) B) C) aK)
     refine Ex (iV p) wN rfl rfl rfl rfl tE (Rd.of_own aL) (by rw [← Y];exact ME (by simp) (by first|omega|(simp <;> omega))) ?_
     exact f1
    ·intro _ r b7 _
     rintro _ _ _ _ _ _ _ _ _ _ _ _ _ _ _ _ _ _
     refine sw ?_
     refine mw (vs i (schedN d m).length j) ?_
     exact f1
    ·intro _ r b8 _
     rintro _ _ _ _ _ _ _ _ _ _ _ _ _ _ _ _ _ _
     refine sw ?_
     refine mw (vi (16+((m:Nat):Int))) ?_
     exact f1
    ·intro _ r b9 _
     rintro _ _ _ _ _ _ _ _ rfl _ _ _ _ _ _ _ _ _ _
     refine sw ?_
     refine ar ((16+((m:Nat):Int)) - 16) wN ?_
     exact f1
    ·intro _ r aM _
     rintro _ _ _ _ _ _ _ rfl _ rfl _ rfl _ _ _ _ _ _ _ _ _
     refine sw ?_
     have aN:=(gc (gc (gc (gc (gc t y) A) B) C) aM)
     refine ix wN ((16+((m:Nat):Int)) - 16) Cd (Rd.of_own aN) ?_
     exact f1
    ·intro _ r aO _
     rintro _ _ _ _ _ _ _ rfl _ rfl _ rfl _ rfl _ _ _ _ _ _ _ _
     refine sw ?_
     have aP:=(gc (gc (gc (gc (gc t y) A) B) C) aO)
     refine Ex (iV q) wN rfl rfl rfl rfl tE (Rd.of_own aP) (by rw [← Z];exact ME (by simp) (by first|omega|(simp <;> omega))) ?_
     exact f1
    ·intro _ r bA _
     rintro _ _ rfl _ rfl _ rfl _ rfl _ rfl _ rfl _ rfl _ rfl _ rfl _ rfl _ _ _ _ _ _ _
     refine sw ?_
     refine ar (p+q) wN ?_
     exact f1
    ·intro _ r bB _
     rintro _ _ _ _ _ _ _ _ _ _ _ _ _ _ _ _ _ _
     refine sw ?_
     refine mw (vi (Ck (Ck (rot f 7) (rot f 18)) (f / (2:Int) ^ ((3:Int)).toNat))) ?_
     exact f1
    ·intro _ r bC _
     rintro _ _ rfl _ rfl _ rfl _ rfl _ rfl _ rfl _ rfl _ rfl _ rfl _ rfl _ rfl _ rfl _ _ _ _ _
     refine sw ?_
     refine ar ((p+q)+(Ck (Ck (rot f 7) (rot f 18)) (f / (2:Int) ^ ((3:Int)).toNat))) wN ?_
     exact f1
    ·intro _ r bD _
     rintro _ _ _ _ _ _ _ _ _ _ _ _ _ _ _ _ _ _
     refine sw ?_
     refine mw (vi (Ck (Ck (rot g 17) (rot g 19)) (g / (2:Int) ^ ((10:Int)).toNat))) ?_
     exact f1
    ·intro _ r bE _
     rintro _ _ rfl _ rfl _ rfl _ rfl _ rfl _ rfl _ rfl _ rfl _ rfl _ rfl _ rfl _ rfl _ rfl _ rfl _ _ _
     refine sw ?_
     refine ar (((p+q)+(Ck (Ck (rot f 7) (rot f 18)) (f / (2:Int) ^ ((3:Int)).toNat)))+(Ck (Ck (rot g 17) (rot g 19)) (g / (2:Int) ^ ((10:Int)).toNat))) wN ?_
     exact f1
    ·intro _ r bF _
     rintro _ _ rfl _ rfl _ rfl _ rfl _ rfl _ rfl _ rfl _ rfl _ rfl _ rfl _ rfl _ rfl _ rfl _ rfl _ rfl _ _
     refine sw ?_
     refine FE (((p+q)+(Ck (Ck (rot f 7) (rot f 18)) (f / (2:Int) ^ ((3:Int)).toNat)))+(Ck (Ck (rot g 17) (rot g 19)) (g / (2:Int) ^ ((10:Int)).toNat))) 4294967295 4294967296 32 wN rfl rfl (by decide) (by decide) (by decide) (by kernel_rfl) ?_
     exact f1
    ·intro _ r aQ _
     rintro _ _ rfl _ rfl _ rfl _ rfl _ rfl _ rfl _ rfl _ rfl _ rfl _ rfl _ rfl _ rfl _ rfl _ rfl _ rfl _ rfl _
     refine sw ?_
     refine ltI ([((((p+q)+(Ck (Ck (rot f 7) (rot f 18)) (f / (2:Int) ^ ((3:Int)).toNat)))+(Ck (Ck (rot g 17) (rot g 19)) (g / (2:Int) ^ ((10:Int)).toNat))) % 4294967296)]:List Int) wN Cd ?_
     intro bG bH aR aS aT
     exact CN aS ⟨_,_,rfl,(tB aT aQ.size),(by simp),⟨trivial,trivial⟩⟩
   ·intro _ r P
    rintro _ rfl _ rfl _ rfl _ rfl _ rfl _ rfl _ rfl _ rfl _ rfl _ rfl _ rfl _ rfl _ rfl _ rfl _ rfl _ rfl _ rfl _ ⟨bI,bJ,rfl,aU,bK,-⟩
    refine sw ?_
    have aV:=(gc (gc (gc (gc (gc t y) A) B) C) P)
    refine apI (schedN d m) ([((((p+q)+(Ck (Ck (rot f 7) (rot f 18)) (f / (2:Int) ^ ((3:Int)).toNat)))+(Ck (Ck (rot g 17) (rot g 19)) (g / (2:Int) ^ ((10:Int)).toNat))) % 4294967296)]:List Int) wN Cd aV (Rd.of_own aU) (z8 S W av y A B C P) ?_
    intro Q R aR ay aW bL aX
    have aY:=(aD.extk P).ext ay (fun k hk=>nT (Nat.le_refl o.heap.size) (Cm t k hk).1)
    refine aw (vs Q ((schedN d m)++([((((p+q)+(Ck (Ck (rot f 7) (rot f 18)) (f / (2:Int) ^ ((3:Int)).toNat)))+(Ck (Ck (rot g 17) (rot g 19)) (g / (2:Int) ^ ((10:Int)).toNat))) % 4294967296)]:List Int)).length R) ?_
    refine BU<|BS<|re<|BZ ?_
    refine mw (vi (16+((m:Nat):Int))) ?_
    refine ar ((16+((m:Nat):Int))+1) wN ?_
    refine aw (vi ((16+((m:Nat):Int))+1)) ?_
    refine BU ?_
    have az:(((schedN d m)++([((((p+q)+(Ck (Ck (rot f 7) (rot f 18)) (f / (2:Int) ^ ((3:Int)).toNat)))+(Ck (Ck (rot g 17) (rot g 19)) (g / (2:Int) ^ ((10:Int)).toNat))) % 4294967296)]:List Int)):List Int)=schedN d (m+1):=by subst Y Z aa ab;exact MD
    refine CI (w0:=X) [(2,(vs none 0 0)),(3,(.slice Q (schedN d (m+1)).length R)),(8,(vi (16+(((m+1):Nat):Int))))] ?_ ?_ ?_
    · exact ⟨rfl,(cA (fun l:List Int=>Value.slice Q l.length R) az),(cA (Value.int .i64) (show (((16+((m:Nat):Int))+1):Int)=(16+(((m+1):Nat):Int)) by omega)),trivial⟩
    · exact fun u=>⟨(m+1),u,Q,R,rfl,aY,((((((((Ch.refl (fun k=>o.heap.size≤k) G).ext av (fun k hk=>hk)).extk y).extk A).extk B).extk C).extk P).ext ay (fun k hk=>nT (Nat.le_refl o.heap.size) (Cm t k hk).1)),(by omega),(az ▸ ⟨aW,aX⟩)⟩
    · show (64 - (16+(((m+1):Nat):Int))).toNat < (64 - (16+((m:Nat):Int))).toNat;omega
end Go.Proofs.YtacoceibbheccaaGreat.K
