import Derived.Test.YtacoceibbheccaaGreatCore
import Derived.Test.YtacoceibbheccaaGreatProg
import Derived.Test.YtacoceibbheccaaGreatHeld
import Derived.Test.YtacoceibbheccaaGreatFun
import Derived.Test.YtacoceibbheccaaGreatFunZ
import Derived.Test.YtacoceibbheccaaGreatSqz
import Derived.Test.YtacoceibbheccaaGreatHash
import Derived.Test.YtacoceibbheccaaGreatCur
import Derived.Test.YtacoceibbheccaaGreatDrawW
import Derived.Test.YtacoceibbheccaaGreatAead
import Derived.Test.YtacoceibbheccaaGreatWja1
namespace Go.Proofs.YtacoceibbheccaaGreat.K
open Go.RowKit
set_option linter.unusedVariables false
set_option linter.unusedSimpArgs false
set_option maxRecDepth 100000
set_option maxHeartbeats 4000000
theorem Hv:∀ w,(isAgg 29).run Tryz.prog w=.ok true w:=fun w=>by kernel_rfl
theorem GI:∀ w,(sizeOf 29).run Tryz.prog w=.ok 15 w:=fun w=>by kernel_rfl
abbrev SO (x:PChan) (a:Option Addr) (b:Nat) (d:Option Addr) (e:Nat) (f:Option Addr) (g:Nat) (h:Option Addr) (i:Nat) (j:Option Addr) (k:Nat) (l:Option Addr) (m:Nat):List Value:=[vi x.Role,vs a x.Sn.length b,vi x.Cur.N,vs d x.Cur.Key.length e,vi x.Cur.Seq,vi x.Cur.Win.Top,vs f x.Cur.Win.Bits.length g,vi x.Old.N,vs h x.Old.Key.length i,vi x.Old.Seq,vi x.Old.Win.Top,vs j x.Old.Win.Bits.length k,vb x.HasOld,vi x.Until,vs l x.Next.length m]
theorem Hu:∀ w,(isAgg 31).run Tryz.prog w=.ok true w:=fun w=>by kernel_rfl
theorem GH:∀ w,(sizeOf 31).run Tryz.prog w=.ok 11 w:=fun w=>by kernel_rfl
abbrev SN (x:PFrame) (a:Option Addr) (b:Nat) (d:Option Addr) (e:Nat) (f:Option Addr) (g:Nat) (h:Option Addr) (i:Nat) (j:Option Addr) (k:Nat) (l:Option Addr) (m:Nat):List Value:=[vi x.Kind,vi x.Id,vs a x.Cn.length b,vs d x.Sn.length e,vi x.Tick,vs f x.Cookie.length g,vs h x.Proof.length i,vi x.Epoch,vi x.Seq,vs j x.Body.length k,vs l x.Tag.length m]
theorem JB {w:World} {v:Value} {lo:Nat} (h:∃ (g:Nat) (a b d e f i j k l m o p q r s:Value),v=vp g 0∧lo≤g∧Blk w g 38 [a,b,d,e,f,i,j,k,l,m,o,p,q,r,s]):∃ (g:Nat) (u:Nat→Value),v=vp g 0∧lo≤g∧Blk w g 38 [u 0,u 1,u 2,u 3,u 4,u 5,u 6,u 7,u 8,u 9,u 10,u 11,u 12,u 13,u 14]:=by
  obtain ⟨g,a,b,d,e,f,i,j,k,l,m,o,p,q,r,s,t,x,y⟩:=h
  exact ⟨g,unL [a,b,d,e,f,i,j,k,l,m,o,p,q,r,s],t,x,y⟩
def DZ (x:PFrame) (k:Int):PFrame:={Kind:=x.Kind,Id:=x.Id,Cn:=marksB k x.Cn.length,Sn:=marksB (k+(x.Cn.length:Int)) x.Sn.length,Tick:=x.Tick,Cookie:=marksB ((k+(x.Cn.length:Int))+(x.Sn.length:Int)) x.Cookie.length,Proof:=marksB (((k+(x.Cn.length:Int))+(x.Sn.length:Int))+(x.Cookie.length:Int)) x.Proof.length,Epoch:=x.Epoch,Seq:=x.Seq,Body:=marksB ((((k+(x.Cn.length:Int))+(x.Sn.length:Int))+(x.Cookie.length:Int))+(x.Proof.length:Int)) x.Body.length,Tag:=marksB (((((k+(x.Cn.length:Int))+(x.Sn.length:Int))+(x.Cookie.length:Int))+(x.Proof.length:Int))+(x.Body.length:Int)) x.Tag.length:PFrame}
theorem Sh {w:World} {x:PChan} {a:Option Addr} {b:Nat} {d:Option Addr} {e:Nat} {f:Option Addr} {g:Nat} {h:Option Addr} {i:Nat} {j:Option Addr} {k:Nat} {l:Option Addr} {m:Nat} (o:Rd w 1 (.slice a x.Sn.length b) x.Sn.length (x.Sn.map bV)) (p:x.Sn.length≤9223372036854775807) (q:Rd w 1 (.slice d x.Cur.Key.length e) x.Cur.Key.length (x.Cur.Key.map bV)) (r:x.Cur.Key.length≤9223372036854775807) (s:Rd w 1 (.slice f x.Cur.Win.Bits.length g) x.Cur.Win.Bits.length (x.Cur.Win.Bits.map iV)) (t:x.Cur.Win.Bits.length≤9223372036854775807) (u:Rd w 1 (.slice h x.Old.Key.length i) x.Old.Key.length (x.Old.Key.map bV)) (v:x.Old.Key.length≤9223372036854775807) (y:Rd w 1 (.slice j x.Old.Win.Bits.length k) x.Old.Win.Bits.length (x.Old.Win.Bits.map iV)) (A:x.Old.Win.Bits.length≤9223372036854775807) (B:Rd w 1 (.slice l x.Next.length m) x.Next.length (x.Next.map bV)) (C:x.Next.length≤9223372036854775807):Sy w (va (SO x a b d e f g h i j k l m)) x:=⟨_,_,_,_,_,_,_,_,_,_,_,_,rfl,o,p,q,r,s,t,u,v,y,A,B,C⟩
theorem Sg {w:World} {x:PFrame} {a:Option Addr} {b:Nat} {d:Option Addr} {e:Nat} {f:Option Addr} {g:Nat} {h:Option Addr} {i:Nat} {j:Option Addr} {k:Nat} {l:Option Addr} {m:Nat} (o:Rd w 1 (.slice a x.Cn.length b) x.Cn.length (x.Cn.map bV)) (p:x.Cn.length≤9223372036854775807) (q:Rd w 1 (.slice d x.Sn.length e) x.Sn.length (x.Sn.map bV)) (r:x.Sn.length≤9223372036854775807) (s:Rd w 1 (.slice f x.Cookie.length g) x.Cookie.length (x.Cookie.map bV)) (t:x.Cookie.length≤9223372036854775807) (u:Rd w 1 (.slice h x.Proof.length i) x.Proof.length (x.Proof.map bV)) (v:x.Proof.length≤9223372036854775807) (y:Rd w 1 (.slice j x.Body.length k) x.Body.length (x.Body.map bV)) (A:x.Body.length≤9223372036854775807) (B:Rd w 1 (.slice l x.Tag.length m) x.Tag.length (x.Tag.map bV)) (C:x.Tag.length≤9223372036854775807):Sx w (va (SN x a b d e f g h i j k l m)) x:=⟨_,_,_,_,_,_,_,_,_,_,_,_,rfl,o,p,q,r,s,t,u,v,y,A,B,C⟩
theorem OY {w:World} {x:PChan} {a:Option Addr} {b:Nat} {d:Option Addr} {e:Nat} {f:Option Addr} {g:Nat} {h:Option Addr} {i:Nat} {j:Option Addr} {k:Nat} {l:Option Addr} {m:Nat} (o:Rd w 1 (.slice a x.Sn.length b) x.Sn.length (x.Sn.map bV)) (p:x.Sn.length≤1073741824) (q:Rd w 1 (.slice d x.Cur.Key.length e) x.Cur.Key.length (x.Cur.Key.map bV)) (r:x.Cur.Key.length≤1073741824) (s:Rd w 1 (.slice f x.Cur.Win.Bits.length g) x.Cur.Win.Bits.length (x.Cur.Win.Bits.map iV)) (t:x.Cur.Win.Bits.length≤1073741824) (u:Rd w 1 (.slice h x.Old.Key.length i) x.Old.Key.length (x.Old.Key.map bV)) (v:x.Old.Key.length≤1073741824) (y:Rd w 1 (.slice j x.Old.Win.Bits.length k) x.Old.Win.Bits.length (x.Old.Win.Bits.map iV)) (A:x.Old.Win.Bits.length≤1073741824) (B:Rd w 1 (.slice l x.Next.length m) x.Next.length (x.Next.map bV)) (C:x.Next.length≤1073741824):SF w (va (SO x a b d e f g h i j k l m)) x:=⟨_,_,_,_,_,_,_,_,_,_,_,_,rfl,o,p,q,r,s,t,u,v,y,A,B,C⟩
theorem OX {w:World} {x:PFrame} {a:Option Addr} {b:Nat} {d:Option Addr} {e:Nat} {f:Option Addr} {g:Nat} {h:Option Addr} {i:Nat} {j:Option Addr} {k:Nat} {l:Option Addr} {m:Nat} (o:Rd w 1 (.slice a x.Cn.length b) x.Cn.length (x.Cn.map bV)) (p:x.Cn.length≤1073741824) (q:Rd w 1 (.slice d x.Sn.length e) x.Sn.length (x.Sn.map bV)) (r:x.Sn.length≤1073741824) (s:Rd w 1 (.slice f x.Cookie.length g) x.Cookie.length (x.Cookie.map bV)) (t:x.Cookie.length≤1073741824) (u:Rd w 1 (.slice h x.Proof.length i) x.Proof.length (x.Proof.map bV)) (v:x.Proof.length≤1073741824) (y:Rd w 1 (.slice j x.Body.length k) x.Body.length (x.Body.map bV)) (A:x.Body.length≤1073741824) (B:Rd w 1 (.slice l x.Tag.length m) x.Tag.length (x.Tag.map bV)) (C:x.Tag.length≤1073741824):SE w (va (SN x a b d e f g h i j k l m)) x:=⟨_,_,_,_,_,_,_,_,_,_,_,_,rfl,o,p,q,r,s,t,u,v,y,A,B,C⟩
def RS (w:World) (lo:Nat) (v:Value) (x:(PFrame)) (k:Option Addr×Nat→Option Addr×Nat→Option Addr×Nat→Option Addr×Nat→Option Addr×Nat→Option Addr×Nat→Prop):Prop:=∃ (a:Option Addr) (b:Nat) (d:Option Addr) (e:Nat) (f:Option Addr) (g:Nat) (h:Option Addr) (i:Nat) (j:Option Addr) (l:Nat) (m:Option Addr) (o:Nat),v=.agg #[.int .i64 x.Kind,.int .i64 x.Id,.slice a x.Cn.length b,.slice d x.Sn.length e,.int .i64 x.Tick,.slice f x.Cookie.length g,.slice h x.Proof.length i,.int .i64 x.Epoch,.int .i64 x.Seq,.slice j x.Body.length l,.slice m x.Tag.length o]∧w.ownsRow lo 5 1 (.slice a x.Cn.length b) x.Cn.length (x.Cn.map bV)∧x.Cn.length≤1073741824∧w.ownsRow lo 5 1 (.slice d x.Sn.length e) x.Sn.length (x.Sn.map bV)∧x.Sn.length≤1073741824∧w.ownsRow lo 5 1 (.slice f x.Cookie.length g) x.Cookie.length (x.Cookie.map bV)∧x.Cookie.length≤1073741824∧w.ownsRow lo 5 1 (.slice h x.Proof.length i) x.Proof.length (x.Proof.map bV)∧x.Proof.length≤1073741824∧w.ownsRow lo 5 1 (.slice j x.Body.length l) x.Body.length (x.Body.map bV)∧x.Body.length≤1073741824∧w.ownsRow lo 5 1 (.slice m x.Tag.length o) x.Tag.length (x.Tag.map bV)∧x.Tag.length≤1073741824∧Aps [(a,b),(d,e),(f,g),(h,i),(j,l),(m,o)]∧k (a,b) (d,e) (f,g) (h,i) (j,l) (m,o)
def JD (w:World) (lo:Nat) (v:Value) (x:(PChan)×(List UInt8)×(Int)) (k:Option Addr×Nat→Option Addr×Nat→Option Addr×Nat→Option Addr×Nat→Option Addr×Nat→Option Addr×Nat→Option Addr×Nat→Prop):Prop:=∃ (a:Option Addr) (b:Nat) (d:Option Addr) (e:Nat) (f:Option Addr) (g:Nat) (h:Option Addr) (i:Nat) (j:Option Addr) (l:Nat) (m:Option Addr) (o:Nat) (p:Option Addr) (q:Nat),v=.tuple #[.agg #[.int .i64 x.1.Role,.slice a x.1.Sn.length b,.int .i64 x.1.Cur.N,.slice d x.1.Cur.Key.length e,.int .i64 x.1.Cur.Seq,.int .i64 x.1.Cur.Win.Top,.slice f x.1.Cur.Win.Bits.length g,.int .i64 x.1.Old.N,.slice h x.1.Old.Key.length i,.int .i64 x.1.Old.Seq,.int .i64 x.1.Old.Win.Top,.slice j x.1.Old.Win.Bits.length l,.bool x.1.HasOld,.int .i64 x.1.Until,.slice m x.1.Next.length o],.slice p x.2.1.length q,.int .i64 x.2.2]∧w.ownsRow lo 5 1 (.slice a x.1.Sn.length b) x.1.Sn.length (x.1.Sn.map bV)∧x.1.Sn.length≤1073741824∧w.ownsRow lo 5 1 (.slice d x.1.Cur.Key.length e) x.1.Cur.Key.length (x.1.Cur.Key.map bV)∧x.1.Cur.Key.length≤1073741824∧w.ownsRow lo 3 1 (.slice f x.1.Cur.Win.Bits.length g) x.1.Cur.Win.Bits.length (x.1.Cur.Win.Bits.map iV)∧x.1.Cur.Win.Bits.length≤1073741824∧w.ownsRow lo 5 1 (.slice h x.1.Old.Key.length i) x.1.Old.Key.length (x.1.Old.Key.map bV)∧x.1.Old.Key.length≤1073741824∧w.ownsRow lo 3 1 (.slice j x.1.Old.Win.Bits.length l) x.1.Old.Win.Bits.length (x.1.Old.Win.Bits.map iV)∧x.1.Old.Win.Bits.length≤1073741824∧w.ownsRow lo 5 1 (.slice m x.1.Next.length o) x.1.Next.length (x.1.Next.map bV)∧x.1.Next.length≤1073741824∧w.ownsRow lo 5 1 (.slice p x.2.1.length q) x.2.1.length (x.2.1.map bV)∧x.2.1.length≤1073741824∧Aps [(a,b),(d,e),(f,g),(h,i),(j,l),(m,o),(p,q)]∧k (a,b) (d,e) (f,g) (h,i) (j,l) (m,o) (p,q)
theorem mkR_42 {w:World} {x:PFrame} {k:Int} {a:Option Addr} {b:Nat} {d:Option Addr} {e:Nat} {f:Option Addr} {g:Nat} {h:Option Addr} {i:Nat} {j:Option Addr} {l:Nat} {m:Option Addr} {o:Nat} (p:Rd w 1 (.slice a x.Cn.length b) x.Cn.length ((marksB k x.Cn.length).map bV)) (q:x.Cn.length≤1073741824) (r:Rd w 1 (.slice d x.Sn.length e) x.Sn.length ((marksB (k+(x.Cn.length:Int)) x.Sn.length).map bV)) (s:x.Sn.length≤1073741824) (t:Rd w 1 (.slice f x.Cookie.length g) x.Cookie.length ((marksB ((k+(x.Cn.length:Int))+(x.Sn.length:Int)) x.Cookie.length).map bV)) (u:x.Cookie.length≤1073741824) (v:Rd w 1 (.slice h x.Proof.length i) x.Proof.length ((marksB (((k+(x.Cn.length:Int))+(x.Sn.length:Int))+(x.Cookie.length:Int)) x.Proof.length).map bV)) (y:x.Proof.length≤1073741824) (A:Rd w 1 (.slice j x.Body.length l) x.Body.length ((marksB ((((k+(x.Cn.length:Int))+(x.Sn.length:Int))+(x.Cookie.length:Int))+(x.Proof.length:Int)) x.Body.length).map bV)) (B:x.Body.length≤1073741824) (C:Rd w 1 (.slice m x.Tag.length o) x.Tag.length ((marksB (((((k+(x.Cn.length:Int))+(x.Sn.length:Int))+(x.Cookie.length:Int))+(x.Proof.length:Int))+(x.Body.length:Int)) x.Tag.length).map bV)) (D:x.Tag.length≤1073741824):JC w (va (EB x a b d e f g h i j l m o)) (DZ x k):=⟨_,_,_,_,_,_,_,_,_,_,_,_,by simp only [DZ,Cq,Cu];try rfl,by simpa only [DZ,Cq,Cu] using p,by simpa only [DZ,Cq,Cu] using q,by simpa only [DZ,Cq,Cu] using r,by simpa only [DZ,Cq,Cu] using s,by simpa only [DZ,Cq,Cu] using t,by simpa only [DZ,Cq,Cu] using u,by simpa only [DZ,Cq,Cu] using v,by simpa only [DZ,Cq,Cu] using y,by simpa only [DZ,Cq,Cu] using A,by simpa only [DZ,Cq,Cu] using B,by simpa only [DZ,Cq,Cu] using C,by simpa only [DZ,Cq,Cu] using D⟩
theorem OW {x:PFrame} (a:x.Cn.length≤1073741824) (b:x.Sn.length≤1073741824) (d:x.Cookie.length≤1073741824) (e:x.Proof.length≤1073741824) (f:x.Body.length≤1073741824) (g:x.Tag.length≤1073741824):0≤DL x∧DL x≤6442450944:=by
  simp only [DL]
  omega
def BV (a:PChan) (d:Int) (b:PFrame):(Bool):=bif (decide ((l_szChan a 1048576) < 0)) then (true) else (bif (decide (((l_szFrame b (l_szChan a 1048576))) < 0)) then (true) else (bif (l_eqChan (((i_ChanOpen (l_toChan a) d (l_toFrame b))).1) ((s_ChanOpen (l_toChan a) d (l_toFrame b)).1)) then (bif (eqB (((i_ChanOpen (l_toChan a) d (l_toFrame b))).2.1) ((s_ChanOpen (l_toChan a) d (l_toFrame b)).2.1)) then (bif (decide (((i_ChanOpen (l_toChan a) d (l_toFrame b))).2.2=(s_ChanOpen (l_toChan a) d (l_toFrame b)).2.2)) then (bif (l_eqChan (l_toChan a) (l_toChan a)) then (bif (l_eqFrame (l_toFrame b) (l_toFrame b)) then (bif (decide (((1+tot_PChan (l_toChan a))+DL (l_toFrame b)) < 0)) then (false) else (bif (decide (((l_heldChan (mk_PChan (((i_ChanOpen (l_toChan a) d (l_toFrame b))).1) 1) 1)) < 0)) then (false) else (bif (decide (((heldB (marksB (1+tot_PChan (((i_ChanOpen (l_toChan a) d (l_toFrame b))).1)) (((i_ChanOpen (l_toChan a) d (l_toFrame b))).2.1).length) ((l_heldChan (mk_PChan (((i_ChanOpen (l_toChan a) d (l_toFrame b))).1) 1) 1)))) < 0)) then (false) else (bif (decide (((heldB (marksB (1+tot_PChan (((i_ChanOpen (l_toChan a) d (l_toFrame b))).1)) (((i_ChanOpen (l_toChan a) d (l_toFrame b))).2.1).length) ((l_heldChan (mk_PChan (((i_ChanOpen (l_toChan a) d (l_toFrame b))).1) 1) 1))))=((1+tot_PChan (((i_ChanOpen (l_toChan a) d (l_toFrame b))).1))+((((i_ChanOpen (l_toChan a) d (l_toFrame b))).2.1).length:Int)))) then (bif (l_eqChan ((i_ChanOpen (l_toChan a) d (l_toFrame b)).1) ((s_ChanOpen (l_toChan a) d (l_toFrame b)).1)) then (bif (eqB ((i_ChanOpen (l_toChan a) d (l_toFrame b)).2.1) ((s_ChanOpen (l_toChan a) d (l_toFrame b)).2.1)) then (bif (decide ((i_ChanOpen (l_toChan a) d (l_toFrame b)).2.2=(s_ChanOpen (l_toChan a) d (l_toFrame b)).2.2)) then (true) else (false)) else (false)) else (false)) else (false))))) else (false)) else (false)) else (false)) else (false)) else (false)))
theorem HP (dA:World) (g6:Value) (a:PChan) (iD:Sy dA g6 a) (d:Int) (g7:Value) (b:PFrame) (iE:Sx dA g7 b) :Fn Tryz.prog 3 #[g6,(vi d),g7] dA (fun v aF=>Keep dA aF∧O_4 aF dA.heap.size v (BV a d b)):=by
 obtain ⟨bH,bI,bJ,bK,bL,bM,bN,bO,bP,bQ,bR,bS,rfl,eL,iF,eM,iG,eN,iH,eO,iI,eP,iJ,eQ,iK⟩:=iD
 obtain ⟨bT,bU,bW,bX,bY,bZ,ca,cb,cc,cd,ce,cg,rfl,eR,iL,eS,iM,eT,iN,eU,iO,eV,iP,eW,iQ⟩:=iE
 refine Cl (n:=161) [(va (Dv a bH bI bJ bK bL bM bN bO bP bQ bR bS)),(vi d),(va (EB b bT bU bW bX bY bZ ca cb cc cd ce cg))] Tryz.func3 rfl rfl ?_
 refine sr ?_
 refine bx (Dv a bH bI bJ bK bL bM bN bO bP bQ bR bS) wN ?_
 intro p0 bA p1 ci c7 iR
 refine bx (EB b bT bU bW bX bY bZ ca cb cc cd ce cg) wN ?_
 intro p2 iS p3 cy aC iT
 have db:=((Ch.base dA).extk c7).extk aC
 refine aw (vb false) ?_
 refine nx ?_
 refine aw (vi 1048576) ?_
 refine nx ?_
 have fQ:=(iR.kp aC)
 refine lN (Dv a bH bI bJ bK bL bM bN bO bP bQ bR bS) wN Hv GI fQ ?_
 refine mw (vi 1048576) ?_
 refine cl wN (Pp iS _ a (Sh (eL.from0 db) iF (eM.from0 db) iG (eN.from0 db) iH (eO.from0 db) iI (eP.from0 db) iJ (eQ.from0 db) iK) 1048576 (by omega) (by omega)) ?_
 rintro _ iU ⟨T,rfl⟩
 have c8:=db.extk T
 have p4:=IY a 1048576
 refine aw (vi (l_szChan a 1048576)) ?_
 refine n4 ?_
 refine mw (vi (l_szChan a 1048576)) ?_
 refine pu (vb (decide ((l_szChan a 1048576) < 0))) wN ?_
 refine n2 ?_
 rcases bt (decide ((l_szChan a 1048576) < 0)) with s|s
 ·have p5:=dT s
  refine ct s ?_
  refine sr ?_
  refine aw (vb true) ?_
  refine n1 ?_
  refine rt (vb true) ?_
  refine ⟨c8.keep0,?_⟩
  have iW:BV a d b=true:=by first|(simp only [BV,s,cond_true,cond_false,decide_true];done)|(unfold BV;try rw [s];first|done|rfl)
  rw [iW]
  exact rfl
 have p6:=dF s
 refine cf s ?_
 refine y1 ?_
 have fR:=(iT.kp T)
 refine lN (EB b bT bU bW bX bY bZ ca cb cc cd ce cg) wN Hu GH fR ?_
 refine mw (vi (l_szChan a 1048576)) ?_
 obtain ⟨fs,D⟩:∃ y,l_szFrame b (l_szChan a 1048576)=y:=⟨_,rfl⟩
 have g8:=NZ iU _ b (Sg (eR.from0 c8) iL (eS.from0 c8) iM (eT.from0 c8) iN (eU.from0 c8) iO (eV.from0 c8) iP (eW.from0 c8) iQ) (l_szChan a 1048576) (by omega) (by omega)
 rw [D] at g8
 refine cl wN g8 ?_
 rintro _ aD ⟨S,rfl⟩
 have ft:=c8.extk S
 have iX:=IG b (l_szChan a 1048576)
 try rw [D] at iX
 refine aw (vi (fs)) ?_
 refine n4 ?_
 refine mw (vi (fs)) ?_
 refine pu (vb (decide ((fs) < 0))) wN ?_
 refine n2 ?_
 rcases bt (decide ((fs) < 0)) with u|u
 ·have p7:=dT u
  refine ct u ?_
  refine sr ?_
  refine aw (vb true) ?_
  refine n1 ?_
  refine rt (vb true) ?_
  refine ⟨ft.keep0,?_⟩
  have iY:BV a d b=true:=by first|(simp only [BV,s,D,u,cond_true,cond_false,decide_true];done)|(exfalso;simp only [s] at D;rw [← D] at u;cases u)|(unfold BV;try rw [s];try rw [D];try rw [u];first|done|rfl)
  rw [iY]
  exact rfl
 have p8:=dF u
 refine cf u ?_
 refine Ct<|re<|Cc ?_
 refine CU ([(33,[],[],(fun _ v _=>v=(va (Dv a bH bI bJ bK bL bM bN bO bP bQ bR bS)))),(34,[],[0],(fun _ v w=>Rc w aD.heap.size v (l_toChan a))),(35,[],[],(fun _ v _=>v=(vi d))),(36,[],[],(fun _ v _=>v=(va (EB b bT bU bW bX bY bZ ca cb cc cd ce cg)))),(37,[34],[0,1,3],(fun e v w=>RS w aD.heap.size v (l_toFrame b) (fun F G H I J K=>Ap (sp (wr (e 34) 1)) F∧Ap (sp (wr (e 34) 1)) G∧Ap (sp (wr (e 34) 1)) H∧Ap (sp (wr (e 34) 1)) I∧Ap (sp (wr (e 34) 1)) J∧Ap (sp (wr (e 34) 1)) K∧Ap (sp (wr (e 34) 3)) F∧Ap (sp (wr (e 34) 3)) G∧Ap (sp (wr (e 34) 3)) H∧Ap (sp (wr (e 34) 3)) I∧Ap (sp (wr (e 34) 3)) J∧Ap (sp (wr (e 34) 3)) K∧Ap (sp (wr (e 34) 6)) F∧Ap (sp (wr (e 34) 6)) G∧Ap (sp (wr (e 34) 6)) H∧Ap (sp (wr (e 34) 6)) I∧Ap (sp (wr (e 34) 6)) J∧Ap (sp (wr (e 34) 6)) K∧Ap (sp (wr (e 34) 8)) F∧Ap (sp (wr (e 34) 8)) G∧Ap (sp (wr (e 34) 8)) H∧Ap (sp (wr (e 34) 8)) I∧Ap (sp (wr (e 34) 8)) J∧Ap (sp (wr (e 34) 8)) K∧Ap (sp (wr (e 34) 11)) F∧Ap (sp (wr (e 34) 11)) G∧Ap (sp (wr (e 34) 11)) H∧Ap (sp (wr (e 34) 11)) I∧Ap (sp (wr (e 34) 11)) J∧Ap (sp (wr (e 34) 11)) K∧Ap (sp (wr (e 34) 14)) F∧Ap (sp (wr (e 34) 14)) G∧Ap (sp (wr (e 34) 14)) H∧Ap (sp (wr (e 34) 14)) I∧Ap (sp (wr (e 34) 14)) J∧Ap (sp (wr (e 34) 14)) K))),(38,[34,37],[0,1,2,3,4],(fun e v w=>JD w aD.heap.size v (s_ChanOpen (l_toChan a) d (l_toFrame b)) (fun F G H I J K a5=>Ap (sp (wr (e 34) 1)) F∧Ap (sp (wr (e 34) 1)) G∧Ap (sp (wr (e 34) 1)) H∧Ap (sp (wr (e 34) 1)) I∧Ap (sp (wr (e 34) 1)) J∧Ap (sp (wr (e 34) 1)) K∧Ap (sp (wr (e 34) 1)) a5∧Ap (sp (wr (e 34) 3)) F∧Ap (sp (wr (e 34) 3)) G∧Ap (sp (wr (e 34) 3)) H∧Ap (sp (wr (e 34) 3)) I∧Ap (sp (wr (e 34) 3)) J∧Ap (sp (wr (e 34) 3)) K∧Ap (sp (wr (e 34) 3)) a5∧Ap (sp (wr (e 34) 6)) F∧Ap (sp (wr (e 34) 6)) G∧Ap (sp (wr (e 34) 6)) H∧Ap (sp (wr (e 34) 6)) I∧Ap (sp (wr (e 34) 6)) J∧Ap (sp (wr (e 34) 6)) K∧Ap (sp (wr (e 34) 6)) a5∧Ap (sp (wr (e 34) 8)) F∧Ap (sp (wr (e 34) 8)) G∧Ap (sp (wr (e 34) 8)) H∧Ap (sp (wr (e 34) 8)) I∧Ap (sp (wr (e 34) 8)) J∧Ap (sp (wr (e 34) 8)) K∧Ap (sp (wr (e 34) 8)) a5∧Ap (sp (wr (e 34) 11)) F∧Ap (sp (wr (e 34) 11)) G∧Ap (sp (wr (e 34) 11)) H∧Ap (sp (wr (e 34) 11)) I∧Ap (sp (wr (e 34) 11)) J∧Ap (sp (wr (e 34) 11)) K∧Ap (sp (wr (e 34) 11)) a5∧Ap (sp (wr (e 34) 14)) F∧Ap (sp (wr (e 34) 14)) G∧Ap (sp (wr (e 34) 14)) H∧Ap (sp (wr (e 34) 14)) I∧Ap (sp (wr (e 34) 14)) J∧Ap (sp (wr (e 34) 14)) K∧Ap (sp (wr (e 34) 14)) a5∧Ap (sp (wr (e 37) 2)) F∧Ap (sp (wr (e 37) 2)) G∧Ap (sp (wr (e 37) 2)) H∧Ap (sp (wr (e 37) 2)) I∧Ap (sp (wr (e 37) 2)) J∧Ap (sp (wr (e 37) 2)) K∧Ap (sp (wr (e 37) 2)) a5∧Ap (sp (wr (e 37) 3)) F∧Ap (sp (wr (e 37) 3)) G∧Ap (sp (wr (e 37) 3)) H∧Ap (sp (wr (e 37) 3)) I∧Ap (sp (wr (e 37) 3)) J∧Ap (sp (wr (e 37) 3)) K∧Ap (sp (wr (e 37) 3)) a5∧Ap (sp (wr (e 37) 5)) F∧Ap (sp (wr (e 37) 5)) G∧Ap (sp (wr (e 37) 5)) H∧Ap (sp (wr (e 37) 5)) I∧Ap (sp (wr (e 37) 5)) J∧Ap (sp (wr (e 37) 5)) K∧Ap (sp (wr (e 37) 5)) a5∧Ap (sp (wr (e 37) 6)) F∧Ap (sp (wr (e 37) 6)) G∧Ap (sp (wr (e 37) 6)) H∧Ap (sp (wr (e 37) 6)) I∧Ap (sp (wr (e 37) 6)) J∧Ap (sp (wr (e 37) 6)) K∧Ap (sp (wr (e 37) 6)) a5∧Ap (sp (wr (e 37) 9)) F∧Ap (sp (wr (e 37) 9)) G∧Ap (sp (wr (e 37) 9)) H∧Ap (sp (wr (e 37) 9)) I∧Ap (sp (wr (e 37) 9)) J∧Ap (sp (wr (e 37) 9)) K∧Ap (sp (wr (e 37) 9)) a5∧Ap (sp (wr (e 37) 10)) F∧Ap (sp (wr (e 37) 10)) G∧Ap (sp (wr (e 37) 10)) H∧Ap (sp (wr (e 37) 10)) I∧Ap (sp (wr (e 37) 10)) J∧Ap (sp (wr (e 37) 10)) K∧Ap (sp (wr (e 37) 10)) a5))),(32,[38],[0,1,2,3,4,5],(fun e v _=>v=(.tuple #[(.agg #[(vi (((s_ChanOpen (l_toChan a) d (l_toFrame b)).1).Role)),(wr (DA (e 38) 0) 1),(vi ((((s_ChanOpen (l_toChan a) d (l_toFrame b)).1).Cur).N)),(wr (DA (e 38) 0) 3),(vi ((((s_ChanOpen (l_toChan a) d (l_toFrame b)).1).Cur).Seq)),(vi (((((s_ChanOpen (l_toChan a) d (l_toFrame b)).1).Cur).Win).Top)),(wr (DA (e 38) 0) 6),(vi ((((s_ChanOpen (l_toChan a) d (l_toFrame b)).1).Old).N)),(wr (DA (e 38) 0) 8),(vi ((((s_ChanOpen (l_toChan a) d (l_toFrame b)).1).Old).Seq)),(vi (((((s_ChanOpen (l_toChan a) d (l_toFrame b)).1).Old).Win).Top)),(wr (DA (e 38) 0) 11),(vb (((s_ChanOpen (l_toChan a) d (l_toFrame b)).1).HasOld)),(vi (((s_ChanOpen (l_toChan a) d (l_toFrame b)).1).Until)),(wr (DA (e 38) 0) 14)]),(DA (e 38) 1),(vi ((s_ChanOpen (l_toChan a) d (l_toFrame b)).2.2))]))),(39,[38],[0,1,2,3,4,5,6],(fun e v _=>v=(.agg #[(vi (((s_ChanOpen (l_toChan a) d (l_toFrame b)).1).Role)),(wr (DA (e 38) 0) 1),(vi ((((s_ChanOpen (l_toChan a) d (l_toFrame b)).1).Cur).N)),(wr (DA (e 38) 0) 3),(vi ((((s_ChanOpen (l_toChan a) d (l_toFrame b)).1).Cur).Seq)),(vi (((((s_ChanOpen (l_toChan a) d (l_toFrame b)).1).Cur).Win).Top)),(wr (DA (e 38) 0) 6),(vi ((((s_ChanOpen (l_toChan a) d (l_toFrame b)).1).Old).N)),(wr (DA (e 38) 0) 8),(vi ((((s_ChanOpen (l_toChan a) d (l_toFrame b)).1).Old).Seq)),(vi (((((s_ChanOpen (l_toChan a) d (l_toFrame b)).1).Old).Win).Top)),(wr (DA (e 38) 0) 11),(vb (((s_ChanOpen (l_toChan a) d (l_toFrame b)).1).HasOld)),(vi (((s_ChanOpen (l_toChan a) d (l_toFrame b)).1).Until)),(wr (DA (e 38) 0) 14)]))),(40,[38],[0,1,2,3,4,5,6],(fun e v _=>v=(DA (e 38) 1))),(41,[],[0,1,2,3,4,5,6],(fun _ v _=>v=(vi ((s_ChanOpen (l_toChan a) d (l_toFrame b)).2.2)))),(8,[],[],(fun _ v w=>∃ (g:Nat) (aM aN aO aP aQ aR aS aT aU aV aW aX aY aZ ba:Value),v=vp g 0∧aD.heap.size≤g∧Blk w g 38 [aM,aN,aO,aP,aQ,aR,aS,aT,aU,aV,aW,aX,aY,aZ,ba])),(172,[8,38],[0,1,2,3,4,5,6,7,10],(fun e _ w=>∃ g:Nat,e 8=vp g 0∧aD.heap.size≤g∧Blk w g 38 [(vi (((s_ChanOpen (l_toChan a) d (l_toFrame b)).1).Role)),(wr (DA (e 38) 0) 1),(vi ((((s_ChanOpen (l_toChan a) d (l_toFrame b)).1).Cur).N)),(wr (DA (e 38) 0) 3),(vi ((((s_ChanOpen (l_toChan a) d (l_toFrame b)).1).Cur).Seq)),(vi (((((s_ChanOpen (l_toChan a) d (l_toFrame b)).1).Cur).Win).Top)),(wr (DA (e 38) 0) 6),(vi ((((s_ChanOpen (l_toChan a) d (l_toFrame b)).1).Old).N)),(wr (DA (e 38) 0) 8),(vi ((((s_ChanOpen (l_toChan a) d (l_toFrame b)).1).Old).Seq)),(vi (((((s_ChanOpen (l_toChan a) d (l_toFrame b)).1).Old).Win).Top)),(wr (DA (e 38) 0) 11),(vb (((s_ChanOpen (l_toChan a) d (l_toFrame b)).1).HasOld)),(vi (((s_ChanOpen (l_toChan a) d (l_toFrame b)).1).Until)),(wr (DA (e 38) 0) 14)])),(9,[38],[0,1,2,3,4,5,6,7,8,10,11],(fun e v _=>v=(DA (e 38) 1)))]:GV) (fun _ aF=>Keep aD aF) [(11,fun w aF=>∃ g:Nat,aD.heap.size≤g∧(∃ aM aN aO aP aQ aR aS aT aU aV aW aX aY aZ ba:Value,Blk w g 38 [aM,aN,aO,aP,aQ,aR,aS,aT,aU,aV,aW,aX,aY,aZ,ba])∧Ch (fun k=>k=g) w aF∧∃ aM aN aO aP aQ aR aS aT aU aV aW aX aY aZ ba:Value,Blk aF g 38 [aM,aN,aO,aP,aQ,aR,aS,aT,aU,aV,aW,aX,aY,aZ,ba])] DN rfl (by kernel_rfl) (by kernel_rfl) ?_ (fun _ _ h=>h) (fun _ _ _ _ h _ k=>h.trans k) ⟨(fun _ _ w aF h _ _ t=>by obtain ⟨g,hle,-,fS,-⟩:=t;exact h.new fS (fun k hk=>by have iZ:k=g:=hk;omega)),trivial⟩ ?_ ?_ ?_
 ·exact ⟨hV,hE,⟨(fun e v w bA h hk=>by obtain ⟨aa,ab,ac,ad,ae,af,ah,ai,aj,ak,am,an,he,ao,ap,aq,au,av,ax,ay,az,a0,a1,a2,a3,hap⟩:=h;exact ⟨aa,ab,ac,ad,ae,af,ah,ai,aj,ak,am,an,he,gc ao hk,ap,gc aq hk,au,gc av hk,ax,gc ay hk,az,gc a0 hk,a1,gc a2 hk,a3,hap⟩),hE,⟨hV,hE,⟨hV,hE,⟨(fun e v w bA h hk=>by obtain ⟨aa,ab,ac,ad,ae,af,ah,ai,aj,ak,am,an,he,ao,ap,aq,au,av,ax,ay,az,a0,a1,a2,a3,hap,hx⟩:=h;exact ⟨aa,ab,ac,ad,ae,af,ah,ai,aj,ak,am,an,he,gc ao hk,ap,gc aq hk,au,gc av hk,ax,gc ay hk,az,gc a0 hk,a1,gc a2 hk,a3,hap,hx⟩),(fun bn bo v w hx h=>by have fT:=hx 34 (by simp);simp only [fT] at h;exact h),⟨(fun e v w bA h hk=>by obtain ⟨aa,ab,ac,ad,ae,af,ah,ai,aj,ak,am,an,dc,dd,he,ao,ap,aq,au,av,ax,ay,az,a0,a1,a2,a3,de,df,hap,hx⟩:=h;exact ⟨aa,ab,ac,ad,ae,af,ah,ai,aj,ak,am,an,dc,dd,he,gc ao hk,ap,gc aq hk,au,gc av hk,ax,gc ay hk,az,gc a0 hk,a1,gc a2 hk,a3,gc de hk,df,hap,hx⟩),(fun bn bo v w hx h=>by have fT:=hx 34 (by simp);have ja:=hx 37 (by simp);simp only [fT,ja] at h;exact h),⟨hV,(fun bn bo v w hx h=>by have cz:=hx 38 (by simp);simp only [cz] at h;exact h),⟨hV,(fun bn bo v w hx h=>by have cz:=hx 38 (by simp);simp only [cz] at h;exact h),⟨hV,(fun bn bo v w hx h=>by have cz:=hx 38 (by simp);simp only [cz] at h;exact h),⟨hV,hE,⟨(fun e v w bA h hk=>by obtain ⟨g,aM,aN,aO,aP,aQ,aR,aS,aT,aU,aV,aW,aX,aY,aZ,ba,he,hle,hb⟩:=h;exact ⟨g,_,_,_,_,_,_,_,_,_,_,_,_,_,_,_,he,hle,hb.kp hk⟩),hE,⟨(fun e v w bA h hk=>by obtain ⟨g,he,hle,hb⟩:=h;exact ⟨g,he,hle,hb.kp hk⟩),(fun bn bo v w hx h=>by have jb:=hx 8 (by simp);have cz:=hx 38 (by simp);simp only [jb,cz] at h;exact h),⟨hV,(fun bn bo v w hx h=>by have cz:=hx 38 (by simp);simp only [cz] at h;exact h),trivial⟩⟩⟩⟩⟩⟩⟩⟩⟩⟩⟩⟩⟩
 ·exact ⟨⟨.inr hV,⟨.inr (fun e v wX wY h ht=>by obtain ⟨aa,ab,ac,ad,ae,af,ah,ai,aj,ak,am,an,he,ao,ap,aq,au,av,ax,ay,az,a0,a1,a2,a3,hap⟩:=h;obtain ⟨gt,hlt,⟨_,_,_,_,_,_,_,_,_,_,_,_,_,_,_,hbt⟩,hct,⟨_,_,_,_,_,_,_,_,_,_,_,_,_,_,_,c0⟩⟩:=ht;exact ⟨aa,ab,ac,ad,ae,af,ah,ai,aj,ak,am,an,he,Dc ao hbt (by decide) hct,ap,Dc aq hbt (by decide) hct,au,Dc av hbt (by decide) hct,ax,Dc ay hbt (by decide) hct,az,Dc a0 hbt (by decide) hct,a1,Dc a2 hbt (by decide) hct,a3,hap⟩),⟨.inr hV,⟨.inr hV,⟨.inr (fun e v wX wY h ht=>by obtain ⟨aa,ab,ac,ad,ae,af,ah,ai,aj,ak,am,an,he,ao,ap,aq,au,av,ax,ay,az,a0,a1,a2,a3,hap,hx⟩:=h;obtain ⟨gt,hlt,⟨_,_,_,_,_,_,_,_,_,_,_,_,_,_,_,hbt⟩,hct,⟨_,_,_,_,_,_,_,_,_,_,_,_,_,_,_,c0⟩⟩:=ht;exact ⟨aa,ab,ac,ad,ae,af,ah,ai,aj,ak,am,an,he,Dc ao hbt (by decide) hct,ap,Dc aq hbt (by decide) hct,au,Dc av hbt (by decide) hct,ax,Dc ay hbt (by decide) hct,az,Dc a0 hbt (by decide) hct,a1,Dc a2 hbt (by decide) hct,a3,hap,hx⟩),⟨.inr (fun e v wX wY h ht=>by obtain ⟨aa,ab,ac,ad,ae,af,ah,ai,aj,ak,am,an,dc,dd,he,ao,ap,aq,au,av,ax,ay,az,a0,a1,a2,a3,de,df,hap,hx⟩:=h;obtain ⟨gt,hlt,⟨_,_,_,_,_,_,_,_,_,_,_,_,_,_,_,hbt⟩,hct,⟨_,_,_,_,_,_,_,_,_,_,_,_,_,_,_,c0⟩⟩:=ht;exact ⟨aa,ab,ac,ad,ae,af,ah,ai,aj,ak,am,an,dc,dd,he,Dc ao hbt (by decide) hct,ap,Dc aq hbt (by decide) hct,au,Dc av hbt (by decide) hct,ax,Dc ay hbt (by decide) hct,az,Dc a0 hbt (by decide) hct,a1,Dc a2 hbt (by decide) hct,a3,Dc de hbt (by decide) hct,df,hap,hx⟩),⟨.inr hV,⟨.inr hV,⟨.inr hV,⟨.inr hV,⟨.inr (fun e v wX wY h ht=>by obtain ⟨g,aM,aN,aO,aP,aQ,aR,aS,aT,aU,aV,aW,aX,aY,aZ,ba,he,hle,hb⟩:=h;obtain ⟨gt,hlt,⟨_,_,_,_,_,_,_,_,_,_,_,_,_,_,_,hbt⟩,hct,⟨_,_,_,_,_,_,_,_,_,_,_,_,_,_,_,c0⟩⟩:=ht;by_cases hg:g=gt;(· subst hg;exact ⟨g,_,_,_,_,_,_,_,_,_,_,_,_,_,_,_,he,hle,c0⟩);(· exact ⟨g,_,_,_,_,_,_,_,_,_,_,_,_,_,_,_,he,hle,hb.ch hct hg⟩)),⟨.inl rfl,⟨.inr hV,trivial⟩⟩⟩⟩⟩⟩⟩⟩⟩⟩⟩⟩⟩,trivial⟩
 ·refine ⟨?_,⟨?_,⟨?_,⟨?_,⟨?_,⟨?_,⟨?_,⟨?_,⟨?_,⟨?_,⟨?_,⟨?_,⟨?_,trivial⟩⟩⟩⟩⟩⟩⟩⟩⟩⟩⟩⟩⟩
  ·intro _ P jc _
   rintro _ _ _ _ _ _ _ _ _ _ _ _ _
   refine sw ?_
   have jd:=(((fQ.kp T).kp S).kp jc)
   refine lN (Dv a bH bI bJ bK bL bM bN bO bP bQ bR bS) wN Hv GI jd ?_
   exact f1
  ·intro _ P dg _
   have dB:=ft.extk dg
   rintro _ rfl _ _ _ _ _ _ _ _ _ _ _ _
   refine sw ?_
   refine cl wN (Ip P _ a (OY (eL.from0 dB) (by omega) (eM.from0 dB) (by omega) (eN.from0 dB) (by omega) (eO.from0 dB) (by omega) (eP.from0 dB) (by omega) (eQ.from0 dB) (by omega))) ?_
   rintro _ c1 ⟨je,⟨p9,pA,pB,pC,pD,pE,pF,pG,pH,pI,pJ,pK,rfl,jf,jg,jh,ji,jj,jk,jl,jm,jn,jo,jp,jq,jr⟩⟩
   exact CN je ⟨_,_,_,_,_,_,_,_,_,_,_,_,rfl,(tB jf dg.size),jg,(tB jh dg.size),ji,(tB jj dg.size),jk,(tB jl dg.size),jm,(tB jn dg.size),jo,(tB jp dg.size),jq,jr⟩
  ·intro _ P pL _
   rintro _ _ _ _ _ _ _ _ _ _ _ _ _
   refine sw ?_
   refine mw (vi d) ?_
   exact f1
  ·intro _ P js _
   rintro _ _ _ _ _ _ _ _ _ _ _ _ _
   refine sw ?_
   have jt:=((fR.kp S).kp js)
   refine lN (EB b bT bU bW bX bY bZ ca cb cc cd ce cg) wN Hu GH jt ?_
   exact f1
  ·intro _ P dh _
   have dC:=ft.extk dh
   rintro _ rfl _ ⟨pM,pN,pO,pP,pQ,pR,pS,pT,pU,pV,pW,pX,rfl,dD,pY,dE,pZ,dG,qa,dH,qb,dI,qc,dJ,_⟩ _ _ rfl _ _ _ _ _ _ _ _ _
   refine sw ?_
   refine cl wN (Hy P _ b (OX (eR.from0 dC) (by omega) (eS.from0 dC) (by omega) (eT.from0 dC) (by omega) (eU.from0 dC) (by omega) (eV.from0 dC) (by omega) (eW.from0 dC) (by omega))) ?_
   rintro _ c1 ⟨ju,⟨qd,qe,qf,qg,qh,qi,qj,qk,ql,qm,qn,qo,rfl,di,jv,dj,jw,dk,jx,dl,jy,dm,jz,dn,j0,j1⟩⟩
   exact CN ju ⟨_,_,_,_,_,_,_,_,_,_,_,_,rfl,(tB di dh.size),jv,(tB dj dh.size),jw,(tB dk dh.size),jx,(tB dl dh.size),jy,(tB dm dh.size),jz,(tB dn dh.size),j0,j1,⟨(Ap.lt dD di (Nat.le_refl _)),(Ap.lt dD dj (Nat.le_refl _)),(Ap.lt dD dk (Nat.le_refl _)),(Ap.lt dD dl (Nat.le_refl _)),(Ap.lt dD dm (Nat.le_refl _)),(Ap.lt dD dn (Nat.le_refl _)),(Ap.lt dE di (Nat.le_refl _)),(Ap.lt dE dj (Nat.le_refl _)),(Ap.lt dE dk (Nat.le_refl _)),(Ap.lt dE dl (Nat.le_refl _)),(Ap.lt dE dm (Nat.le_refl _)),(Ap.lt dE dn (Nat.le_refl _)),(Ap.lt dG di (Nat.le_refl _)),(Ap.lt dG dj (Nat.le_refl _)),(Ap.lt dG dk (Nat.le_refl _)),(Ap.lt dG dl (Nat.le_refl _)),(Ap.lt dG dm (Nat.le_refl _)),(Ap.lt dG dn (Nat.le_refl _)),(Ap.lt dH di (Nat.le_refl _)),(Ap.lt dH dj (Nat.le_refl _)),(Ap.lt dH dk (Nat.le_refl _)),(Ap.lt dH dl (Nat.le_refl _)),(Ap.lt dH dm (Nat.le_refl _)),(Ap.lt dH dn (Nat.le_refl _)),(Ap.lt dI di (Nat.le_refl _)),(Ap.lt dI dj (Nat.le_refl _)),(Ap.lt dI dk (Nat.le_refl _)),(Ap.lt dI dl (Nat.le_refl _)),(Ap.lt dI dm (Nat.le_refl _)),(Ap.lt dI dn (Nat.le_refl _)),(Ap.lt dJ di (Nat.le_refl _)),(Ap.lt dJ dj (Nat.le_refl _)),(Ap.lt dJ dk (Nat.le_refl _)),(Ap.lt dJ dl (Nat.le_refl _)),(Ap.lt dJ dm (Nat.le_refl _)),(Ap.lt dJ dn (Nat.le_refl _))⟩⟩
  ·intro _ P dp _
   rintro _ rfl _ ⟨qp,qq,qr,qs,qt,qu,qv,qw,qx,qy,qz,q0,rfl,c9,j2,cC,j3,cD,j4,cE,j5,cF,j6,cG,j7,q1⟩ _ rfl _ rfl _ ⟨q2,q3,q4,q5,q6,q7,q8,q9,qA,qB,qC,qD,rfl,cH,j8,cI,j9,cJ,jA,cK,jC,cL,jD,cM,jE,_⟩ _ _ _ _ _ _ _ _
   refine sw ?_
   refine cl wN (MO P _ (l_toChan a) (GX (Rd.of_own c9) j2 (Rd.of_own cC) j3 (Rd.of_own cD) j4 (Rd.of_own cE) j5 (Rd.of_own cF) j6 (Rd.of_own cG) j7) d _ (l_toFrame b) (FC (Rd.of_own cH) j8 (Rd.of_own cI) j9 (Rd.of_own cJ) jA (Rd.of_own cK) jC (Rd.of_own cL) jD (Rd.of_own cM) jE)) ?_
   rintro _ c1 ⟨jF,⟨qE,qF,qG,qH,qI,qJ,qK,qL,qM,qN,qO,qP,qQ,qR,rfl,bp,jG,bq,jH,br,jI,bu,jJ,bv,jK,bw,jL,bz,jM,jN⟩⟩
   exact CN jF ⟨_,_,_,_,_,_,_,_,_,_,_,_,_,_,rfl,(tB bp dp.size),jG,(tB bq dp.size),jH,(tB br dp.size),jI,(tB bu dp.size),jJ,(tB bv dp.size),jK,(tB bw dp.size),jL,(tB bz dp.size),jM,jN,⟨(Ap.lt c9 bp (Nat.le_refl _)),(Ap.lt c9 bq (Nat.le_refl _)),(Ap.lt c9 br (Nat.le_refl _)),(Ap.lt c9 bu (Nat.le_refl _)),(Ap.lt c9 bv (Nat.le_refl _)),(Ap.lt c9 bw (Nat.le_refl _)),(Ap.lt c9 bz (Nat.le_refl _)),(Ap.lt cC bp (Nat.le_refl _)),(Ap.lt cC bq (Nat.le_refl _)),(Ap.lt cC br (Nat.le_refl _)),(Ap.lt cC bu (Nat.le_refl _)),(Ap.lt cC bv (Nat.le_refl _)),(Ap.lt cC bw (Nat.le_refl _)),(Ap.lt cC bz (Nat.le_refl _)),(Ap.lt cD bp (Nat.le_refl _)),(Ap.lt cD bq (Nat.le_refl _)),(Ap.lt cD br (Nat.le_refl _)),(Ap.lt cD bu (Nat.le_refl _)),(Ap.lt cD bv (Nat.le_refl _)),(Ap.lt cD bw (Nat.le_refl _)),(Ap.lt cD bz (Nat.le_refl _)),(Ap.lt cE bp (Nat.le_refl _)),(Ap.lt cE bq (Nat.le_refl _)),(Ap.lt cE br (Nat.le_refl _)),(Ap.lt cE bu (Nat.le_refl _)),(Ap.lt cE bv (Nat.le_refl _)),(Ap.lt cE bw (Nat.le_refl _)),(Ap.lt cE bz (Nat.le_refl _)),(Ap.lt cF bp (Nat.le_refl _)),(Ap.lt cF bq (Nat.le_refl _)),(Ap.lt cF br (Nat.le_refl _)),(Ap.lt cF bu (Nat.le_refl _)),(Ap.lt cF bv (Nat.le_refl _)),(Ap.lt cF bw (Nat.le_refl _)),(Ap.lt cF bz (Nat.le_refl _)),(Ap.lt cG bp (Nat.le_refl _)),(Ap.lt cG bq (Nat.le_refl _)),(Ap.lt cG br (Nat.le_refl _)),(Ap.lt cG bu (Nat.le_refl _)),(Ap.lt cG bv (Nat.le_refl _)),(Ap.lt cG bw (Nat.le_refl _)),(Ap.lt cG bz (Nat.le_refl _)),(Ap.lt cH bp (Nat.le_refl _)),(Ap.lt cH bq (Nat.le_refl _)),(Ap.lt cH br (Nat.le_refl _)),(Ap.lt cH bu (Nat.le_refl _)),(Ap.lt cH bv (Nat.le_refl _)),(Ap.lt cH bw (Nat.le_refl _)),(Ap.lt cH bz (Nat.le_refl _)),(Ap.lt cI bp (Nat.le_refl _)),(Ap.lt cI bq (Nat.le_refl _)),(Ap.lt cI br (Nat.le_refl _)),(Ap.lt cI bu (Nat.le_refl _)),(Ap.lt cI bv (Nat.le_refl _)),(Ap.lt cI bw (Nat.le_refl _)),(Ap.lt cI bz (Nat.le_refl _)),(Ap.lt cJ bp (Nat.le_refl _)),(Ap.lt cJ bq (Nat.le_refl _)),(Ap.lt cJ br (Nat.le_refl _)),(Ap.lt cJ bu (Nat.le_refl _)),(Ap.lt cJ bv (Nat.le_refl _)),(Ap.lt cJ bw (Nat.le_refl _)),(Ap.lt cJ bz (Nat.le_refl _)),(Ap.lt cK bp (Nat.le_refl _)),(Ap.lt cK bq (Nat.le_refl _)),(Ap.lt cK br (Nat.le_refl _)),(Ap.lt cK bu (Nat.le_refl _)),(Ap.lt cK bv (Nat.le_refl _)),(Ap.lt cK bw (Nat.le_refl _)),(Ap.lt cK bz (Nat.le_refl _)),(Ap.lt cL bp (Nat.le_refl _)),(Ap.lt cL bq (Nat.le_refl _)),(Ap.lt cL br (Nat.le_refl _)),(Ap.lt cL bu (Nat.le_refl _)),(Ap.lt cL bv (Nat.le_refl _)),(Ap.lt cL bw (Nat.le_refl _)),(Ap.lt cL bz (Nat.le_refl _)),(Ap.lt cM bp (Nat.le_refl _)),(Ap.lt cM bq (Nat.le_refl _)),(Ap.lt cM br (Nat.le_refl _)),(Ap.lt cM bu (Nat.le_refl _)),(Ap.lt cM bv (Nat.le_refl _)),(Ap.lt cM bw (Nat.le_refl _)),(Ap.lt cM bz (Nat.le_refl _))⟩⟩
  ·intro _ P qS _
   rintro _ rfl _ ⟨qT,qU,qV,qW,qX,qY,qZ,ra,rb,rc,rf,rh,rfl,_⟩ _ rfl _ rfl _ ⟨ri,rj,rk,rm,rn,ro,rp,rq,rr,rs,ru,rv,rfl,_⟩ _ ⟨jO,jP,jQ,jR,jS,jT,jU,jV,jW,jX,jY,jZ,ka,kb,rfl,_⟩ _ _ _ _ _ _ _
   refine sw ?_
   refine mw (.tuple #[(va (Dv ((s_ChanOpen (l_toChan a) d (l_toFrame b)).1) jO jP jQ jR jS jT jU jV jW jX jY jZ)),(vs ka ((s_ChanOpen (l_toChan a) d (l_toFrame b)).2.1).length kb),(vi ((s_ChanOpen (l_toChan a) d (l_toFrame b)).2.2))]) ?_
   exact f1
  ·intro _ P rx _
   rintro _ rfl _ ⟨ry,rz,r0,r1,r2,r3,r4,r5,r6,r7,r8,r9,rfl,_⟩ _ rfl _ rfl _ ⟨rA,rB,rC,rD,rE,rF,rG,rH,rI,rJ,rK,rL,rfl,_⟩ _ ⟨kc,kd,ke,kf,kg,kh,ki,kj,kk,kl,km,kn,rM,rN,rfl,_⟩ _ rfl _ _ _ _ _ _
   refine sw ?_
   refine pu (va (Dv ((s_ChanOpen (l_toChan a) d (l_toFrame b)).1) kc kd ke kf kg kh ki kj kk kl km kn)) wN ?_
   exact f1
  ·intro _ P rO _
   rintro _ rfl _ ⟨rP,rQ,rR,rS,rT,rU,rV,rW,rX,rY,rZ,sa,rfl,_⟩ _ rfl _ rfl _ ⟨sb,sc,sd,se,sf,sg,sh,si,sj,sl,sm,sn,rfl,_⟩ _ ⟨so,sq,ss,sx,sy,s0,s1,s2,s3,s4,s5,s6,ko,kq,rfl,_⟩ _ rfl _ _ _ _ _ _
   refine sw ?_
   refine pu (vs ko ((s_ChanOpen (l_toChan a) d (l_toFrame b)).2.1).length kq) wN ?_
   exact f1
  ·intro _ P s7 _
   rintro _ rfl _ ⟨s8,s9,sA,sB,sC,sD,sE,sF,sG,sH,sI,sJ,rfl,_⟩ _ rfl _ rfl _ ⟨sL,sM,sN,sO,sP,sQ,sR,sS,sT,sU,sV,sW,rfl,_⟩ _ ⟨sX,sY,sZ,ta,tb,tc,td,te,tf,tg,th,ti,tj,tk,rfl,_⟩ _ rfl _ _ _ _ _ _
   refine sw ?_
   refine pu (vi ((s_ChanOpen (l_toChan a) d (l_toFrame b)).2.2)) wN ?_
   exact f1
  ·intro _ P kr _
   rintro _ _ _ _ _ _ _ _ _ _ _ _ _
   refine sw ?_
   refine al Mr wN Fz ?_
   intro tl c1 ks tm kt ku
   exact CN kt ⟨_,_,_,_,_,_,_,_,_,_,_,_,_,_,_,_,rfl,(nT kr.size ks),ku⟩
  ·intro _ P tn _
   rintro _ rfl _ ⟨tp,tq,tr,ts,tt,tu,tv,tw,tx,ty,tz,t0,rfl,_⟩ _ rfl _ rfl _ ⟨t1,t2,tF,tG,tH,tI,tJ,tK,tL,tM,tN,tO,rfl,_⟩ _ ⟨kv,kx,ky,kz,k1,k2,k3,k4,k5,k6,k7,k8,tP,tQ,rfl,_⟩ _ rfl _ rfl _ _ _ k9
   obtain ⟨tR,tS,rfl,g9,gA⟩:=JB k9
   rintro _ _
   refine sw ?_
   refine sv (Dv ((s_ChanOpen (l_toChan a) d (l_toFrame b)).1) kv kx ky kz k1 k2 k3 k4 k5 k6 k7 k8) wN BY gA ?_
   intro c1 kA gB tT
   exact JI (by decide) ⟨_,g9,⟨_,_,_,_,_,_,_,_,_,_,_,_,_,_,_,gA⟩,kA,⟨_,_,_,_,_,_,_,_,_,_,_,_,_,_,_,gB⟩⟩ ⟨_,rfl,g9,gB⟩
  ·intro _ P tU _
   rintro _ rfl _ ⟨tV,tW,tX,tY,tZ,ua,ub,uc,ud,ue,uf,ug,rfl,_⟩ _ rfl _ rfl _ ⟨uh,ui,uj,uk,ul,um,un,uo,up,uq,ur,us,rfl,_⟩ _ ⟨ut,uu,uv,uw,ux,uy,uz,u0,u1,u2,u3,u4,kB,kC,rfl,_⟩ _ rfl _ rfl _ rfl _ _ kD
   obtain ⟨u5,u6,rfl,u7,u8⟩:=JB kD
   rintro _ ⟨kE,kF,-,u9⟩
   have hz:=Ji kF
   subst kE
   intro _
   refine sw ?_
   refine aw (vs kB ((s_ChanOpen (l_toChan a) d (l_toFrame b)).2.1).length kC) ?_
   exact f1
 ·intro _ P Y
  have dq:=ft.extk Y
  rintro _ rfl _ ⟨uA,uB,uC,uD,uE,uF,uG,uH,uI,uJ,uK,uL,rfl,_⟩ _ rfl _ rfl _ ⟨uM,uN,uO,uP,uQ,uR,uS,uT,uU,uV,uW,uX,rfl,_⟩ _ ⟨fU,fV,fW,fX,fY,fZ,ga,gb,gd,ge,gf,gg,gh,gi,rfl,fu,gj,fv,gk,fw,gl,fx,gm,fy,gn,fz,gp,f0,gq,_⟩ _ rfl _ rfl _ rfl _ rfl _ kG
  obtain ⟨uY,uZ,rfl,vc,dr⟩:=JB kG
  rintro _ ⟨kH,kI,-,kJ⟩
  have hz:=Ji kI
  subst kH
  rintro _ rfl
  refine sw ?_
  refine aw (vi ((s_ChanOpen (l_toChan a) d (l_toFrame b)).2.2)) ?_
  refine nx ?_
  have gr:=(((fQ.kp T).kp S).kp Y)
  refine lN (Dv a bH bI bJ bK bL bM bN bO bP bQ bR bS) wN Hv GI gr ?_
  refine cl wN (Ip P _ a (OY (eL.from0 dq) (by omega) (eM.from0 dq) (by omega) (eN.from0 dq) (by omega) (eO.from0 dq) (by omega) (eP.from0 dq) (by omega) (eQ.from0 dq) (by omega))) ?_
  rintro _ c1 ⟨m,⟨dK,dL,dM,dN,dO,dP,dQ,dR,dS,dU,dV,dW,rfl,eX,f3,eY,f4,eZ,f5,fa,f6,fb,f7,fc,f8,bb⟩⟩
  refine al Mr wN Fz ?_
  intro vd vf cN gs l kK
  refine sv (Dv (l_toChan a) dK dL dM dN dO dP dQ dR dS dU dV dW) wN BY kK ?_
  intro ds i kL vg
  have dt:=((dq.extk m).extk l).ext i (fun k hk=>by subst hk;exact nT (z6 c7 aC T S Y m) cN)
  refine nx ?_
  have gu:=(((((fR.kp S).kp Y).kp m).kp l).ch i (nN (nL cy (nT (z4 T S Y m) cN))))
  refine lN (EB b bT bU bW bX bY bZ ca cb cc cd ce cg) wN Hu GH gu ?_
  refine cl wN (Hy ds _ b (OX (eR.from0 dt) (by omega) (eS.from0 dt) (by omega) (eT.from0 dt) (by omega) (eU.from0 dt) (by omega) (eV.from0 dt) (by omega) (eW.from0 dt) (by omega))) ?_
  rintro _ f9 ⟨r,⟨dX,dY,dZ,ea,ec,ed,ee,ef,eg,eh,ej,ek,rfl,fd,fA,fe,fB,ff,fC,fg,fD,fh,fE,fi,fF,bc⟩⟩
  refine al Rb wN JF ?_
  intro vh vj bB gC C kM
  refine sv (EB (l_toFrame b) dX dY dZ ea ec ed ee ef eg eh ej ek) wN CV kM ?_
  intro b0 x gv vk
  have kN:=((dt.extk r).extk C).ext x (fun k hk=>by subst hk;exact nT (z9 c7 aC T S Y m l i r) bB)
  refine nx ?_
  have gw:=(((kL.kp r).kp C).ch x (nN (nL gs (nT (z2 i r) bB))))
  refine lN (Dv (l_toChan a) dK dL dM dN dO dP dQ dR dS dU dV dW) wN Cv BY gw ?_
  refine mw (vi d) ?_
  refine lN (EB (l_toFrame b) dX dY dZ ea ec ed ee ef eg eh ej ek) wN Dn CV gv ?_
  have em:=fun (E sz n:Nat) (v:Value) (j:List Value) (o:World.ownsRow c1 P.heap.size E sz v n j) (B:World.ownsRow c1 P.heap.size E sz v n j)=>(tC (gc (gc (tC (gc o l) i (ne2 B (cN))) r) C) x (ne2 B (nT (z3 l i r) bB)))
  have gD:=(em _ _ _ _ _ eX eX)
  have gE:=(em _ _ _ _ _ eY eY)
  have gF:=(em _ _ _ _ _ eZ eZ)
  have gG:=(em _ _ _ _ _ fa fa)
  have gH:=(em _ _ _ _ _ fb fb)
  have gI:=(em _ _ _ _ _ fc fc)
  have en:=fun (E sz n:Nat) (v:Value) (j:List Value) (o:World.ownsRow f9 ds.heap.size E sz v n j) (B:World.ownsRow f9 ds.heap.size E sz v n j)=>(tC (gc o C) x (ne2 B (bB)))
  have gJ:=(en _ _ _ _ _ fd fd)
  have gK:=(en _ _ _ _ _ fe fe)
  have gL:=(en _ _ _ _ _ ff ff)
  have gM:=(en _ _ _ _ _ fg fg)
  have gN:=(en _ _ _ _ _ fh fh)
  have gO:=(en _ _ _ _ _ fi fi)
  obtain ⟨f,L⟩:∃ y,i_ChanOpen (l_toChan a) d (l_toFrame b)=y:=⟨_,rfl⟩
  have gP:=JA b0 _ (l_toChan a) (GX (Rd.of_own gD) f3 (Rd.of_own gE) f4 (Rd.of_own gF) f5 (Rd.of_own gG) f6 (Rd.of_own gH) f7 (Rd.of_own gI) f8) d _ (l_toFrame b) (FC (Rd.of_own gJ) fA (Rd.of_own gK) fB (Rd.of_own gL) fC (Rd.of_own gM) fD (Rd.of_own gN) fE (Rd.of_own gO) fF)
  rw [L] at gP
  refine cl wN gP ?_
  rintro _ du ⟨V,⟨cj,ck,cm,cn,co,cp,cq,cr,cs,cu,cv,cw,bd,be,rfl,fj,eo,fk,ep,fl,er,fm,es,fo,et,fp,eu,fG,fq,R⟩⟩
  refine mw (.tuple #[(va (Dv ((f).1) cj ck cm cn co cp cq cr cs cu cv cw)),(vs bd ((f).2.1).length be),(vi ((f).2.2))]) ?_
  refine pu (va (Dv ((f).1) cj ck cm cn co cp cq cr cs cu cv cw)) wN ?_
  refine pu (vs bd ((f).2.1).length be) wN ?_
  refine pu (vi ((f).2.2)) wN ?_
  refine al Mr wN Fz ?_
  intro vl vm aA vn aK kO
  refine sv (Dv ((f).1) cj ck cm cn co cp cq cr cs cu cv cw) wN BY kO ?_
  intro gx aL gQ vo
  have kP:=((kN.extk V).extk aK).ext aL (fun k hk=>by subst hk;exact nT (z12 c7 aC T S Y m l i r C x V) aA)
  refine aw (vs bd ((f).2.1).length be) ?_
  refine aw (vi ((f).2.2)) ?_
  refine n4 ?_
  refine lN (Dv ((f).1) cj ck cm cn co cp cq cr cs cu cv cw) wN Cv BY gQ ?_
  have gR:=(((((((((kJ.kp m).kp l).ch i (nN (nL (Blk.lt dr) (nT m.size cN)))).kp r).kp C).ch x (nN (nL (Blk.lt dr) (nT (z4 m l i r) bB)))).kp V).kp aK).ch aL (nN (nL (Blk.lt dr) (nT (z7 m l i r C x V) aA))))
  refine lN (Dv ((s_ChanOpen (l_toChan a) d (l_toFrame b)).1) fU fV fW fX fY fZ ga gb gd ge gf gg) wN Cv BY gR ?_
  have ew:=fun (E sz n:Nat) (v:Value) (j:List Value) (o:World.ownsRow du b0.heap.size E sz v n j) (B:World.ownsRow du b0.heap.size E sz v n j)=>(tC (gc o aK) aL (ne2 B (aA)))
  have gS:=(ew _ _ _ _ _ fj fj)
  have gT:=(ew _ _ _ _ _ fk fk)
  have gU:=(ew _ _ _ _ _ fl fl)
  have gV:=(ew _ _ _ _ _ fm fm)
  have gW:=(ew _ _ _ _ _ fo fo)
  have gX:=(ew _ _ _ _ _ fp fp)
  have ex:=fun (E sz n:Nat) (v:Value) (j:List Value) (o:World.ownsRow P aD.heap.size E sz v n j) (B:World.ownsRow P aD.heap.size E sz v n j)=>(tC (gc (gc (tC (gc (gc (tC (gc (gc o m) l) i (ne2 B (nT m.size cN))) r) C) x (ne2 B (nT (z4 m l i r) bB))) V) aK) aL (ne2 B (nT (z7 m l i r C x V) aA)))
  have gY:=(ex _ _ _ _ _ fu fu)
  have gZ:=(ex _ _ _ _ _ fv fv)
  have ha:=(ex _ _ _ _ _ fw fw)
  have hc:=(ex _ _ _ _ _ fx fx)
  have hd:=(ex _ _ _ _ _ fy fy)
  have hf:=(ex _ _ _ _ _ fz fz)
  obtain ⟨ey,M⟩:∃ y,l_eqChan ((f).1) ((s_ChanOpen (l_toChan a) d (l_toFrame b)).1)=y:=⟨_,rfl⟩
  have hh:=Iq gx _ ((f).1) (GX (Rd.of_own gS) eo (Rd.of_own gT) ep (Rd.of_own gU) er (Rd.of_own gV) es (Rd.of_own gW) et (Rd.of_own gX) eu) _ ((s_ChanOpen (l_toChan a) d (l_toFrame b)).1) (GX (Rd.of_own gY) gj (Rd.of_own gZ) gk (Rd.of_own ha) gl (Rd.of_own hc) gm (Rd.of_own hd) gn (Rd.of_own hf) gp)
  rw [M] at hh
  refine cl wN hh ?_
  rintro _ gy ⟨aH,rfl⟩
  have hi:=kP.extk aH
  refine pu (vb (!(ey))) wN ?_
  refine mw (vb (!(ey))) ?_
  rcases bf ey with q|q
  ·iterate 4 refine sk (cA not q) ?_
   refine pk (vb true) wN (cA not q) ?_
   refine mw (vb true) ?_
   iterate 3 refine sk (Eq.refl true) ?_
   refine pk (vb true) wN (Eq.refl true) ?_
   refine n2 ?_
   refine ct (Eq.refl true) ?_
   refine sr ?_
   refine aw (vb false) ?_
   refine n1 ?_
   refine rt (vb false) ?_
   refine ⟨hi.keep0,?_⟩
   have kQ:BV a d b=false:=by first|(simp only [BV,s,D,u,L,M,q,cond_true,cond_false,decide_true];done)|(exfalso;simp only [s,D,u,L] at M;rw [← M] at q;cases q)|(unfold BV;try rw [s];try rw [D];try rw [u];try rw [L];try rw [M];try rw [q];first|done|rfl)
   rw [kQ]
   exact rfl
  refine mv (vs bd ((f).2.1).length be) (wS (cA not q)) ?_
  refine mv (vs gh ((s_ChanOpen (l_toChan a) d (l_toFrame b)).2.1).length gi) (wS (cA not q)) ?_
  have kR:=fun (E sz n:Nat) (v:Value) (j:List Value) (o:World.ownsRow du b0.heap.size E sz v n j) (B:World.ownsRow du b0.heap.size E sz v n j)=>(gc (tC (gc o aK) aL (ne2 B (aA))) aH)
  have hj:=(kR _ _ _ _ _ fG fG)
  have kS:=fun (E sz n:Nat) (v:Value) (j:List Value) (o:World.ownsRow P aD.heap.size E sz v n j) (B:World.ownsRow P aD.heap.size E sz v n j)=>(gc (tC (gc (gc (tC (gc (gc (tC (gc (gc o m) l) i (ne2 B (nT m.size cN))) r) C) x (ne2 B (nT (z4 m l i r) bB))) V) aK) aL (ne2 B (nT (z7 m l i r C x V) aA))) aH)
  have hl:=(kS _ _ _ _ _ f0 f0)
  obtain ⟨dv,Q⟩:∃ y,eqB ((f).2.1) ((s_ChanOpen (l_toChan a) d (l_toFrame b)).2.1)=y:=⟨_,rfl⟩
  have hm:=Es gy _ ((f).2.1) (CC (Rd.of_own hj) fq) _ ((s_ChanOpen (l_toChan a) d (l_toFrame b)).2.1) (CC (Rd.of_own hl) gq)
  rw [Q] at hm
  refine cl (wS (cA not q)) hm ?_
  rintro _ hn ⟨aI,rfl⟩
  have fH:=hi.extk aI
  refine pu (vb (!(dv))) (wS (cA not q)) ?_
  refine pf (vb (!(dv))) wN (cA not q) ?_
  refine mw (vb (!(dv))) ?_
  rcases bf dv with A|A
  ·iterate 3 refine sk (cA not A) ?_
   refine pk (vb true) wN (cA not A) ?_
   refine n2 ?_
   refine ct (Eq.refl true) ?_
   refine sr ?_
   refine aw (vb false) ?_
   refine n1 ?_
   refine rt (vb false) ?_
   refine ⟨fH.keep0,?_⟩
   have kT:BV a d b=false:=by first|(simp only [BV,s,D,u,L,M,q,Q,A,cond_true,cond_false,decide_true];done)|(exfalso;simp only [s,D,u,L,M,q] at Q;rw [← Q] at A;cases A)|(unfold BV;try rw [s];try rw [D];try rw [u];try rw [L];try rw [M];try rw [q];try rw [Q];try rw [A];first|done|rfl)
   rw [kT]
   exact rfl
  refine mv (vi ((f).2.2)) (wS (cA not A)) ?_
  refine mv (vi ((s_ChanOpen (l_toChan a) d (l_toFrame b)).2.2)) (wS (cA not A)) ?_
  refine pu (vb (!(decide ((f).2.2=(s_ChanOpen (l_toChan a) d (l_toFrame b)).2.2)))) (wS (cA not A)) ?_
  refine pf (vb (!(decide ((f).2.2=(s_ChanOpen (l_toChan a) d (l_toFrame b)).2.2)))) wN (cA not A) ?_
  refine n2 ?_
  rcases bf (decide ((f).2.2=(s_ChanOpen (l_toChan a) d (l_toFrame b)).2.2)) with O|O
  ·have vq:=dF O
   refine ct (cA not O) ?_
   refine sr ?_
   refine aw (vb false) ?_
   refine n1 ?_
   refine rt (vb false) ?_
   refine ⟨fH.keep0,?_⟩
   have kU:BV a d b=false:=by first|(simp only [BV,s,D,u,L,M,q,Q,A,O,cond_true,cond_false,decide_true];done)|(unfold BV;try rw [s];try rw [D];try rw [u];try rw [L];try rw [M];try rw [q];try rw [Q];try rw [A];try rw [O];first|done|rfl)
   rw [kU]
   exact rfl
  have vr:=dT O
  refine cf (cA not O) ?_
  refine Ct<|re<|Cc<|Cc ?_
  refine CU ([(69,[],[],(fun _ v _=>v=(va (Dv (l_toChan a) dK dL dM dN dO dP dQ dR dS dU dV dW)))),(70,[],[],(fun _ v _=>v=(va (Dv a bH bI bJ bK bL bM bN bO bP bQ bR bS)))),(71,[],[1],(fun _ v w=>Rc w hn.heap.size v (l_toChan a)))]:GV) (fun _ aF=>Keep hn aF) [] DN rfl (by kernel_rfl) (by kernel_rfl) ?_ (fun _ _ h=>h) (fun _ _ _ _ h _ k=>h.trans k) trivial ?_ ?_ ?_
  ·exact ⟨hV,hE,⟨hV,hE,⟨(fun e v w bA h hk=>by obtain ⟨aa,ab,ac,ad,ae,af,ah,ai,aj,ak,am,an,he,ao,ap,aq,au,av,ax,ay,az,a0,a1,a2,a3,hap⟩:=h;exact ⟨aa,ab,ac,ad,ae,af,ah,ai,aj,ak,am,an,he,gc ao hk,ap,gc aq hk,au,gc av hk,ax,gc ay hk,az,gc a0 hk,a1,gc a2 hk,a3,hap⟩),hE,trivial⟩⟩⟩
  ·exact trivial
  ·refine ⟨?_,⟨?_,⟨?_,trivial⟩⟩⟩
   ·intro _ ez kV _
    rintro _ _ _
    refine sw ?_
    have kW:=((((((gw.kp V).kp aK).ch aL (nN (nL gs (nT (z5 i r C x V) aA)))).kp aH).kp aI).kp kV)
    refine lN (Dv (l_toChan a) dK dL dM dN dO dP dQ dR dS dU dV dW) wN Cv BY kW ?_
    exact f1
   ·intro _ ez kX _
    rintro _ _ _
    refine sw ?_
    have kY:=((((((((((((gr.kp m).kp l).ch i (nN (nL ci (nT (z5 aC T S Y m) cN)))).kp r).kp C).ch x (nN (nL ci (nT (z8 aC T S Y m l i r) bB)))).kp V).kp aK).ch aL (nN (nL ci (nT (z11 aC T S Y m l i r C x V) aA)))).kp aH).kp aI).kp kX)
    refine lN (Dv a bH bI bJ bK bL bM bN bO bP bQ bR bS) wN Hv GI kY ?_
    exact f1
   ·intro _ ez dw _
    have e0:=fH.extk dw
    rintro _ _ rfl _
    refine sw ?_
    refine cl wN (Ip ez _ a (OY (eL.from0 e0) (by omega) (eM.from0 e0) (by omega) (eN.from0 e0) (by omega) (eO.from0 e0) (by omega) (eP.from0 e0) (by omega) (eQ.from0 e0) (by omega))) ?_
    rintro _ gz ⟨kZ,⟨vt,vu,vv,vw,vx,vy,vz,v0,v1,v2,v3,v4,rfl,la,lb,lc,lf,lg,lh,li,lj,lk,ll,lm,lo,lp⟩⟩
    exact CN kZ ⟨_,_,_,_,_,_,_,_,_,_,_,_,rfl,(tB la dw.size),lb,(tB lc dw.size),lf,(tB lg dw.size),lh,(tB li dw.size),lj,(tB lk dw.size),ll,(tB lm dw.size),lo,lp⟩
  ·intro _ ez bg
   rintro _ rfl _ rfl _ ⟨v5,v6,v7,v9,vA,vB,vC,vD,vE,vF,vG,vH,rfl,lq,lr,ls,lu,lv,lw,lx,ly,lz,l0,l1,l2,vI⟩
   refine sw ?_
   have e1:=fun (E sz n:Nat) (v:Value) (j:List Value) (o:World.ownsRow b0 P.heap.size E sz v n j) (B:World.ownsRow c1 P.heap.size E sz v n j)=>(gc (gc (gc (tC (gc (gc o V) aK) aL (ne2 B (nT (z6 l i r C x V) aA))) aH) aI) bg)
   have ho:=(e1 _ _ _ _ _ gD eX)
   have hp:=(e1 _ _ _ _ _ gE eY)
   have hq:=(e1 _ _ _ _ _ gF eZ)
   have hr:=(e1 _ _ _ _ _ gG fa)
   have hs:=(e1 _ _ _ _ _ gH fb)
   have hu:=(e1 _ _ _ _ _ gI fc)
   obtain ⟨hv,Z⟩:∃ y,l_eqChan (l_toChan a) (l_toChan a)=y:=⟨_,rfl⟩
   have hw:=Iq ez _ (l_toChan a) (GX (Rd.of_own ho) f3 (Rd.of_own hp) f4 (Rd.of_own hq) f5 (Rd.of_own hr) f6 (Rd.of_own hs) f7 (Rd.of_own hu) f8) _ (l_toChan a) (GX (Rd.of_own lq) lr (Rd.of_own ls) lu (Rd.of_own lv) lw (Rd.of_own lx) ly (Rd.of_own lz) l0 (Rd.of_own l1) l2)
   rw [Z] at hw
   refine cl wN hw ?_
   rintro _ gz ⟨bh,rfl⟩
   have g0:=(fH.extk bg).extk bh
   refine pu (vb (!(hv))) wN ?_
   refine n2 ?_
   rcases bf hv with W|W
   ·refine ct (cA not W) ?_
    refine sr ?_
    refine aw (vb false) ?_
    refine n1 ?_
    refine rt (vb false) ?_
    refine ⟨g0.keep0,?_⟩
    have l3:BV a d b=false:=by first|(simp only [BV,s,D,u,L,M,q,Q,A,O,Z,W,cond_true,cond_false,decide_true];done)|(exfalso;simp only [s,D,u,L,M,q,Q,A,O] at Z;rw [← Z] at W;cases W)|(unfold BV;try rw [s];try rw [D];try rw [u];try rw [L];try rw [M];try rw [q];try rw [Q];try rw [A];try rw [O];try rw [Z];try rw [W];first|done|rfl)
    rw [l3]
    exact rfl
   refine cf (cA not W) ?_
   refine Ct<|re<|Cc<|Cc ?_
   refine CU ([(74,[],[],(fun _ v _=>v=(va (EB (l_toFrame b) dX dY dZ ea ec ed ee ef eg eh ej ek)))),(75,[],[],(fun _ v _=>v=(va (EB b bT bU bW bX bY bZ ca cb cc cd ce cg)))),(76,[],[1],(fun _ v w=>SM w gz.heap.size v (l_toFrame b)))]:GV) (fun _ aF=>Keep gz aF) [] DN rfl (by kernel_rfl) (by kernel_rfl) ?_ (fun _ _ h=>h) (fun _ _ _ _ h _ k=>h.trans k) trivial ?_ ?_ ?_
   ·exact ⟨hV,hE,⟨hV,hE,⟨(fun e v w bA h hk=>by obtain ⟨aa,ab,ac,ad,ae,af,ah,ai,aj,ak,am,an,he,ao,ap,aq,au,av,ax,ay,az,a0,a1,a2,a3,hap⟩:=h;exact ⟨aa,ab,ac,ad,ae,af,ah,ai,aj,ak,am,an,he,gc ao hk,ap,gc aq hk,au,gc av hk,ax,gc ay hk,az,gc a0 hk,a1,gc a2 hk,a3,hap⟩),hE,trivial⟩⟩⟩
   ·exact trivial
   ·refine ⟨?_,⟨?_,⟨?_,trivial⟩⟩⟩
    ·intro _ e2 l4 _
     rintro _ _ _
     refine sw ?_
     have l5:=((((((((gv.kp V).kp aK).ch aL (nN (nL gC (nT (z2 x V) aA)))).kp aH).kp aI).kp bg).kp bh).kp l4)
     refine lN (EB (l_toFrame b) dX dY dZ ea ec ed ee ef eg eh ej ek) wN Dn CV l5 ?_
     exact f1
    ·intro _ e2 l6 _
     rintro _ _ _
     refine sw ?_
     have l7:=(((((((((((gu.kp r).kp C).ch x (nN (nL cy (nT (z7 T S Y m l i r) bB)))).kp V).kp aK).ch aL (nN (nL cy (nT (z10 T S Y m l i r C x V) aA)))).kp aH).kp aI).kp bg).kp bh).kp l6)
     refine lN (EB b bT bU bW bX bY bZ ca cb cc cd ce cg) wN Hu GH l7 ?_
     exact f1
    ·intro _ e2 dx _
     have e3:=g0.extk dx
     rintro _ _ rfl _
     refine sw ?_
     refine cl wN (Hy e2 _ b (OX (eR.from0 e3) (by omega) (eS.from0 e3) (by omega) (eT.from0 e3) (by omega) (eU.from0 e3) (by omega) (eV.from0 e3) (by omega) (eW.from0 e3) (by omega))) ?_
     rintro _ hy ⟨l8,⟨vJ,vK,vL,vM,vN,vO,vP,vQ,vR,vS,vT,vU,rfl,l9,lA,lB,lC,lD,lE,lF,lG,lH,lI,lJ,lK,lL⟩⟩
     exact CN l8 ⟨_,_,_,_,_,_,_,_,_,_,_,_,rfl,(tB l9 dx.size),lA,(tB lB dx.size),lC,(tB lD dx.size),lE,(tB lF dx.size),lG,(tB lH dx.size),lI,(tB lJ dx.size),lK,lL⟩
   ·intro _ e2 b1
    rintro _ rfl _ rfl _ ⟨vV,vW,vX,vY,vZ,wa,wc,wd,we,wf,wg,wh,rfl,lM,lO,lP,lQ,lR,lS,lT,lU,lV,lW,lX,lY,wi⟩
    refine sw ?_
    have e4:=fun (E sz n:Nat) (v:Value) (j:List Value) (o:World.ownsRow b0 ds.heap.size E sz v n j) (B:World.ownsRow f9 ds.heap.size E sz v n j)=>(gc (gc (gc (gc (gc (tC (gc (gc o V) aK) aL (ne2 B (nT (z3 C x V) aA))) aH) aI) bg) bh) b1)
    have h0:=(e4 _ _ _ _ _ gJ fd)
    have h1:=(e4 _ _ _ _ _ gK fe)
    have h2:=(e4 _ _ _ _ _ gL ff)
    have h3:=(e4 _ _ _ _ _ gM fg)
    have h4:=(e4 _ _ _ _ _ gN fh)
    have h5:=(e4 _ _ _ _ _ gO fi)
    obtain ⟨h6,a6⟩:∃ y,l_eqFrame (l_toFrame b) (l_toFrame b)=y:=⟨_,rfl⟩
    have h7:=Oc e2 _ (l_toFrame b) (FC (Rd.of_own h0) fA (Rd.of_own h1) fB (Rd.of_own h2) fC (Rd.of_own h3) fD (Rd.of_own h4) fE (Rd.of_own h5) fF) _ (l_toFrame b) (FC (Rd.of_own lM) lO (Rd.of_own lP) lQ (Rd.of_own lR) lS (Rd.of_own lT) lU (Rd.of_own lV) lW (Rd.of_own lX) lY)
    rw [a6] at h7
    refine cl wN h7 ?_
    rintro _ hy ⟨b2,rfl⟩
    have h8:=(g0.extk b1).extk b2
    refine pu (vb (!(h6))) wN ?_
    refine n2 ?_
    rcases bf h6 with a4|a4
    ·refine ct (cA not a4) ?_
     refine sr ?_
     refine aw (vb false) ?_
     refine n1 ?_
     refine rt (vb false) ?_
     refine ⟨h8.keep0,?_⟩
     have lZ:BV a d b=false:=by first|(simp only [BV,s,D,u,L,M,q,Q,A,O,Z,W,a6,a4,cond_true,cond_false,decide_true];done)|(exfalso;simp only [s,D,u,L,M,q,Q,A,O,Z,W] at a6;rw [← a6] at a4;cases a4)|(unfold BV;try rw [s];try rw [D];try rw [u];try rw [L];try rw [M];try rw [q];try rw [Q];try rw [A];try rw [O];try rw [Z];try rw [W];try rw [a6];try rw [a4];first|done|rfl)
     rw [lZ]
     exact rfl
    refine cf (cA not a4) ?_
    refine y1 ?_
    refine aw (vi 1) ?_
    refine nx ?_
    have ma:=(((((((((gw.kp V).kp aK).ch aL (nN (nL gs (nT (z5 i r C x V) aA)))).kp aH).kp aI).kp bg).kp bh).kp b1).kp b2)
    refine lN (Dv (l_toChan a) dK dL dM dN dO dP dQ dR dS dU dV dW) wN Cv BY ma ?_
    refine mw (vi 1) ?_
    have e5:=fun (E sz n:Nat) (v:Value) (j:List Value) (o:World.ownsRow ez P.heap.size E sz v n j) (B:World.ownsRow c1 P.heap.size E sz v n j)=>(gc (gc (gc o bh) b1) b2)
    have h9:=(e5 _ _ _ _ _ ho eX)
    have hA:=(e5 _ _ _ _ _ hp eY)
    have hB:=(e5 _ _ _ _ _ hq eZ)
    have hC:=(e5 _ _ _ _ _ hr fa)
    have hD:=(e5 _ _ _ _ _ hs fb)
    have hF:=(e5 _ _ _ _ _ hu fc)
    refine cl wN (Jx hy dK dL dM dN dO dP dQ dR dS dU dV dW (l_toChan a) 1 (by omega) (by omega) f3 (Rd.of_own h9) (Wp.of h9) f4 (Rd.of_own hA) (Wp.of hA) f5 (Rd.of_own hB) (Wp.of hB) f6 (Rd.of_own hC) (Wp.of hC) f7 (Rd.of_own hD) (Wp.of hD) f8 (Rd.of_own hF) (Wp.of hF) ⟨⟨(bb.1.1),⟨(bb.1.2.1),⟨(bb.1.2.2.1),⟨(bb.1.2.2.2.1),⟨(bb.1.2.2.2.2.1),trivial⟩⟩⟩⟩⟩,⟨⟨(bb.2.1.1),⟨(bb.2.1.2.1),⟨(bb.2.1.2.2.1),⟨(bb.2.1.2.2.2.1),trivial⟩⟩⟩⟩,⟨⟨(bb.2.2.1.1),⟨(bb.2.2.1.2.1),⟨(bb.2.2.1.2.2.1),trivial⟩⟩⟩,⟨⟨(bb.2.2.2.1.1),⟨(bb.2.2.2.1.2.1),trivial⟩⟩,⟨⟨(bb.2.2.2.2.1.1),trivial⟩,⟨trivial,trivial⟩⟩⟩⟩⟩⟩) ?_
    rintro _ mb ⟨rfl,mc,wk,wl,wm,wn,wo,wp⟩
    have bF:=rg (Ek eX (Ek eY (Ek eZ (Ek fa (Ek fb (Ek fc LP)))))) mc
    have md:=h8.ext bF (fun k hk=>nT (z5 c7 aC T S Y) hk.1)
    have wq:=LU f3 f4 f5 f6 f7 f8
    refine aw (vi (1+tot_PChan (l_toChan a))) ?_
    refine nx ?_
    have me:=((((((((((gv.kp V).kp aK).ch aL (nN (nL gC (nT (z2 x V) aA)))).kp aH).kp aI).kp bg).kp bh).kp b1).kp b2).ch bF (rn2 (nT (z3 l i r) bB)))
    refine lN (EB (l_toFrame b) dX dY dZ ea ec ed ee ef eg eh ej ek) wN Dn CV me ?_
    refine mw (vi (1+tot_PChan (l_toChan a))) ?_
    have e6:=fun (E sz n:Nat) (v:Value) (j:List Value) (o:World.ownsRow e2 ds.heap.size E sz v n j) (B:World.ownsRow f9 ds.heap.size E sz v n j)=>(tC (gc o b2) bF (nr2 B (z2 l i)))
    have hG:=(e6 _ _ _ _ _ h0 fd)
    have hH:=(e6 _ _ _ _ _ h1 fe)
    have hI:=(e6 _ _ _ _ _ h2 ff)
    have hJ:=(e6 _ _ _ _ _ h3 fg)
    have hK:=(e6 _ _ _ _ _ h4 fh)
    have hL:=(e6 _ _ _ _ _ h5 fi)
    refine cl wN (Lx mb dX dY dZ ea ec ed ee ef eg eh ej ek (l_toFrame b) (1+tot_PChan (l_toChan a)) (by omega) (by omega) fA (Rd.of_own hG) (Wp.of hG) fB (Rd.of_own hH) (Wp.of hH) fC (Rd.of_own hI) (Wp.of hI) fD (Rd.of_own hJ) (Wp.of hJ) fE (Rd.of_own hK) (Wp.of hK) fF (Rd.of_own hL) (Wp.of hL) ⟨⟨(bc.1.1),⟨(bc.1.2.1),⟨(bc.1.2.2.1),⟨(bc.1.2.2.2.1),⟨(bc.1.2.2.2.2.1),trivial⟩⟩⟩⟩⟩,⟨⟨(bc.2.1.1),⟨(bc.2.1.2.1),⟨(bc.2.1.2.2.1),⟨(bc.2.1.2.2.2.1),trivial⟩⟩⟩⟩,⟨⟨(bc.2.2.1.1),⟨(bc.2.2.1.2.1),⟨(bc.2.2.1.2.2.1),trivial⟩⟩⟩,⟨⟨(bc.2.2.2.1.1),⟨(bc.2.2.2.1.2.1),trivial⟩⟩,⟨⟨(bc.2.2.2.2.1.1),trivial⟩,⟨trivial,trivial⟩⟩⟩⟩⟩⟩) ?_
    rintro _ g1 ⟨rfl,mf,ws,wt,wu,wv,ww,wx⟩
    have c2:=rg (Ek fd (Ek fe (Ek ff (Ek fg (Ek fh (Ek fi LP)))))) mf
    have hM:=md.ext c2 (fun k hk=>nT (z8 c7 aC T S Y m l i) hk.1)
    have wy:=OW fA fB fC fD fE fF
    refine aw (vi ((1+tot_PChan (l_toChan a))+DL (l_toFrame b))) ?_
    refine n4 ?_
    refine mw (vi ((1+tot_PChan (l_toChan a))+DL (l_toFrame b))) ?_
    refine pu (vb (decide (((1+tot_PChan (l_toChan a))+DL (l_toFrame b)) < 0))) wN ?_
    refine mw (vb (decide (((1+tot_PChan (l_toChan a))+DL (l_toFrame b)) < 0))) ?_
    rcases bt (decide (((1+tot_PChan (l_toChan a))+DL (l_toFrame b)) < 0)) with X|X
    ·have wz:=dT X
     iterate 4 refine sk X ?_
     refine pk (vb true) wN X ?_
     refine mw (vb true) ?_
     iterate 4 refine sk (Eq.refl true) ?_
     refine pk (vb true) wN (Eq.refl true) ?_
     refine mw (vb true) ?_
     iterate 3 refine sk (Eq.refl true) ?_
     refine pk (vb true) wN (Eq.refl true) ?_
     refine n2 ?_
     refine ct (Eq.refl true) ?_
     refine sr ?_
     refine aw (vb false) ?_
     refine n1 ?_
     refine rt (vb false) ?_
     refine ⟨hM.keep0,?_⟩
     have mg:BV a d b=false:=by first|(simp only [BV,s,D,u,L,M,q,Q,A,O,Z,W,a6,a4,X,cond_true,cond_false,decide_true];done)|(unfold BV;try rw [s];try rw [D];try rw [u];try rw [L];try rw [M];try rw [q];try rw [Q];try rw [A];try rw [O];try rw [Z];try rw [W];try rw [a6];try rw [a4];try rw [X];first|done|rfl)
     rw [mg]
     exact rfl
    have w0:=dF X
    have hN:=((((((((gQ.kp aH).kp aI).kp bg).kp bh).kp b1).kp b2).ch bF (rn2 (nT (z6 l i r C x V) aA))).ch c2 (rn2 (nT (z3 C x V) aA)))
    refine lN (Dv ((f).1) cj ck cm cn co cp cq cr cs cu cv cw) (wS X) Cv BY hN ?_
    have hO:=((((((((gR.kp aH).kp aI).kp bg).kp bh).kp b1).kp b2).ch bF (rn1 (nL (Blk.lt dr) (Nat.le_refl P.heap.size)))).ch c2 (rn1 (nL (Blk.lt dr) (z3 m l i))))
    refine lN (Dv ((s_ChanOpen (l_toChan a) d (l_toFrame b)).1) fU fV fW fX fY fZ ga gb gd ge gf gg) (wS X) Cv BY hO ?_
    have e7:=fun (E sz n:Nat) (v:Value) (j:List Value) (o:World.ownsRow gx b0.heap.size E sz v n j) (B:World.ownsRow du b0.heap.size E sz v n j)=>(tC (tC (gc (gc (gc (gc (gc (gc o aH) aI) bg) bh) b1) b2) bF (nr2 B (z5 l i r C x))) c2 (nr2 B (z2 C x)))
    have hP:=(e7 _ _ _ _ _ gS fj)
    have hQ:=(e7 _ _ _ _ _ gT fk)
    have hR:=(e7 _ _ _ _ _ gU fl)
    have hS:=(e7 _ _ _ _ _ gV fm)
    have hT:=(e7 _ _ _ _ _ gW fo)
    have hU:=(e7 _ _ _ _ _ gX fp)
    have e8:=fun (E sz n:Nat) (v:Value) (j:List Value) (o:World.ownsRow gx aD.heap.size E sz v n j) (B:World.ownsRow P aD.heap.size E sz v n j)=>(tC (tC (gc (gc (gc (gc (gc (gc o aH) aI) bg) bh) b1) b2) bF (nr1 B (Nat.le_refl P.heap.size))) c2 (nr1 B (z3 m l i)))
    have hW:=(e8 _ _ _ _ _ gY fu)
    have hX:=(e8 _ _ _ _ _ gZ fv)
    have hY:=(e8 _ _ _ _ _ ha fw)
    have hZ:=(e8 _ _ _ _ _ hc fx)
    have ia:=(e8 _ _ _ _ _ hd fy)
    have ib:=(e8 _ _ _ _ _ hf fz)
    have ic:=Iq g1 _ ((f).1) (GX (Rd.of_own hP) eo (Rd.of_own hQ) ep (Rd.of_own hR) er (Rd.of_own hS) es (Rd.of_own hT) et (Rd.of_own hU) eu) _ ((s_ChanOpen (l_toChan a) d (l_toFrame b)).1) (GX (Rd.of_own hW) gj (Rd.of_own hX) gk (Rd.of_own hY) gl (Rd.of_own hZ) gm (Rd.of_own ia) gn (Rd.of_own ib) gp)
    rw [M] at ic
    refine cl (wS X) ic ?_
    rintro _ ie ⟨c3,rfl⟩
    refine pu (vb (!(ey))) (wS X) ?_
    refine pf (vb (!(ey))) wN X ?_
    refine mw (vb (!(ey))) ?_
    refine mv (vs bd ((f).2.1).length be) (wS (cA not q)) ?_
    refine mv (vs gh ((s_ChanOpen (l_toChan a) d (l_toFrame b)).2.1).length gi) (wS (cA not q)) ?_
    have mh:=fun (E sz n:Nat) (v:Value) (j:List Value) (o:World.ownsRow gy b0.heap.size E sz v n j) (B:World.ownsRow du b0.heap.size E sz v n j)=>(gc (tC (tC (gc (gc (gc (gc (gc o aI) bg) bh) b1) b2) bF (nr2 B (z5 l i r C x))) c2 (nr2 B (z2 C x))) c3)
    have g2:=(mh _ _ _ _ _ hj fG)
    have mi:=fun (E sz n:Nat) (v:Value) (j:List Value) (o:World.ownsRow gy aD.heap.size E sz v n j) (B:World.ownsRow P aD.heap.size E sz v n j)=>(gc (tC (tC (gc (gc (gc (gc (gc o aI) bg) bh) b1) b2) bF (nr1 B (Nat.le_refl P.heap.size))) c2 (nr1 B (z3 m l i))) c3)
    have ig:=(mi _ _ _ _ _ hl f0)
    have ih:=Es ie _ ((f).2.1) (CC (Rd.of_own g2) fq) _ ((s_ChanOpen (l_toChan a) d (l_toFrame b)).2.1) (CC (Rd.of_own ig) gq)
    rw [Q] at ih
    refine cl (wS (cA not q)) ih ?_
    rintro _ ii ⟨cx,rfl⟩
    refine pu (vb (!(dv))) (wS (cA not q)) ?_
    refine pf (vb (!(dv))) wN (cA not q) ?_
    refine mw (vb (!(dv))) ?_
    refine mv (vi ((f).2.2)) (wS (cA not A)) ?_
    refine mv (vi ((s_ChanOpen (l_toChan a) d (l_toFrame b)).2.2)) (wS (cA not A)) ?_
    refine pu (vb (!(decide ((f).2.2=(s_ChanOpen (l_toChan a) d (l_toFrame b)).2.2)))) (wS (cA not A)) ?_
    refine pf (vb (!(decide ((f).2.2=(s_ChanOpen (l_toChan a) d (l_toFrame b)).2.2)))) wN (cA not A) ?_
    refine n2 ?_
    refine cf (cA not O) ?_
    refine y1 ?_
    refine aw (vi 1) ?_
    refine nx ?_
    have ij:=((hN.kp c3).kp cx)
    refine lN (Dv ((f).1) cj ck cm cn co cp cq cr cs cu cv cw) wN Cv BY ij ?_
    refine mw (vi 1) ?_
    have e9:=fun (E sz n:Nat) (v:Value) (j:List Value) (o:World.ownsRow g1 b0.heap.size E sz v n j) (B:World.ownsRow du b0.heap.size E sz v n j)=>(gc (gc o c3) cx)
    have fI:=(e9 _ _ _ _ _ hP fj)
    have fJ:=(e9 _ _ _ _ _ hQ fk)
    have fK:=(e9 _ _ _ _ _ hR fl)
    have fL:=(e9 _ _ _ _ _ hS fm)
    have fM:=(e9 _ _ _ _ _ hT fo)
    have fN:=(e9 _ _ _ _ _ hU fp)
    refine cl wN (Jx ii cj ck cm cn co cp cq cr cs cu cv cw ((f).1) 1 (by omega) (by omega) eo (Rd.of_own fI) (Wp.of fI) ep (Rd.of_own fJ) (Wp.of fJ) er (Rd.of_own fK) (Wp.of fK) es (Rd.of_own fL) (Wp.of fL) et (Rd.of_own fM) (Wp.of fM) eu (Rd.of_own fN) (Wp.of fN) ⟨⟨(R.1.1),⟨(R.1.2.1),⟨(R.1.2.2.1),⟨(R.1.2.2.2.1),⟨(R.1.2.2.2.2.1),trivial⟩⟩⟩⟩⟩,⟨⟨(R.2.1.1),⟨(R.2.1.2.1),⟨(R.2.1.2.2.1),⟨(R.2.1.2.2.2.1),trivial⟩⟩⟩⟩,⟨⟨(R.2.2.1.1),⟨(R.2.2.1.2.1),⟨(R.2.2.1.2.2.1),trivial⟩⟩⟩,⟨⟨(R.2.2.2.1.1),⟨(R.2.2.2.1.2.1),trivial⟩⟩,⟨⟨(R.2.2.2.2.1.1),trivial⟩,⟨trivial,trivial⟩⟩⟩⟩⟩⟩) ?_
    rintro _ fO ⟨rfl,ik,mj,ml,mm,mn,mo,mp⟩
    have dy:=rg (Ek fj (Ek fk (Ek fl (Ek fm (Ek fo (Ek fp LP)))))) ik
    have mq:=((hM.extk c3).extk cx).ext dy (fun k hk=>nT (z11 c7 aC T S Y m l i r C x) hk.1)
    have il:Ch (MS (([(cj,(((f).1).Sn).length,ck),(cm,((((f).1).Cur).Key).length,cn),(co,(((((f).1).Cur).Win).Bits).length,cp),(cq,((((f).1).Old).Key).length,cr),(cs,(((((f).1).Old).Win).Bits).length,cu),(cv,(((f).1).Next).length,cw)]:List (Option Addr×Nat×Nat)).map fun p=>(p.1,p.2.1))) ii fO:=ik
    have w1:=LU eo ep er es et eu
    refine aw (vi (1+tot_PChan ((f).1))) ?_
    refine nx ?_
    refine mw (vs bd ((f).2.1).length be) ?_
    refine mw (vi (1+tot_PChan ((f).1))) ?_
    have cO:=(Rd.mz ((Rd.of_own g2).kp cx) il (Cf (Cg (Rd.of_own fI)) (R.1.2.2.2.2.2.1) (Cf (Cg (Rd.of_own fJ)) (R.2.1.2.2.2.2.1) (Cf (Cg (Rd.of_own fK)) (R.2.2.1.2.2.2.1) (Cf (Cg (Rd.of_own fL)) (R.2.2.2.1.2.2.1) (Cf (Cg (Rd.of_own fM)) (R.2.2.2.2.1.2.1) (Cf (Cg (Rd.of_own fN)) (R.2.2.2.2.2.1.1) CH)))))))
    have mr:Wp fO 5 bd ((f).2.1).length be _ 1:=(Wp.mz (Wp.kp (Wp.of g2) cx) (Cg cO) il (Cf (Cg (Rd.of_own fI)) (R.1.2.2.2.2.2.1) (Cf (Cg (Rd.of_own fJ)) (R.2.1.2.2.2.2.1) (Cf (Cg (Rd.of_own fK)) (R.2.2.1.2.2.2.1) (Cf (Cg (Rd.of_own fL)) (R.2.2.2.1.2.2.1) (Cf (Cg (Rd.of_own fM)) (R.2.2.2.2.1.2.1) (Cf (Cg (Rd.of_own fN)) (R.2.2.2.2.2.1.1) CH)))))))
    refine cl wN (Ed fO bd be ((f).2.1) (1+tot_PChan ((f).1)) (by omega) (by omega) fq cO mr) ?_
    rintro _ im ⟨rfl,io,mt⟩
    have dz:=rg (Ek fG LP) io
    have mu:=mq.ext dz (fun k hk=>nT (z11 c7 aC T S Y m l i r C x) hk.1)
    have eA:Ch (MS (([(bd,((f).2.1).length,be)]:List (Option Addr×Nat×Nat)).map fun p=>(p.1,p.2.1))) fO im:=io
    refine aw (vi ((1+tot_PChan ((f).1))+(((f).2.1).length:Int))) ?_
    refine nx ?_
    refine aw (vi 1) ?_
    refine nx ?_
    have ip:=((ij.ch dy (rn2 (aA))).ch dz (rn2 (aA)))
    refine lN [(vi (((f).1).Role)),(vs cj (((f).1).Sn).length ck),(vi ((((f).1).Cur).N)),(vs cm ((((f).1).Cur).Key).length cn),(vi ((((f).1).Cur).Seq)),(vi (((((f).1).Cur).Win).Top)),(vs co (((((f).1).Cur).Win).Bits).length cp),(vi ((((f).1).Old).N)),(vs cq ((((f).1).Old).Key).length cr),(vi ((((f).1).Old).Seq)),(vi (((((f).1).Old).Win).Top)),(vs cs (((((f).1).Old).Win).Bits).length cu),(vb (((f).1).HasOld)),(vi (((f).1).Until)),(vs cv (((f).1).Next).length cw)] wN Cv BY ip ?_
    refine mw (vi 1) ?_
    have iq:=(Rd.mz mj eA (Cf (Cg cO) (R.1.2.2.2.2.2.1).symm CH))
    have ir:=(Rd.mz ml eA (Cf (Cg cO) (R.2.1.2.2.2.2.1).symm CH))
    have it:=(Rd.mz mm eA (Cf (Cg cO) (R.2.2.1.2.2.2.1).symm CH))
    have iu:=(Rd.mz mn eA (Cf (Cg cO) (R.2.2.2.1.2.2.1).symm CH))
    have iv:=(Rd.mz mo eA (Cf (Cg cO) (R.2.2.2.2.1.2.1).symm CH))
    have iw:=(Rd.mz mp eA (Cf (Cg cO) (R.2.2.2.2.2.1.1).symm CH))
    obtain ⟨bk,a8⟩:∃ y,l_heldChan (mk_PChan ((f).1) 1) 1=y:=⟨_,rfl⟩
    have iy:=Jy im _ _ (PQ iq eo ir ep it er iu es iv et iw eu) 1 (by omega) (by omega)
    rw [a8] at iy
    refine cl wN iy ?_
    rintro _ iz ⟨bl,rfl⟩
    have i0:=mu.extk bl
    have mx:=GD  ((f).1) 1 1
    try rw [a8] at mx
    refine aw (vi (bk)) ?_
    refine n4 ?_
    refine mw (vi (bk)) ?_
    refine pu (vb (decide ((bk) < 0))) wN ?_
    refine n2 ?_
    rcases bt (decide ((bk) < 0)) with a7|a7
    ·have w2:=dT a7
     refine ct a7 ?_
     refine sr ?_
     refine aw (vb false) ?_
     refine n1 ?_
     refine rt (vb false) ?_
     refine ⟨i0.keep0,?_⟩
     have my:BV a d b=false:=by first|(simp only [BV,s,D,u,L,M,q,Q,A,O,Z,W,a6,a4,X,a8,a7,cond_true,cond_false,decide_true];done)|(exfalso;simp only [s,D,u,L,M,q,Q,A,O,Z,W,a6,a4,X] at a8;rw [← a8] at a7;cases a7)|(unfold BV;try rw [s];try rw [D];try rw [u];try rw [L];try rw [M];try rw [q];try rw [Q];try rw [A];try rw [O];try rw [Z];try rw [W];try rw [a6];try rw [a4];try rw [X];try rw [a8];try rw [a7];first|done|rfl)
     rw [my]
     exact rfl
    have w3:=dF a7
    refine cf a7 ?_
    refine y1 ?_
    refine mw (vs bd ((f).2.1).length be) ?_
    refine mw (vi (bk)) ?_
    have i1:=(mt.kp bl)
    obtain ⟨bC,aB⟩:∃ y,heldB (marksB (1+tot_PChan ((f).1)) ((f).2.1).length) (bk)=y:=⟨_,rfl⟩
    have i2:=Ga iz _ _ (show EP iz (vs bd ((f).2.1).length be) (marksB (1+tot_PChan ((f).1)) ((f).2.1).length) from ⟨bd,be,by simp only [Cq,Cu,Fk,EX],by simpa only [Cq,Cu,Fk,EX] using i1,by simp only [Cq,Cu,Fk,EX];first|exact fq|omega⟩) (bk) (by omega) (by omega)
    rw [aB] at i2
    refine cl wN i2 ?_
    rintro _ d0 ⟨bm,rfl⟩
    have fr:=i0.extk bm
    have m0:=FJ (marksB (1+tot_PChan ((f).1)) ((f).2.1).length) (bk)
    try rw [aB] at m0
    refine aw (vi (bC)) ?_
    refine n4 ?_
    refine mw (vi (bC)) ?_
    refine pu (vb (decide ((bC) < 0))) wN ?_
    refine n2 ?_
    rcases bt (decide ((bC) < 0)) with a9|a9
    ·have w4:=dT a9
     refine ct a9 ?_
     refine sr ?_
     refine aw (vb false) ?_
     refine n1 ?_
     refine rt (vb false) ?_
     refine ⟨fr.keep0,?_⟩
     have m1:BV a d b=false:=by first|(simp only [BV,s,D,u,L,M,q,Q,A,O,Z,W,a6,a4,X,a8,a7,aB,a9,cond_true,cond_false,decide_true];done)|(exfalso;simp only [s,D,u,L,M,q,Q,A,O,Z,W,a6,a4,X,a8,a7] at aB;rw [← aB] at a9;cases a9)|(unfold BV;try rw [s];try rw [D];try rw [u];try rw [L];try rw [M];try rw [q];try rw [Q];try rw [A];try rw [O];try rw [Z];try rw [W];try rw [a6];try rw [a4];try rw [X];try rw [a8];try rw [a7];try rw [aB];try rw [a9];first|done|rfl)
     rw [m1]
     exact rfl
    have w5:=dF a9
    refine cf a9 ?_
    refine y2 ?_
    refine mw (vi (bC)) ?_
    refine mw (vi ((1+tot_PChan ((f).1))+(((f).2.1).length:Int))) ?_
    refine pu (vb (!(decide ((bC)=((1+tot_PChan ((f).1))+(((f).2.1).length:Int)))))) wN ?_
    refine n2 ?_
    rcases bf (decide ((bC)=((1+tot_PChan ((f).1))+(((f).2.1).length:Int)))) with aG|aG
    ·have w6:=dF aG
     refine ct (cA not aG) ?_
     refine sr ?_
     refine aw (vb false) ?_
     refine n1 ?_
     refine rt (vb false) ?_
     refine ⟨fr.keep0,?_⟩
     have m2:BV a d b=false:=by first|(simp only [BV,s,D,u,L,M,q,Q,A,O,Z,W,a6,a4,X,a8,a7,aB,a9,aG,cond_true,cond_false,decide_true];done)|(unfold BV;try rw [s];try rw [D];try rw [u];try rw [L];try rw [M];try rw [q];try rw [Q];try rw [A];try rw [O];try rw [Z];try rw [W];try rw [a6];try rw [a4];try rw [X];try rw [a8];try rw [a7];try rw [aB];try rw [a9];try rw [aG];first|done|rfl)
     rw [m2]
     exact rfl
    have w7:=dT aG
    refine cf (cA not aG) ?_
    refine Ct<|re<|Cc ?_
    refine CU ([(124,[],[],(fun _ v _=>v=(va (Dv a bH bI bJ bK bL bM bN bO bP bQ bR bS)))),(125,[],[0],(fun _ v w=>Rc w d0.heap.size v (l_toChan a))),(126,[],[],(fun _ v _=>v=(vi d))),(127,[],[],(fun _ v _=>v=(va (EB b bT bU bW bX bY bZ ca cb cc cd ce cg)))),(128,[125],[0,1,3],(fun e v w=>RS w d0.heap.size v (l_toFrame b) (fun F G H I J K=>Ap (sp (wr (e 125) 1)) F∧Ap (sp (wr (e 125) 1)) G∧Ap (sp (wr (e 125) 1)) H∧Ap (sp (wr (e 125) 1)) I∧Ap (sp (wr (e 125) 1)) J∧Ap (sp (wr (e 125) 1)) K∧Ap (sp (wr (e 125) 3)) F∧Ap (sp (wr (e 125) 3)) G∧Ap (sp (wr (e 125) 3)) H∧Ap (sp (wr (e 125) 3)) I∧Ap (sp (wr (e 125) 3)) J∧Ap (sp (wr (e 125) 3)) K∧Ap (sp (wr (e 125) 6)) F∧Ap (sp (wr (e 125) 6)) G∧Ap (sp (wr (e 125) 6)) H∧Ap (sp (wr (e 125) 6)) I∧Ap (sp (wr (e 125) 6)) J∧Ap (sp (wr (e 125) 6)) K∧Ap (sp (wr (e 125) 8)) F∧Ap (sp (wr (e 125) 8)) G∧Ap (sp (wr (e 125) 8)) H∧Ap (sp (wr (e 125) 8)) I∧Ap (sp (wr (e 125) 8)) J∧Ap (sp (wr (e 125) 8)) K∧Ap (sp (wr (e 125) 11)) F∧Ap (sp (wr (e 125) 11)) G∧Ap (sp (wr (e 125) 11)) H∧Ap (sp (wr (e 125) 11)) I∧Ap (sp (wr (e 125) 11)) J∧Ap (sp (wr (e 125) 11)) K∧Ap (sp (wr (e 125) 14)) F∧Ap (sp (wr (e 125) 14)) G∧Ap (sp (wr (e 125) 14)) H∧Ap (sp (wr (e 125) 14)) I∧Ap (sp (wr (e 125) 14)) J∧Ap (sp (wr (e 125) 14)) K))),(129,[125,128],[0,1,2,3,4],(fun e v w=>JD w d0.heap.size v (i_ChanOpen (l_toChan a) d (l_toFrame b)) (fun F G H I J K a5=>Ap (sp (wr (e 125) 1)) F∧Ap (sp (wr (e 125) 1)) G∧Ap (sp (wr (e 125) 1)) H∧Ap (sp (wr (e 125) 1)) I∧Ap (sp (wr (e 125) 1)) J∧Ap (sp (wr (e 125) 1)) K∧Ap (sp (wr (e 125) 1)) a5∧Ap (sp (wr (e 125) 3)) F∧Ap (sp (wr (e 125) 3)) G∧Ap (sp (wr (e 125) 3)) H∧Ap (sp (wr (e 125) 3)) I∧Ap (sp (wr (e 125) 3)) J∧Ap (sp (wr (e 125) 3)) K∧Ap (sp (wr (e 125) 3)) a5∧Ap (sp (wr (e 125) 6)) F∧Ap (sp (wr (e 125) 6)) G∧Ap (sp (wr (e 125) 6)) H∧Ap (sp (wr (e 125) 6)) I∧Ap (sp (wr (e 125) 6)) J∧Ap (sp (wr (e 125) 6)) K∧Ap (sp (wr (e 125) 6)) a5∧Ap (sp (wr (e 125) 8)) F∧Ap (sp (wr (e 125) 8)) G∧Ap (sp (wr (e 125) 8)) H∧Ap (sp (wr (e 125) 8)) I∧Ap (sp (wr (e 125) 8)) J∧Ap (sp (wr (e 125) 8)) K∧Ap (sp (wr (e 125) 8)) a5∧Ap (sp (wr (e 125) 11)) F∧Ap (sp (wr (e 125) 11)) G∧Ap (sp (wr (e 125) 11)) H∧Ap (sp (wr (e 125) 11)) I∧Ap (sp (wr (e 125) 11)) J∧Ap (sp (wr (e 125) 11)) K∧Ap (sp (wr (e 125) 11)) a5∧Ap (sp (wr (e 125) 14)) F∧Ap (sp (wr (e 125) 14)) G∧Ap (sp (wr (e 125) 14)) H∧Ap (sp (wr (e 125) 14)) I∧Ap (sp (wr (e 125) 14)) J∧Ap (sp (wr (e 125) 14)) K∧Ap (sp (wr (e 125) 14)) a5∧Ap (sp (wr (e 128) 2)) F∧Ap (sp (wr (e 128) 2)) G∧Ap (sp (wr (e 128) 2)) H∧Ap (sp (wr (e 128) 2)) I∧Ap (sp (wr (e 128) 2)) J∧Ap (sp (wr (e 128) 2)) K∧Ap (sp (wr (e 128) 2)) a5∧Ap (sp (wr (e 128) 3)) F∧Ap (sp (wr (e 128) 3)) G∧Ap (sp (wr (e 128) 3)) H∧Ap (sp (wr (e 128) 3)) I∧Ap (sp (wr (e 128) 3)) J∧Ap (sp (wr (e 128) 3)) K∧Ap (sp (wr (e 128) 3)) a5∧Ap (sp (wr (e 128) 5)) F∧Ap (sp (wr (e 128) 5)) G∧Ap (sp (wr (e 128) 5)) H∧Ap (sp (wr (e 128) 5)) I∧Ap (sp (wr (e 128) 5)) J∧Ap (sp (wr (e 128) 5)) K∧Ap (sp (wr (e 128) 5)) a5∧Ap (sp (wr (e 128) 6)) F∧Ap (sp (wr (e 128) 6)) G∧Ap (sp (wr (e 128) 6)) H∧Ap (sp (wr (e 128) 6)) I∧Ap (sp (wr (e 128) 6)) J∧Ap (sp (wr (e 128) 6)) K∧Ap (sp (wr (e 128) 6)) a5∧Ap (sp (wr (e 128) 9)) F∧Ap (sp (wr (e 128) 9)) G∧Ap (sp (wr (e 128) 9)) H∧Ap (sp (wr (e 128) 9)) I∧Ap (sp (wr (e 128) 9)) J∧Ap (sp (wr (e 128) 9)) K∧Ap (sp (wr (e 128) 9)) a5∧Ap (sp (wr (e 128) 10)) F∧Ap (sp (wr (e 128) 10)) G∧Ap (sp (wr (e 128) 10)) H∧Ap (sp (wr (e 128) 10)) I∧Ap (sp (wr (e 128) 10)) J∧Ap (sp (wr (e 128) 10)) K∧Ap (sp (wr (e 128) 10)) a5))),(123,[129],[0,1,2,3,4,5],(fun e v _=>v=(.tuple #[(.agg #[(vi (((i_ChanOpen (l_toChan a) d (l_toFrame b)).1).Role)),(wr (DA (e 129) 0) 1),(vi ((((i_ChanOpen (l_toChan a) d (l_toFrame b)).1).Cur).N)),(wr (DA (e 129) 0) 3),(vi ((((i_ChanOpen (l_toChan a) d (l_toFrame b)).1).Cur).Seq)),(vi (((((i_ChanOpen (l_toChan a) d (l_toFrame b)).1).Cur).Win).Top)),(wr (DA (e 129) 0) 6),(vi ((((i_ChanOpen (l_toChan a) d (l_toFrame b)).1).Old).N)),(wr (DA (e 129) 0) 8),(vi ((((i_ChanOpen (l_toChan a) d (l_toFrame b)).1).Old).Seq)),(vi (((((i_ChanOpen (l_toChan a) d (l_toFrame b)).1).Old).Win).Top)),(wr (DA (e 129) 0) 11),(vb (((i_ChanOpen (l_toChan a) d (l_toFrame b)).1).HasOld)),(vi (((i_ChanOpen (l_toChan a) d (l_toFrame b)).1).Until)),(wr (DA (e 129) 0) 14)]),(DA (e 129) 1),(vi ((i_ChanOpen (l_toChan a) d (l_toFrame b)).2.2))]))),(130,[129],[0,1,2,3,4,5,6],(fun e v _=>v=(.agg #[(vi (((i_ChanOpen (l_toChan a) d (l_toFrame b)).1).Role)),(wr (DA (e 129) 0) 1),(vi ((((i_ChanOpen (l_toChan a) d (l_toFrame b)).1).Cur).N)),(wr (DA (e 129) 0) 3),(vi ((((i_ChanOpen (l_toChan a) d (l_toFrame b)).1).Cur).Seq)),(vi (((((i_ChanOpen (l_toChan a) d (l_toFrame b)).1).Cur).Win).Top)),(wr (DA (e 129) 0) 6),(vi ((((i_ChanOpen (l_toChan a) d (l_toFrame b)).1).Old).N)),(wr (DA (e 129) 0) 8),(vi ((((i_ChanOpen (l_toChan a) d (l_toFrame b)).1).Old).Seq)),(vi (((((i_ChanOpen (l_toChan a) d (l_toFrame b)).1).Old).Win).Top)),(wr (DA (e 129) 0) 11),(vb (((i_ChanOpen (l_toChan a) d (l_toFrame b)).1).HasOld)),(vi (((i_ChanOpen (l_toChan a) d (l_toFrame b)).1).Until)),(wr (DA (e 129) 0) 14)]))),(131,[129],[0,1,2,3,4,5,6],(fun e v _=>v=(DA (e 129) 1))),(132,[],[0,1,2,3,4,5,6],(fun _ v _=>v=(vi ((i_ChanOpen (l_toChan a) d (l_toFrame b)).2.2)))),(19,[],[],(fun _ v w=>∃ (g:Nat) (aM aN aO aP aQ aR aS aT aU aV aW aX aY aZ ba:Value),v=vp g 0∧d0.heap.size≤g∧Blk w g 38 [aM,aN,aO,aP,aQ,aR,aS,aT,aU,aV,aW,aX,aY,aZ,ba])),(172,[19,129],[0,1,2,3,4,5,6,7,10],(fun e _ w=>∃ g:Nat,e 19=vp g 0∧d0.heap.size≤g∧Blk w g 38 [(vi (((i_ChanOpen (l_toChan a) d (l_toFrame b)).1).Role)),(wr (DA (e 129) 0) 1),(vi ((((i_ChanOpen (l_toChan a) d (l_toFrame b)).1).Cur).N)),(wr (DA (e 129) 0) 3),(vi ((((i_ChanOpen (l_toChan a) d (l_toFrame b)).1).Cur).Seq)),(vi (((((i_ChanOpen (l_toChan a) d (l_toFrame b)).1).Cur).Win).Top)),(wr (DA (e 129) 0) 6),(vi ((((i_ChanOpen (l_toChan a) d (l_toFrame b)).1).Old).N)),(wr (DA (e 129) 0) 8),(vi ((((i_ChanOpen (l_toChan a) d (l_toFrame b)).1).Old).Seq)),(vi (((((i_ChanOpen (l_toChan a) d (l_toFrame b)).1).Old).Win).Top)),(wr (DA (e 129) 0) 11),(vb (((i_ChanOpen (l_toChan a) d (l_toFrame b)).1).HasOld)),(vi (((i_ChanOpen (l_toChan a) d (l_toFrame b)).1).Until)),(wr (DA (e 129) 0) 14)])),(20,[129],[0,1,2,3,4,5,6,7,8,10,11],(fun e v _=>v=(DA (e 129) 1)))]:GV) (fun _ aF=>Keep d0 aF) [(11,fun w aF=>∃ g:Nat,d0.heap.size≤g∧(∃ aM aN aO aP aQ aR aS aT aU aV aW aX aY aZ ba:Value,Blk w g 38 [aM,aN,aO,aP,aQ,aR,aS,aT,aU,aV,aW,aX,aY,aZ,ba])∧Ch (fun k=>k=g) w aF∧∃ aM aN aO aP aQ aR aS aT aU aV aW aX aY aZ ba:Value,Blk aF g 38 [aM,aN,aO,aP,aQ,aR,aS,aT,aU,aV,aW,aX,aY,aZ,ba])] DN rfl (by kernel_rfl) (by kernel_rfl) ?_ (fun _ _ h=>h) (fun _ _ _ _ h _ k=>h.trans k) ⟨(fun _ _ w aF h _ _ t=>by obtain ⟨g,hle,-,fS,-⟩:=t;exact h.new fS (fun k hk=>by have iZ:k=g:=hk;omega)),trivial⟩ ?_ ?_ ?_
    ·exact ⟨hV,hE,⟨(fun e v w bA h hk=>by obtain ⟨aa,ab,ac,ad,ae,af,ah,ai,aj,ak,am,an,he,ao,ap,aq,au,av,ax,ay,az,a0,a1,a2,a3,hap⟩:=h;exact ⟨aa,ab,ac,ad,ae,af,ah,ai,aj,ak,am,an,he,gc ao hk,ap,gc aq hk,au,gc av hk,ax,gc ay hk,az,gc a0 hk,a1,gc a2 hk,a3,hap⟩),hE,⟨hV,hE,⟨hV,hE,⟨(fun e v w bA h hk=>by obtain ⟨aa,ab,ac,ad,ae,af,ah,ai,aj,ak,am,an,he,ao,ap,aq,au,av,ax,ay,az,a0,a1,a2,a3,hap,hx⟩:=h;exact ⟨aa,ab,ac,ad,ae,af,ah,ai,aj,ak,am,an,he,gc ao hk,ap,gc aq hk,au,gc av hk,ax,gc ay hk,az,gc a0 hk,a1,gc a2 hk,a3,hap,hx⟩),(fun bn bo v w hx h=>by have g3:=hx 125 (by simp);simp only [g3] at h;exact h),⟨(fun e v w bA h hk=>by obtain ⟨aa,ab,ac,ad,ae,af,ah,ai,aj,ak,am,an,dc,dd,he,ao,ap,aq,au,av,ax,ay,az,a0,a1,a2,a3,de,df,hap,hx⟩:=h;exact ⟨aa,ab,ac,ad,ae,af,ah,ai,aj,ak,am,an,dc,dd,he,gc ao hk,ap,gc aq hk,au,gc av hk,ax,gc ay hk,az,gc a0 hk,a1,gc a2 hk,a3,gc de hk,df,hap,hx⟩),(fun bn bo v w hx h=>by have g3:=hx 125 (by simp);have m3:=hx 128 (by simp);simp only [g3,m3] at h;exact h),⟨hV,(fun bn bo v w hx h=>by have c4:=hx 129 (by simp);simp only [c4] at h;exact h),⟨hV,(fun bn bo v w hx h=>by have c4:=hx 129 (by simp);simp only [c4] at h;exact h),⟨hV,(fun bn bo v w hx h=>by have c4:=hx 129 (by simp);simp only [c4] at h;exact h),⟨hV,hE,⟨(fun e v w bA h hk=>by obtain ⟨g,aM,aN,aO,aP,aQ,aR,aS,aT,aU,aV,aW,aX,aY,aZ,ba,he,hle,hb⟩:=h;exact ⟨g,_,_,_,_,_,_,_,_,_,_,_,_,_,_,_,he,hle,hb.kp hk⟩),hE,⟨(fun e v w bA h hk=>by obtain ⟨g,he,hle,hb⟩:=h;exact ⟨g,he,hle,hb.kp hk⟩),(fun bn bo v w hx h=>by have m4:=hx 19 (by simp);have c4:=hx 129 (by simp);simp only [m4,c4] at h;exact h),⟨hV,(fun bn bo v w hx h=>by have c4:=hx 129 (by simp);simp only [c4] at h;exact h),trivial⟩⟩⟩⟩⟩⟩⟩⟩⟩⟩⟩⟩⟩
    ·exact ⟨⟨.inr hV,⟨.inr (fun e v wX wY h ht=>by obtain ⟨aa,ab,ac,ad,ae,af,ah,ai,aj,ak,am,an,he,ao,ap,aq,au,av,ax,ay,az,a0,a1,a2,a3,hap⟩:=h;obtain ⟨gt,hlt,⟨_,_,_,_,_,_,_,_,_,_,_,_,_,_,_,hbt⟩,hct,⟨_,_,_,_,_,_,_,_,_,_,_,_,_,_,_,c0⟩⟩:=ht;exact ⟨aa,ab,ac,ad,ae,af,ah,ai,aj,ak,am,an,he,Dc ao hbt (by decide) hct,ap,Dc aq hbt (by decide) hct,au,Dc av hbt (by decide) hct,ax,Dc ay hbt (by decide) hct,az,Dc a0 hbt (by decide) hct,a1,Dc a2 hbt (by decide) hct,a3,hap⟩),⟨.inr hV,⟨.inr hV,⟨.inr (fun e v wX wY h ht=>by obtain ⟨aa,ab,ac,ad,ae,af,ah,ai,aj,ak,am,an,he,ao,ap,aq,au,av,ax,ay,az,a0,a1,a2,a3,hap,hx⟩:=h;obtain ⟨gt,hlt,⟨_,_,_,_,_,_,_,_,_,_,_,_,_,_,_,hbt⟩,hct,⟨_,_,_,_,_,_,_,_,_,_,_,_,_,_,_,c0⟩⟩:=ht;exact ⟨aa,ab,ac,ad,ae,af,ah,ai,aj,ak,am,an,he,Dc ao hbt (by decide) hct,ap,Dc aq hbt (by decide) hct,au,Dc av hbt (by decide) hct,ax,Dc ay hbt (by decide) hct,az,Dc a0 hbt (by decide) hct,a1,Dc a2 hbt (by decide) hct,a3,hap,hx⟩),⟨.inr (fun e v wX wY h ht=>by obtain ⟨aa,ab,ac,ad,ae,af,ah,ai,aj,ak,am,an,dc,dd,he,ao,ap,aq,au,av,ax,ay,az,a0,a1,a2,a3,de,df,hap,hx⟩:=h;obtain ⟨gt,hlt,⟨_,_,_,_,_,_,_,_,_,_,_,_,_,_,_,hbt⟩,hct,⟨_,_,_,_,_,_,_,_,_,_,_,_,_,_,_,c0⟩⟩:=ht;exact ⟨aa,ab,ac,ad,ae,af,ah,ai,aj,ak,am,an,dc,dd,he,Dc ao hbt (by decide) hct,ap,Dc aq hbt (by decide) hct,au,Dc av hbt (by decide) hct,ax,Dc ay hbt (by decide) hct,az,Dc a0 hbt (by decide) hct,a1,Dc a2 hbt (by decide) hct,a3,Dc de hbt (by decide) hct,df,hap,hx⟩),⟨.inr hV,⟨.inr hV,⟨.inr hV,⟨.inr hV,⟨.inr (fun e v wX wY h ht=>by obtain ⟨g,aM,aN,aO,aP,aQ,aR,aS,aT,aU,aV,aW,aX,aY,aZ,ba,he,hle,hb⟩:=h;obtain ⟨gt,hlt,⟨_,_,_,_,_,_,_,_,_,_,_,_,_,_,_,hbt⟩,hct,⟨_,_,_,_,_,_,_,_,_,_,_,_,_,_,_,c0⟩⟩:=ht;by_cases hg:g=gt;(· subst hg;exact ⟨g,_,_,_,_,_,_,_,_,_,_,_,_,_,_,_,he,hle,c0⟩);(· exact ⟨g,_,_,_,_,_,_,_,_,_,_,_,_,_,_,_,he,hle,hb.ch hct hg⟩)),⟨.inl rfl,⟨.inr hV,trivial⟩⟩⟩⟩⟩⟩⟩⟩⟩⟩⟩⟩⟩,trivial⟩
    ·refine ⟨?_,⟨?_,⟨?_,⟨?_,⟨?_,⟨?_,⟨?_,⟨?_,⟨?_,⟨?_,⟨?_,⟨?_,⟨?_,trivial⟩⟩⟩⟩⟩⟩⟩⟩⟩⟩⟩⟩⟩
     ·intro _ aJ m5 _
      rintro _ _ _ _ _ _ _ _ _ _ _ _ _
      refine sw ?_
      have m6:=((((((((((((((((((((((((gr.kp m).kp l).ch i (nN (nL ci (nT (z5 aC T S Y m) cN)))).kp r).kp C).ch x (nN (nL ci (nT (z8 aC T S Y m l i r) bB)))).kp V).kp aK).ch aL (nN (nL ci (nT (z11 aC T S Y m l i r C x V) aA)))).kp aH).kp aI).kp bg).kp bh).kp b1).kp b2).ch bF (rn1 (nL ci (z4 aC T S Y)))).ch c2 (rn1 (nL ci (z7 aC T S Y m l i)))).kp c3).kp cx).ch dy (rn1 (nL ci (z10 aC T S Y m l i r C x)))).ch dz (rn1 (nL ci (z10 aC T S Y m l i r C x)))).kp bl).kp bm).kp m5)
      refine lN (Dv a bH bI bJ bK bL bM bN bO bP bQ bR bS) wN Hv GI m6 ?_
      exact f1
     ·intro _ aJ d1 _
      have eB:=fr.extk d1
      rintro _ rfl _ _ _ _ _ _ _ _ _ _ _ _
      refine sw ?_
      refine cl wN (Ip aJ _ a (OY (eL.from0 eB) (by omega) (eM.from0 eB) (by omega) (eN.from0 eB) (by omega) (eO.from0 eB) (by omega) (eP.from0 eB) (by omega) (eQ.from0 eB) (by omega))) ?_
      rintro _ eC ⟨m7,⟨w8,w9,wA,wB,wC,wD,wE,wF,wG,wH,wI,wJ,rfl,m8,m9,mA,mB,mC,mD,mE,mF,mG,mH,mI,mJ,mK⟩⟩
      exact CN m7 ⟨_,_,_,_,_,_,_,_,_,_,_,_,rfl,(tB m8 d1.size),m9,(tB mA d1.size),mB,(tB mC d1.size),mD,(tB mE d1.size),mF,(tB mG d1.size),mH,(tB mI d1.size),mJ,mK⟩
     ·intro _ aJ wK _
      rintro _ _ _ _ _ _ _ _ _ _ _ _ _
      refine sw ?_
      refine mw (vi d) ?_
      exact f1
     ·intro _ aJ mL _
      rintro _ _ _ _ _ _ _ _ _ _ _ _ _
      refine sw ?_
      have mM:=(((((((((((((((((((((gu.kp r).kp C).ch x (nN (nL cy (nT (z7 T S Y m l i r) bB)))).kp V).kp aK).ch aL (nN (nL cy (nT (z10 T S Y m l i r C x V) aA)))).kp aH).kp aI).kp bg).kp bh).kp b1).kp b2).ch bF (rn1 (nL cy (z3 T S Y)))).ch c2 (rn1 (nL cy (z6 T S Y m l i)))).kp c3).kp cx).ch dy (rn1 (nL cy (z9 T S Y m l i r C x)))).ch dz (rn1 (nL cy (z9 T S Y m l i r C x)))).kp bl).kp bm).kp mL)
      refine lN (EB b bT bU bW bX bY bZ ca cb cc cd ce cg) wN Hu GH mM ?_
      exact f1
     ·intro _ aJ d2 _
      have eD:=fr.extk d2
      rintro _ rfl _ ⟨wL,wM,wO,wP,wQ,wR,wT,wU,wV,wW,wZ,xa,rfl,eE,xb,eF,xc,eG,xd,eH,xe,eI,xf,eJ,_⟩ _ _ rfl _ _ _ _ _ _ _ _ _
      refine sw ?_
      refine cl wN (Hy aJ _ b (OX (eR.from0 eD) (by omega) (eS.from0 eD) (by omega) (eT.from0 eD) (by omega) (eU.from0 eD) (by omega) (eV.from0 eD) (by omega) (eW.from0 eD) (by omega))) ?_
      rintro _ eC ⟨mN,⟨xg,xh,xi,xj,xk,xl,xm,xn,xo,xp,xq,xr,rfl,d3,mO,d4,mP,d5,mQ,d6,mR,d7,mS,d8,mT,mU⟩⟩
      exact CN mN ⟨_,_,_,_,_,_,_,_,_,_,_,_,rfl,(tB d3 d2.size),mO,(tB d4 d2.size),mP,(tB d5 d2.size),mQ,(tB d6 d2.size),mR,(tB d7 d2.size),mS,(tB d8 d2.size),mT,mU,⟨(Ap.lt eE d3 (Nat.le_refl _)),(Ap.lt eE d4 (Nat.le_refl _)),(Ap.lt eE d5 (Nat.le_refl _)),(Ap.lt eE d6 (Nat.le_refl _)),(Ap.lt eE d7 (Nat.le_refl _)),(Ap.lt eE d8 (Nat.le_refl _)),(Ap.lt eF d3 (Nat.le_refl _)),(Ap.lt eF d4 (Nat.le_refl _)),(Ap.lt eF d5 (Nat.le_refl _)),(Ap.lt eF d6 (Nat.le_refl _)),(Ap.lt eF d7 (Nat.le_refl _)),(Ap.lt eF d8 (Nat.le_refl _)),(Ap.lt eG d3 (Nat.le_refl _)),(Ap.lt eG d4 (Nat.le_refl _)),(Ap.lt eG d5 (Nat.le_refl _)),(Ap.lt eG d6 (Nat.le_refl _)),(Ap.lt eG d7 (Nat.le_refl _)),(Ap.lt eG d8 (Nat.le_refl _)),(Ap.lt eH d3 (Nat.le_refl _)),(Ap.lt eH d4 (Nat.le_refl _)),(Ap.lt eH d5 (Nat.le_refl _)),(Ap.lt eH d6 (Nat.le_refl _)),(Ap.lt eH d7 (Nat.le_refl _)),(Ap.lt eH d8 (Nat.le_refl _)),(Ap.lt eI d3 (Nat.le_refl _)),(Ap.lt eI d4 (Nat.le_refl _)),(Ap.lt eI d5 (Nat.le_refl _)),(Ap.lt eI d6 (Nat.le_refl _)),(Ap.lt eI d7 (Nat.le_refl _)),(Ap.lt eI d8 (Nat.le_refl _)),(Ap.lt eJ d3 (Nat.le_refl _)),(Ap.lt eJ d4 (Nat.le_refl _)),(Ap.lt eJ d5 (Nat.le_refl _)),(Ap.lt eJ d6 (Nat.le_refl _)),(Ap.lt eJ d7 (Nat.le_refl _)),(Ap.lt eJ d8 (Nat.le_refl _))⟩⟩
     ·intro _ aJ d9 _
      rintro _ rfl _ ⟨xs,xt,xu,xv,xw,xx,xy,xz,x0,x1,x2,x3,rfl,cP,mV,cQ,mW,cR,mX,cS,mY,cT,mZ,cU,na,x4⟩ _ rfl _ rfl _ ⟨x5,x6,x7,x8,x9,xA,xB,xC,xD,xE,xF,xG,rfl,cV,nb,cW,nc,cX,nd,cY,nf,cZ,ng,da,nh,_⟩ _ _ _ _ _ _ _ _
      refine sw ?_
      refine cl wN (JA aJ _ (l_toChan a) (GX (Rd.of_own cP) mV (Rd.of_own cQ) mW (Rd.of_own cR) mX (Rd.of_own cS) mY (Rd.of_own cT) mZ (Rd.of_own cU) na) d _ (l_toFrame b) (FC (Rd.of_own cV) nb (Rd.of_own cW) nc (Rd.of_own cX) nd (Rd.of_own cY) nf (Rd.of_own cZ) ng (Rd.of_own da) nh)) ?_
      rintro _ eC ⟨ni,⟨xH,xI,xJ,xK,xL,xM,xN,xO,xP,xQ,xR,xS,xT,xU,rfl,b3,nj,b4,nk,b5,nm,b6,np,b7,nq,b8,ns,b9,nt,nu⟩⟩
      exact CN ni ⟨_,_,_,_,_,_,_,_,_,_,_,_,_,_,rfl,(tB b3 d9.size),nj,(tB b4 d9.size),nk,(tB b5 d9.size),nm,(tB b6 d9.size),np,(tB b7 d9.size),nq,(tB b8 d9.size),ns,(tB b9 d9.size),nt,nu,⟨(Ap.lt cP b3 (Nat.le_refl _)),(Ap.lt cP b4 (Nat.le_refl _)),(Ap.lt cP b5 (Nat.le_refl _)),(Ap.lt cP b6 (Nat.le_refl _)),(Ap.lt cP b7 (Nat.le_refl _)),(Ap.lt cP b8 (Nat.le_refl _)),(Ap.lt cP b9 (Nat.le_refl _)),(Ap.lt cQ b3 (Nat.le_refl _)),(Ap.lt cQ b4 (Nat.le_refl _)),(Ap.lt cQ b5 (Nat.le_refl _)),(Ap.lt cQ b6 (Nat.le_refl _)),(Ap.lt cQ b7 (Nat.le_refl _)),(Ap.lt cQ b8 (Nat.le_refl _)),(Ap.lt cQ b9 (Nat.le_refl _)),(Ap.lt cR b3 (Nat.le_refl _)),(Ap.lt cR b4 (Nat.le_refl _)),(Ap.lt cR b5 (Nat.le_refl _)),(Ap.lt cR b6 (Nat.le_refl _)),(Ap.lt cR b7 (Nat.le_refl _)),(Ap.lt cR b8 (Nat.le_refl _)),(Ap.lt cR b9 (Nat.le_refl _)),(Ap.lt cS b3 (Nat.le_refl _)),(Ap.lt cS b4 (Nat.le_refl _)),(Ap.lt cS b5 (Nat.le_refl _)),(Ap.lt cS b6 (Nat.le_refl _)),(Ap.lt cS b7 (Nat.le_refl _)),(Ap.lt cS b8 (Nat.le_refl _)),(Ap.lt cS b9 (Nat.le_refl _)),(Ap.lt cT b3 (Nat.le_refl _)),(Ap.lt cT b4 (Nat.le_refl _)),(Ap.lt cT b5 (Nat.le_refl _)),(Ap.lt cT b6 (Nat.le_refl _)),(Ap.lt cT b7 (Nat.le_refl _)),(Ap.lt cT b8 (Nat.le_refl _)),(Ap.lt cT b9 (Nat.le_refl _)),(Ap.lt cU b3 (Nat.le_refl _)),(Ap.lt cU b4 (Nat.le_refl _)),(Ap.lt cU b5 (Nat.le_refl _)),(Ap.lt cU b6 (Nat.le_refl _)),(Ap.lt cU b7 (Nat.le_refl _)),(Ap.lt cU b8 (Nat.le_refl _)),(Ap.lt cU b9 (Nat.le_refl _)),(Ap.lt cV b3 (Nat.le_refl _)),(Ap.lt cV b4 (Nat.le_refl _)),(Ap.lt cV b5 (Nat.le_refl _)),(Ap.lt cV b6 (Nat.le_refl _)),(Ap.lt cV b7 (Nat.le_refl _)),(Ap.lt cV b8 (Nat.le_refl _)),(Ap.lt cV b9 (Nat.le_refl _)),(Ap.lt cW b3 (Nat.le_refl _)),(Ap.lt cW b4 (Nat.le_refl _)),(Ap.lt cW b5 (Nat.le_refl _)),(Ap.lt cW b6 (Nat.le_refl _)),(Ap.lt cW b7 (Nat.le_refl _)),(Ap.lt cW b8 (Nat.le_refl _)),(Ap.lt cW b9 (Nat.le_refl _)),(Ap.lt cX b3 (Nat.le_refl _)),(Ap.lt cX b4 (Nat.le_refl _)),(Ap.lt cX b5 (Nat.le_refl _)),(Ap.lt cX b6 (Nat.le_refl _)),(Ap.lt cX b7 (Nat.le_refl _)),(Ap.lt cX b8 (Nat.le_refl _)),(Ap.lt cX b9 (Nat.le_refl _)),(Ap.lt cY b3 (Nat.le_refl _)),(Ap.lt cY b4 (Nat.le_refl _)),(Ap.lt cY b5 (Nat.le_refl _)),(Ap.lt cY b6 (Nat.le_refl _)),(Ap.lt cY b7 (Nat.le_refl _)),(Ap.lt cY b8 (Nat.le_refl _)),(Ap.lt cY b9 (Nat.le_refl _)),(Ap.lt cZ b3 (Nat.le_refl _)),(Ap.lt cZ b4 (Nat.le_refl _)),(Ap.lt cZ b5 (Nat.le_refl _)),(Ap.lt cZ b6 (Nat.le_refl _)),(Ap.lt cZ b7 (Nat.le_refl _)),(Ap.lt cZ b8 (Nat.le_refl _)),(Ap.lt cZ b9 (Nat.le_refl _)),(Ap.lt da b3 (Nat.le_refl _)),(Ap.lt da b4 (Nat.le_refl _)),(Ap.lt da b5 (Nat.le_refl _)),(Ap.lt da b6 (Nat.le_refl _)),(Ap.lt da b7 (Nat.le_refl _)),(Ap.lt da b8 (Nat.le_refl _)),(Ap.lt da b9 (Nat.le_refl _))⟩⟩
     ·intro _ aJ xV _
      rintro _ rfl _ ⟨xW,xX,xY,xZ,ya,yb,yc,yd,ye,yf,yg,yh,rfl,_⟩ _ rfl _ rfl _ ⟨yi,yj,yk,yl,ym,yn,yo,yp,yq,yr,ys,yt,rfl,_⟩ _ ⟨nv,nw,ny,nz,n0,n5,n6,n7,n8,n9,nA,nB,nC,nD,rfl,_⟩ _ _ _ _ _ _ _
      refine sw ?_
      refine mw (.tuple #[(va (Dv ((i_ChanOpen (l_toChan a) d (l_toFrame b)).1) nv nw ny nz n0 n5 n6 n7 n8 n9 nA nB)),(vs nC ((i_ChanOpen (l_toChan a) d (l_toFrame b)).2.1).length nD),(vi ((i_ChanOpen (l_toChan a) d (l_toFrame b)).2.2))]) ?_
      exact f1
     ·intro _ aJ yu _
      rintro _ rfl _ ⟨yv,yw,yx,yy,yz,y0,y3,y4,y5,y6,y7,y8,rfl,_⟩ _ rfl _ rfl _ ⟨y9,yA,yB,yC,yD,yE,yF,yG,yH,yI,yJ,yK,rfl,_⟩ _ ⟨nE,nF,nG,nH,nI,nJ,nK,nM,nO,nP,nQ,nR,yL,yM,rfl,_⟩ _ rfl _ _ _ _ _ _
      refine sw ?_
      refine pu (va (Dv ((i_ChanOpen (l_toChan a) d (l_toFrame b)).1) nE nF nG nH nI nJ nK nM nO nP nQ nR)) wN ?_
      exact f1
     ·intro _ aJ yN _
      rintro _ rfl _ ⟨yO,yP,yQ,yR,yS,yT,yU,yV,yW,yX,yY,yZ,rfl,_⟩ _ rfl _ rfl _ ⟨za,zb,zc,zd,ze,zf,zg,zh,zi,zj,zk,zl,rfl,_⟩ _ ⟨zm,zn,zo,zp,zq,zr,zs,zt,zu,zv,zw,zx,nS,nU,rfl,_⟩ _ rfl _ _ _ _ _ _
      refine sw ?_
      refine pu (vs nS ((i_ChanOpen (l_toChan a) d (l_toFrame b)).2.1).length nU) wN ?_
      exact f1
     ·intro _ aJ zy _
      rintro _ rfl _ ⟨zz,z0,z1,zA,zB,zC,zD,zE,zF,zG,zH,zI,rfl,_⟩ _ rfl _ rfl _ ⟨zJ,zK,zL,zM,zN,zO,zP,zQ,zR,zS,zT,zU,rfl,_⟩ _ ⟨zV,zW,zX,zY,zZ,Aa,Ab,Ac,Ad,Ae,Af,Ag,Ah,Ai,rfl,_⟩ _ rfl _ _ _ _ _ _
      refine sw ?_
      refine pu (vi ((i_ChanOpen (l_toChan a) d (l_toFrame b)).2.2)) wN ?_
      exact f1
     ·intro _ aJ nV _
      rintro _ _ _ _ _ _ _ _ _ _ _ _ _
      refine sw ?_
      refine al Mr wN Fz ?_
      intro Aj eC nW Ak nX nY
      exact CN nX ⟨_,_,_,_,_,_,_,_,_,_,_,_,_,_,_,_,rfl,(nT nV.size nW),nY⟩
     ·intro _ aJ Al _
      rintro _ rfl _ ⟨Am,An,Ao,Aq,Ar,As,At,Au,Av,Aw,Ax,Ay,rfl,_⟩ _ rfl _ rfl _ ⟨Az,A0,A1,A2,A3,A4,A5,A6,A7,A8,A9,AA,rfl,_⟩ _ ⟨nZ,oa,ob,oc,od,oe,og,oh,oi,oj,ol,om,AB,AC,rfl,_⟩ _ rfl _ rfl _ _ _ oo
      obtain ⟨AD,AE,rfl,i3,i4⟩:=JB oo
      rintro _ _
      refine sw ?_
      refine sv (Dv ((i_ChanOpen (l_toChan a) d (l_toFrame b)).1) nZ oa ob oc od oe og oh oi oj ol om) wN BY i4 ?_
      intro eC oq i5 AF
      exact JI (by decide) ⟨_,i3,⟨_,_,_,_,_,_,_,_,_,_,_,_,_,_,_,i4⟩,oq,⟨_,_,_,_,_,_,_,_,_,_,_,_,_,_,_,i5⟩⟩ ⟨_,rfl,i3,i5⟩
     ·intro _ aJ AG _
      rintro _ rfl _ ⟨AH,AI,AJ,AK,AL,AM,AN,AO,AP,AQ,AR,AS,rfl,_⟩ _ rfl _ rfl _ ⟨AT,AU,AV,AW,AX,AY,AZ,Ba,Bb,Bc,Bd,Be,rfl,_⟩ _ ⟨Bf,Bg,Bh,Bi,Bj,Bk,Bl,Bm,Bn,Bo,Bp,Bq,os,ot,rfl,_⟩ _ rfl _ rfl _ rfl _ _ ou
      obtain ⟨Br,Bs,rfl,Bt,Bu⟩:=JB ou
      rintro _ ⟨ox,oy,-,Bv⟩
      have hz:=Ji oy
      subst ox
      intro _
      refine sw ?_
      refine aw (vs os ((i_ChanOpen (l_toChan a) d (l_toFrame b)).2.1).length ot) ?_
      exact f1
    ·intro _ aJ bD
     rintro _ rfl _ ⟨Bw,Bx,By,Bz,B0,B1,B2,B3,B4,B5,B6,B7,rfl,_⟩ _ rfl _ rfl _ ⟨B8,B9,BA,BB,BC,BD,BE,BF,BG,BH,BI,BJ,rfl,_⟩ _ ⟨oz,o0,o1,o2,o3,o4,o5,o6,o7,o8,o9,oA,oB,oC,rfl,oD,oE,oF,oG,oH,oI,oJ,oK,oL,oM,oN,oO,oP,oQ,_⟩ _ rfl _ rfl _ rfl _ rfl _ oR
     obtain ⟨BL,BM,rfl,BN,BO⟩:=JB oR
     rintro _ ⟨oS,oT,-,oU⟩
     have hz:=Ji oT
     subst oS
     rintro _ rfl
     refine sw ?_
     refine aw (vi ((i_ChanOpen (l_toChan a) d (l_toFrame b)).2.2)) ?_
     refine n4 ?_
     refine lN (Dv ((i_ChanOpen (l_toChan a) d (l_toFrame b)).1) oz o0 o1 o2 o3 o4 o5 o6 o7 o8 o9 oA) wN Cv BY oU ?_
     have oV:=(((((((hO.kp c3).kp cx).ch dy (rn1 (nL (Blk.lt dr) (z6 m l i r C x)))).ch dz (rn1 (nL (Blk.lt dr) (z6 m l i r C x)))).kp bl).kp bm).kp bD)
     refine lN (Dv ((s_ChanOpen (l_toChan a) d (l_toFrame b)).1) fU fV fW fX fY fZ ga gb gd ge gf gg) wN Cv BY oV ?_
     have eK:=fun (E sz n:Nat) (v:Value) (j:List Value) (o:World.ownsRow g1 aD.heap.size E sz v n j) (B:World.ownsRow P aD.heap.size E sz v n j)=>(gc (gc (gc (tC (tC (gc (gc o c3) cx) dy (nr1 B (z6 m l i r C x))) dz (nr1 B (z6 m l i r C x))) bl) bm) bD)
     have oW:=(eK _ _ _ _ _ hW fu)
     have oX:=(eK _ _ _ _ _ hX fv)
     have oY:=(eK _ _ _ _ _ hY fw)
     have oZ:=(eK _ _ _ _ _ hZ fx)
     have pa:=(eK _ _ _ _ _ ia fy)
     have pb:=(eK _ _ _ _ _ ib fz)
     obtain ⟨g4,bE⟩:∃ y,l_eqChan ((i_ChanOpen (l_toChan a) d (l_toFrame b)).1) ((s_ChanOpen (l_toChan a) d (l_toFrame b)).1)=y:=⟨_,rfl⟩
     have i6:=Iq aJ _ ((i_ChanOpen (l_toChan a) d (l_toFrame b)).1) (GX (Rd.of_own oD) oE (Rd.of_own oF) oG (Rd.of_own oH) oI (Rd.of_own oJ) oK (Rd.of_own oL) oM (Rd.of_own oN) oO) _ ((s_ChanOpen (l_toChan a) d (l_toFrame b)).1) (GX (Rd.of_own oW) gj (Rd.of_own oX) gk (Rd.of_own oY) gl (Rd.of_own oZ) gm (Rd.of_own pa) gn (Rd.of_own pb) gp)
     rw [bE] at i6
     refine cl wN i6 ?_
     rintro _ eC ⟨bG,rfl⟩
     have i7:=(fr.extk bD).extk bG
     refine pu (vb (!(g4))) wN ?_
     refine mw (vb (!(g4))) ?_
     rcases bf g4 with aE|aE
     ·iterate 4 refine sk (cA not aE) ?_
      refine pk (vb true) wN (cA not aE) ?_
      refine mw (vb true) ?_
      iterate 3 refine sk (Eq.refl true) ?_
      refine pk (vb true) wN (Eq.refl true) ?_
      refine n2 ?_
      refine ct (Eq.refl true) ?_
      refine sr ?_
      refine aw (vb false) ?_
      refine n1 ?_
      refine rt (vb false) ?_
      refine ⟨i7.keep0,?_⟩
      have pc:BV a d b=false:=by first|(simp only [BV,s,D,u,L,M,q,Q,A,O,Z,W,a6,a4,X,a8,a7,aB,a9,aG,bE,aE,cond_true,cond_false,decide_true];done)|(exfalso;simp only [s,D,u,L,M,q,Q,A,O,Z,W,a6,a4,X,a8,a7,aB,a9,aG] at bE;rw [← bE] at aE;cases aE)|(unfold BV;try rw [s];try rw [D];try rw [u];try rw [L];try rw [M];try rw [q];try rw [Q];try rw [A];try rw [O];try rw [Z];try rw [W];try rw [a6];try rw [a4];try rw [X];try rw [a8];try rw [a7];try rw [aB];try rw [a9];try rw [aG];try rw [bE];try rw [aE];first|done|rfl)
      rw [pc]
      exact rfl
     refine mv (vs oB ((i_ChanOpen (l_toChan a) d (l_toFrame b)).2.1).length oC) (wS (cA not aE)) ?_
     refine mv (vs gh ((s_ChanOpen (l_toChan a) d (l_toFrame b)).2.1).length gi) (wS (cA not aE)) ?_
     have pd:=(gc oP bG)
     have pe:=fun (E sz n:Nat) (v:Value) (j:List Value) (o:World.ownsRow ie aD.heap.size E sz v n j) (B:World.ownsRow P aD.heap.size E sz v n j)=>(gc (gc (gc (gc (tC (tC (gc o cx) dy (nr1 B (z6 m l i r C x))) dz (nr1 B (z6 m l i r C x))) bl) bm) bD) bG)
     have pg:=(pe _ _ _ _ _ ig f0)
     obtain ⟨fP,c5⟩:∃ y,eqB ((i_ChanOpen (l_toChan a) d (l_toFrame b)).2.1) ((s_ChanOpen (l_toChan a) d (l_toFrame b)).2.1)=y:=⟨_,rfl⟩
     have i8:=Es eC _ ((i_ChanOpen (l_toChan a) d (l_toFrame b)).2.1) (CC (Rd.of_own pd) oQ) _ ((s_ChanOpen (l_toChan a) d (l_toFrame b)).2.1) (CC (Rd.of_own pg) gq)
     rw [c5] at i8
     refine cl (wS (cA not aE)) i8 ?_
     rintro _ ph ⟨c6,rfl⟩
     have g5:=i7.extk c6
     refine pu (vb (!(fP))) (wS (cA not aE)) ?_
     refine pf (vb (!(fP))) wN (cA not aE) ?_
     refine mw (vb (!(fP))) ?_
     rcases bf fP with bi|bi
     ·iterate 3 refine sk (cA not bi) ?_
      refine pk (vb true) wN (cA not bi) ?_
      refine n2 ?_
      refine ct (Eq.refl true) ?_
      refine sr ?_
      refine aw (vb false) ?_
      refine n1 ?_
      refine rt (vb false) ?_
      refine ⟨g5.keep0,?_⟩
      have pi:BV a d b=false:=by first|(simp only [BV,s,D,u,L,M,q,Q,A,O,Z,W,a6,a4,X,a8,a7,aB,a9,aG,bE,aE,c5,bi,cond_true,cond_false,decide_true];done)|(exfalso;simp only [s,D,u,L,M,q,Q,A,O,Z,W,a6,a4,X,a8,a7,aB,a9,aG,bE,aE] at c5;rw [← c5] at bi;cases bi)|(unfold BV;try rw [s];try rw [D];try rw [u];try rw [L];try rw [M];try rw [q];try rw [Q];try rw [A];try rw [O];try rw [Z];try rw [W];try rw [a6];try rw [a4];try rw [X];try rw [a8];try rw [a7];try rw [aB];try rw [a9];try rw [aG];try rw [bE];try rw [aE];try rw [c5];try rw [bi];first|done|rfl)
      rw [pi]
      exact rfl
     refine mv (vi ((i_ChanOpen (l_toChan a) d (l_toFrame b)).2.2)) (wS (cA not bi)) ?_
     refine mv (vi ((s_ChanOpen (l_toChan a) d (l_toFrame b)).2.2)) (wS (cA not bi)) ?_
     refine pu (vb (!(decide ((i_ChanOpen (l_toChan a) d (l_toFrame b)).2.2=(s_ChanOpen (l_toChan a) d (l_toFrame b)).2.2)))) (wS (cA not bi)) ?_
     refine pf (vb (!(decide ((i_ChanOpen (l_toChan a) d (l_toFrame b)).2.2=(s_ChanOpen (l_toChan a) d (l_toFrame b)).2.2)))) wN (cA not bi) ?_
     refine n2 ?_
     rcases bf (decide ((i_ChanOpen (l_toChan a) d (l_toFrame b)).2.2=(s_ChanOpen (l_toChan a) d (l_toFrame b)).2.2)) with bj|bj
     ·have BP:=dF bj
      refine ct (cA not bj) ?_
      refine sr ?_
      refine aw (vb false) ?_
      refine n1 ?_
      refine rt (vb false) ?_
      refine ⟨g5.keep0,?_⟩
      have pj:BV a d b=false:=by first|(simp only [BV,s,D,u,L,M,q,Q,A,O,Z,W,a6,a4,X,a8,a7,aB,a9,aG,bE,aE,c5,bi,bj,cond_true,cond_false,decide_true];done)|(exfalso;rw [L] at bj;first|(rw [O] at bj;cases bj))|(unfold BV;try rw [s];try rw [D];try rw [u];try rw [L];try rw [M];try rw [q];try rw [Q];try rw [A];try rw [O];try rw [Z];try rw [W];try rw [a6];try rw [a4];try rw [X];try rw [a8];try rw [a7];try rw [aB];try rw [a9];try rw [aG];try rw [bE];try rw [aE];try rw [c5];try rw [bi];try rw [bj];first|done|rfl)
      rw [pj]
      exact rfl
     have BQ:=dT bj
     refine cf (cA not bj) ?_
     refine y1 ?_
     refine aw (vi 1) ?_
     refine nx ?_
     have pl:=(((((ip.kp bl).kp bm).kp bD).kp bG).kp c6)
     refine lN [(vi (((f).1).Role)),(vs cj (((f).1).Sn).length ck),(vi ((((f).1).Cur).N)),(vs cm ((((f).1).Cur).Key).length cn),(vi ((((f).1).Cur).Seq)),(vi (((((f).1).Cur).Win).Top)),(vs co (((((f).1).Cur).Win).Bits).length cp),(vi ((((f).1).Old).N)),(vs cq ((((f).1).Old).Key).length cr),(vi ((((f).1).Old).Seq)),(vi (((((f).1).Old).Win).Top)),(vs cs (((((f).1).Old).Win).Bits).length cu),(vb (((f).1).HasOld)),(vi (((f).1).Until)),(vs cv (((f).1).Next).length cw)] wN Cv BY pl ?_
     refine mw (vi 1) ?_
     have pm:=(((((iq.kp bl).kp bm).kp bD).kp bG).kp c6)
     have pn:=(((((ir.kp bl).kp bm).kp bD).kp bG).kp c6)
     have po:=(((((it.kp bl).kp bm).kp bD).kp bG).kp c6)
     have pp:=(((((iu.kp bl).kp bm).kp bD).kp bG).kp c6)
     have pq:=(((((iv.kp bl).kp bm).kp bD).kp bG).kp c6)
     have pr:=(((((iw.kp bl).kp bm).kp bD).kp bG).kp c6)
     have i9:=Jy ph _ _ (PQ pm eo pn ep po er pp es pq et pr eu) 1 (by omega) (by omega)
     rw [a8] at i9
     refine cl wN i9 ?_
     rintro _ iA ⟨iB,rfl⟩
     have ps:=GD  ((f).1) 1 1
     try rw [a8] at ps
     refine aw (vi (bk)) ?_
     refine n4 ?_
     refine mw (vi (bk)) ?_
     refine pu (vb (decide ((bk) < 0))) wN ?_
     refine n2 ?_
     refine cf a7 ?_
     refine y1 ?_
     refine mw (vs bd ((f).2.1).length be) ?_
     refine mw (vi (bk)) ?_
     have pv:=(((((i1.kp bm).kp bD).kp bG).kp c6).kp iB)
     have iC:=Ga iA _ _ (show EP iA (vs bd ((f).2.1).length be) (marksB (1+tot_PChan ((f).1)) ((f).2.1).length) from ⟨bd,be,by simp only [Cq,Cu,Fk,EX],by simpa only [Cq,Cu,Fk,EX] using pv,by simp only [Cq,Cu,Fk,EX];first|exact fq|omega⟩) (bk) (by omega) (by omega)
     rw [aB] at iC
     refine cl wN iC ?_
     rintro _ BR ⟨pw,rfl⟩
     have px:=(g5.extk iB).extk pw
     have py:=FJ (marksB (1+tot_PChan ((f).1)) ((f).2.1).length) (bk)
     try rw [aB] at py
     refine aw (vi (bC)) ?_
     refine n4 ?_
     refine mw (vi (bC)) ?_
     refine pu (vb (decide ((bC) < 0))) wN ?_
     refine n2 ?_
     refine cf a9 ?_
     refine y2 ?_
     refine mw (vi (bC)) ?_
     refine mw (vi ((1+tot_PChan ((f).1))+(((f).2.1).length:Int))) ?_
     refine pu (vb (!(decide ((bC)=((1+tot_PChan ((f).1))+(((f).2.1).length:Int)))))) wN ?_
     refine n2 ?_
     refine cf (cA not aG) ?_
     refine y1 ?_
     refine aw (vb true) ?_
     refine n3 ?_
     refine rt (vb true) ?_
     refine ⟨px.keep0,?_⟩
     have pz:BV a d b=true:=by first|(simp only [BV,s,D,u,L,M,q,Q,A,O,Z,W,a6,a4,X,a8,a7,aB,a9,aG,bE,aE,c5,bi,bj,cond_true,cond_false,decide_true];done)|(exfalso;rw [L] at bj;first|(rw [O] at bj;cases bj))|(unfold BV;try rw [s];try rw [D];try rw [u];try rw [L];try rw [M];try rw [q];try rw [Q];try rw [A];try rw [O];try rw [Z];try rw [W];try rw [a6];try rw [a4];try rw [X];try rw [a8];try rw [a7];try rw [aB];try rw [a9];try rw [aG];try rw [bE];try rw [aE];try rw [c5];try rw [bi];try rw [bj];first|done|rfl)
     rw [pz]
     exact rfl
end Go.Proofs.YtacoceibbheccaaGreat.K
