import Derived.Test.YtacoceibbheccaaCore
import Derived.Test.YtacoceibbheccaaProg
import Derived.Test.YtacoceibbheccaaHeld
import Derived.Test.YtacoceibbheccaaFun
import Derived.Test.YtacoceibbheccaaFunZ
import Derived.Test.YtacoceibbheccaaSqz
import Derived.Test.YtacoceibbheccaaHash
import Derived.Test.YtacoceibbheccaaCur
import Derived.Test.YtacoceibbheccaaDrawW
import Derived.Test.YtacoceibbheccaaAead
import Derived.Test.YtacoceibbheccaaWl3
namespace Go.Proofs.Ytacoceibbheccaa.K
open Go.RowKit
set_option linter.unusedVariables false
set_option linter.unusedSimpArgs false
set_option maxRecDepth 100000
set_option maxHeartbeats 4000000
def KO_30_32_3 (w:World) (lo:Nat) (v:Value) (x:(PChan)×(PFrame)×(Int)) (k:Option Addr×Nat→Option Addr×Nat→Option Addr×Nat→Option Addr×Nat→Option Addr×Nat→Option Addr×Nat→Option Addr×Nat→Option Addr×Nat→Option Addr×Nat→Option Addr×Nat→Option Addr×Nat→Option Addr×Nat→Prop):Prop:=∃ (a:Option Addr) (b:Nat) (d:Option Addr) (e:Nat) (f:Option Addr) (g:Nat) (h:Option Addr) (i:Nat) (j:Option Addr) (l:Nat) (m:Option Addr) (o:Nat) (p:Option Addr) (q:Nat) (r:Option Addr) (s:Nat) (t:Option Addr) (u:Nat) (y:Option Addr) (A:Nat) (B:Option Addr) (C:Nat) (D:Option Addr) (E:Nat),v=.tuple #[.agg #[.int .i64 x.1.Role,.slice a x.1.Sn.length b,.int .i64 x.1.Cur.N,.slice d x.1.Cur.Key.length e,.int .i64 x.1.Cur.Seq,.int .i64 x.1.Cur.Win.Top,.slice f x.1.Cur.Win.Bits.length g,.int .i64 x.1.Old.N,.slice h x.1.Old.Key.length i,.int .i64 x.1.Old.Seq,.int .i64 x.1.Old.Win.Top,.slice j x.1.Old.Win.Bits.length l,.bool x.1.HasOld,.int .i64 x.1.Until,.slice m x.1.Next.length o],.agg #[.int .i64 x.2.1.Kind,.int .i64 x.2.1.Id,.slice p x.2.1.Cn.length q,.slice r x.2.1.Sn.length s,.int .i64 x.2.1.Tick,.slice t x.2.1.Cookie.length u,.slice y x.2.1.Proof.length A,.int .i64 x.2.1.Epoch,.int .i64 x.2.1.Seq,.slice B x.2.1.Body.length C,.slice D x.2.1.Tag.length E],.int .i64 x.2.2]∧w.ownsRow lo 5 1 (.slice a x.1.Sn.length b) x.1.Sn.length (x.1.Sn.map bV)∧x.1.Sn.length≤1073741824∧w.ownsRow lo 5 1 (.slice d x.1.Cur.Key.length e) x.1.Cur.Key.length (x.1.Cur.Key.map bV)∧x.1.Cur.Key.length≤1073741824∧w.ownsRow lo 3 1 (.slice f x.1.Cur.Win.Bits.length g) x.1.Cur.Win.Bits.length (x.1.Cur.Win.Bits.map iV)∧x.1.Cur.Win.Bits.length≤1073741824∧w.ownsRow lo 5 1 (.slice h x.1.Old.Key.length i) x.1.Old.Key.length (x.1.Old.Key.map bV)∧x.1.Old.Key.length≤1073741824∧w.ownsRow lo 3 1 (.slice j x.1.Old.Win.Bits.length l) x.1.Old.Win.Bits.length (x.1.Old.Win.Bits.map iV)∧x.1.Old.Win.Bits.length≤1073741824∧w.ownsRow lo 5 1 (.slice m x.1.Next.length o) x.1.Next.length (x.1.Next.map bV)∧x.1.Next.length≤1073741824∧w.ownsRow lo 5 1 (.slice p x.2.1.Cn.length q) x.2.1.Cn.length (x.2.1.Cn.map bV)∧x.2.1.Cn.length≤1073741824∧w.ownsRow lo 5 1 (.slice r x.2.1.Sn.length s) x.2.1.Sn.length (x.2.1.Sn.map bV)∧x.2.1.Sn.length≤1073741824∧w.ownsRow lo 5 1 (.slice t x.2.1.Cookie.length u) x.2.1.Cookie.length (x.2.1.Cookie.map bV)∧x.2.1.Cookie.length≤1073741824∧w.ownsRow lo 5 1 (.slice y x.2.1.Proof.length A) x.2.1.Proof.length (x.2.1.Proof.map bV)∧x.2.1.Proof.length≤1073741824∧w.ownsRow lo 5 1 (.slice B x.2.1.Body.length C) x.2.1.Body.length (x.2.1.Body.map bV)∧x.2.1.Body.length≤1073741824∧w.ownsRow lo 5 1 (.slice D x.2.1.Tag.length E) x.2.1.Tag.length (x.2.1.Tag.map bV)∧x.2.1.Tag.length≤1073741824∧Aps [(a,b),(d,e),(f,g),(h,i),(j,l),(m,o),(p,q),(r,s),(t,u),(y,A),(B,C),(D,E)]∧k (a,b) (d,e) (f,g) (h,i) (j,l) (m,o) (p,q) (r,s) (t,u) (y,A) (B,C) (D,E)
def i_AskRekey (a:PChan):(PChan)×(PFrame)×(Int):=bif (i_ChanOk a) then (bif (decide ((a.Next.length:Int)=0)) then (((a),{Kind:=0,Id:=0,Cn:=[],Sn:=[],Tick:=0,Cookie:=[],Proof:=[],Epoch:=0,Seq:=0,Body:=[],Tag:=[]:PFrame},6)) else ((((i_ChanSeal a 7 (i_RekeyBody (a.Cur.N+1))).1),((i_ChanSeal a 7 (i_RekeyBody (a.Cur.N+1))).2.1),(i_ChanSeal a 7 (i_RekeyBody (a.Cur.N+1))).2.2))) else (((a),{Kind:=0,Id:=0,Cn:=[],Sn:=[],Tick:=0,Cookie:=[],Proof:=[],Epoch:=0,Seq:=0,Body:=[],Tag:=[]:PFrame},6))
theorem ciAskRekey (T:World) (bd:Value) (a:PChan) (bO:R_30 T bd a) :Fn Try.prog 8 #[bd] T (fun v be=>Keep T be∧O_30_32_3 be T.heap.size v (i_AskRekey a)):=by
 obtain ⟨C,D,F,G,H,I,J,K,L,M,x,y,rfl,Y,Z,aa,ab,ac,ad,ae,af,ah,ai,X,aj⟩:=bO
 refine fn_ofS (n:=27) [(va (L_30 a C D F G H I J K L M x y))] Try.func8 rfl rfl ?_
 refine sr ?_
 refine bx (L_30 a C D F G H I J K L M x y) wN ?_
 intro O bg eH eI f bh
 refine al Z_30 wN zero_30 ?_
 intro bP eJ bi P g bj
 refine al Z_32 wN zero_32 ?_
 intro bQ bR Q bk d bl
 have t:=(((Ch.base T).extk f).extk g).extk d
 refine aw (vi 0) ?_
 refine n4 ?_
 refine jT1 [(1,(vp O 0)),(2,(vp bP 0)),(3,(vp bQ 0)),(4,(vi 0))] (i_AskRekey a=((a),{Kind:=0,Id:=0,Cn:=[],Sn:=[],Tick:=0,Cookie:=[],Proof:=[],Epoch:=0,Seq:=0,Body:=[],Tag:=[]:PFrame},6)) ?_ fun bm=>?_
 ·intro bS u q eK
  have A:=t.extk q
  refine sr ?_
  have bT:=(((bh.kp g).kp d).kp q)
  refine lN (L_30 a C D F G H I J K L M x y) wN isAgg_30 sizeOf_30 bT ?_
  refine cl wN (cicopyChan u _ a (mR_30 (Y.from0 A) Z (aa.from0 A) ab (ac.from0 A) ad (ae.from0 A) af (ah.from0 A) ai (X.from0 A) aj)) ?_
  rintro _ j ⟨ak,⟨am,an,ao,ap,aq,au,av,ax,ay,az,a0,a1,rfl,bn,bU,bo,bW,bp,bX,bq,bY,br,bZ,bu,ca,l⟩⟩
  refine pu (va Z_32) wN ?_
  have cb:=(((bj.kp d).kp q).kp ak)
  refine sv (L_30 (a) am an ao ap aq au av ax ay az a0 a1) wN sizeOf_30 cb ?_
  intro a2 a3 cc eL
  have cd:=(A.extk ak).ext a3 (fun k hk=>by subst hk;exact nT f.size bi)
  have ce:=(((bl.kp q).kp ak).ch a3 (Ne.symm (nN (nL P (Q)))))
  refine sv Z_32 wN sizeOf_32 ce ?_
  intro cg a4 ci eM
  have cj:=cd.ext a4 (fun k hk=>by subst hk;exact nT (z2 f g) Q)
  refine aw (vi 6) ?_
  refine n1 ?_
  have ck:=(cc.ch a4 (nN (nL P (Q))))
  have R:=fun (E sz n:Nat) (v:Value) (V:List Value) (o:World.ownsRow j u.heap.size E sz v n V) (W:World.ownsRow j u.heap.size E sz v n V)=>(own_ch (own_ch o a3 (ne1 W (nL P (z2 d q)))) a4 (ne1 W (nL bk q.size)))
  have cm:=(R _ _ _ _ _ bn bn)
  have cn:=(R _ _ _ _ _ bo bo)
  have co:=(R _ _ _ _ _ bp bp)
  have cp:=(R _ _ _ _ _ bq bq)
  have cq:=(R _ _ _ _ _ br br)
  have cr:=(R _ _ _ _ _ bu bu)
  refine ret_3 (.inl rfl) (va (L_30 (a) am an ao ap aq au av ax ay az a0 a1)) (va Z_32) (vi 6) rfl (rv_c (L_30 (a) am an ao ap aq au av ax ay az a0 a1) rfl ck isAgg_30 sizeOf_30) (rv_c Z_32 rfl ci isAgg_32 sizeOf_32) rfl ?_
  refine ⟨cj.keep0,?_⟩
  rw [bS]
  exact ⟨_,_,_,_,_,_,_,_,_,_,_,_,_,_,_,_,_,_,_,_,_,_,_,_,rfl,(own_lo cm (z4 f g d q)),bU,(own_lo cn (z4 f g d q)),bW,(own_lo co (z4 f g d q)),bX,(own_lo cp (z4 f g d q)),bY,(own_lo cq (z4 f g d q)),bZ,(own_lo cr (z4 f g d q)),ca,(by first|exact own_nil _ _ _ _|exact OLv.nil _ _ _ _),(by simp),(by first|exact own_nil _ _ _ _|exact OLv.nil _ _ _ _),(by simp),(by first|exact own_nil _ _ _ _|exact OLv.nil _ _ _ _),(by simp),(by first|exact own_nil _ _ _ _|exact OLv.nil _ _ _ _),(by simp),(by first|exact own_nil _ _ _ _|exact OLv.nil _ _ _ _),(by simp),(by first|exact own_nil _ _ _ _|exact OLv.nil _ _ _ _),(by simp),⟨⟨(l.1.1),⟨(l.1.2.1),⟨(l.1.2.2.1),⟨(l.1.2.2.2.1),⟨(l.1.2.2.2.2.1),⟨(Ap.nr _),⟨(Ap.nr _),⟨(Ap.nr _),⟨(Ap.nr _),⟨(Ap.nr _),⟨(Ap.nr _),trivial⟩⟩⟩⟩⟩⟩⟩⟩⟩⟩⟩,⟨⟨(l.2.1.1),⟨(l.2.1.2.1),⟨(l.2.1.2.2.1),⟨(l.2.1.2.2.2.1),⟨(Ap.nr _),⟨(Ap.nr _),⟨(Ap.nr _),⟨(Ap.nr _),⟨(Ap.nr _),⟨(Ap.nr _),trivial⟩⟩⟩⟩⟩⟩⟩⟩⟩⟩,⟨⟨(l.2.2.1.1),⟨(l.2.2.1.2.1),⟨(l.2.2.1.2.2.1),⟨(Ap.nr _),⟨(Ap.nr _),⟨(Ap.nr _),⟨(Ap.nr _),⟨(Ap.nr _),⟨(Ap.nr _),trivial⟩⟩⟩⟩⟩⟩⟩⟩⟩,⟨⟨(l.2.2.2.1.1),⟨(l.2.2.2.1.2.1),⟨(Ap.nr _),⟨(Ap.nr _),⟨(Ap.nr _),⟨(Ap.nr _),⟨(Ap.nr _),⟨(Ap.nr _),trivial⟩⟩⟩⟩⟩⟩⟩⟩,⟨⟨(l.2.2.2.2.1.1),⟨(Ap.nr _),⟨(Ap.nr _),⟨(Ap.nr _),⟨(Ap.nr _),⟨(Ap.nr _),⟨(Ap.nr _),trivial⟩⟩⟩⟩⟩⟩⟩,⟨⟨(Ap.nr _),⟨(Ap.nr _),⟨(Ap.nr _),⟨(Ap.nr _),⟨(Ap.nr _),⟨(Ap.nr _),trivial⟩⟩⟩⟩⟩⟩,⟨⟨(Ap.nl _),⟨(Ap.nl _),⟨(Ap.nl _),⟨(Ap.nl _),⟨(Ap.nl _),trivial⟩⟩⟩⟩⟩,⟨⟨(Ap.nl _),⟨(Ap.nl _),⟨(Ap.nl _),⟨(Ap.nl _),trivial⟩⟩⟩⟩,⟨⟨(Ap.nl _),⟨(Ap.nl _),⟨(Ap.nl _),trivial⟩⟩⟩,⟨⟨(Ap.nl _),⟨(Ap.nl _),trivial⟩⟩,⟨⟨(Ap.nl _),trivial⟩,⟨trivial,trivial⟩⟩⟩⟩⟩⟩⟩⟩⟩⟩⟩⟩⟩
 have bv:=((bh.kp g).kp d)
 refine lN (L_30 a C D F G H I J K L M x y) wN isAgg_30 sizeOf_30 bv ?_
 refine cl wN (ciChanOk bR _ a (mR_30 (Y.from0 t) Z (aa.from0 t) ab (ac.from0 t) ad (ae.from0 t) af (ah.from0 t) ai (X.from0 t) aj)) ?_
 rintro _ u ⟨i,rfl⟩
 have a5:=t.extk i
 refine pu (vb (!(i_ChanOk a))) wN ?_
 refine mw (vb (!(i_ChanOk a))) ?_
 rcases bf (i_ChanOk a) with r|r
 ·iterate 4 refine sk (cA not r) ?_
  refine pk (vb true) wN (cA not r) ?_
  refine n2 ?_
  refine ct (Eq.refl true) ?_
  have cs:i_AskRekey a=((a),{Kind:=0,Id:=0,Cn:=[],Sn:=[],Tick:=0,Cookie:=[],Proof:=[],Epoch:=0,Seq:=0,Body:=[],Tag:=[]:PFrame},6):=by simp only [i_AskRekey,r,cond_true,cond_false]
  exact wj (bm cs _ i)
 have eN:=impl_ChanOk_t r
 refine pu (vp O 14) (wS (cA not r)) ?_
 have a6:=(bv.kp i)
 refine ld (vs x a.Next.length y) (wS (cA not r)) isAgg_22 a6 ?_
 refine ln (wS (cA not r)) slTy_22 (X.from0 a5) ?_
 refine pu (vb (decide ((a.Next.length:Int)=0))) (wS (cA not r)) ?_
 refine pf (vb (decide ((a.Next.length:Int)=0))) wN (cA not r) ?_
 refine n2 ?_
 rcases bt (decide ((a.Next.length:Int)=0)) with B|B
 ·have eO:=dT B
  refine ct B ?_
  have cu:i_AskRekey a=((a),{Kind:=0,Id:=0,Cn:=[],Sn:=[],Tick:=0,Cookie:=[],Proof:=[],Epoch:=0,Seq:=0,Body:=[],Tag:=[]:PFrame},6):=by simp only [i_AskRekey,r,B,cond_true,cond_false]
  exact wj (bm cu _ i)
 have eP:=dF B
 refine cf B ?_
 refine wc_skip<|wq_then<|wc_seq ?_
 refine wc_draw ([(17,[],[],(fun _ v _=>v=(va (L_30 a C D F G H I J K L M x y)))),(18,[],[],(fun _ v _=>v=(vp O 2))),(19,[],[1],(fun _ v _=>v=(vp O 2))),(20,[],[1,2],(fun _ v _=>v=(vi a.Cur.N))),(21,[],[1,2,3],(fun _ v _=>v=(vi (a.Cur.N+1)))),(22,[],[1,2,3,4],(fun _ v w=>O_22 w u.heap.size v (i_RekeyBody (a.Cur.N+1)))),(23,[22],[0,1,2,3,4,5],(fun e v w=>KO_30_32_3 w u.heap.size v (i_ChanSeal a 7 (i_RekeyBody (a.Cur.N+1))) (fun cv cw cx cy cz c0 c1 c2 c3 c4 c5 c6=>Ap (sp (e 22)) cv∧Ap (sp (e 22)) cw∧Ap (sp (e 22)) cx∧Ap (sp (e 22)) cy∧Ap (sp (e 22)) cz∧Ap (sp (e 22)) c0∧Ap (sp (e 22)) c1∧Ap (sp (e 22)) c2∧Ap (sp (e 22)) c3∧Ap (sp (e 22)) c4∧Ap (sp (e 22)) c5∧Ap (sp (e 22)) c6))),(24,[23],[0,1,2,3,4,5,6],(fun e v _=>v=(.agg #[(vi (((i_ChanSeal a 7 (i_RekeyBody (a.Cur.N+1))).1).Role)),(cellAt (tupAt (e 23) 0) 1),(vi ((((i_ChanSeal a 7 (i_RekeyBody (a.Cur.N+1))).1).Cur).N)),(cellAt (tupAt (e 23) 0) 3),(vi ((((i_ChanSeal a 7 (i_RekeyBody (a.Cur.N+1))).1).Cur).Seq)),(vi (((((i_ChanSeal a 7 (i_RekeyBody (a.Cur.N+1))).1).Cur).Win).Top)),(cellAt (tupAt (e 23) 0) 6),(vi ((((i_ChanSeal a 7 (i_RekeyBody (a.Cur.N+1))).1).Old).N)),(cellAt (tupAt (e 23) 0) 8),(vi ((((i_ChanSeal a 7 (i_RekeyBody (a.Cur.N+1))).1).Old).Seq)),(vi (((((i_ChanSeal a 7 (i_RekeyBody (a.Cur.N+1))).1).Old).Win).Top)),(cellAt (tupAt (e 23) 0) 11),(vb (((i_ChanSeal a 7 (i_RekeyBody (a.Cur.N+1))).1).HasOld)),(vi (((i_ChanSeal a 7 (i_RekeyBody (a.Cur.N+1))).1).Until)),(cellAt (tupAt (e 23) 0) 14)]))),(25,[23],[0,1,2,3,4,5,6],(fun e v _=>v=(.agg #[(vi (((i_ChanSeal a 7 (i_RekeyBody (a.Cur.N+1))).2.1).Kind)),(vi (((i_ChanSeal a 7 (i_RekeyBody (a.Cur.N+1))).2.1).Id)),(cellAt (tupAt (e 23) 1) 2),(cellAt (tupAt (e 23) 1) 3),(vi (((i_ChanSeal a 7 (i_RekeyBody (a.Cur.N+1))).2.1).Tick)),(cellAt (tupAt (e 23) 1) 5),(cellAt (tupAt (e 23) 1) 6),(vi (((i_ChanSeal a 7 (i_RekeyBody (a.Cur.N+1))).2.1).Epoch)),(vi (((i_ChanSeal a 7 (i_RekeyBody (a.Cur.N+1))).2.1).Seq)),(cellAt (tupAt (e 23) 1) 9),(cellAt (tupAt (e 23) 1) 10)]))),(26,[],[0,1,2,3,4,5,6],(fun _ v _=>v=(vi ((i_ChanSeal a 7 (i_RekeyBody (a.Cur.N+1))).2.2))))]:GV) mixed rfl (by kernel_rfl) (by kernel_rfl) ?_ ?_ ?_
 ·exact ⟨hV,hE,⟨hV,hE,⟨hV,hE,⟨hV,hE,⟨hV,hE,⟨(fun e v w bg h hk=>by obtain ⟨a7,a8,he,a9,aA,hap⟩:=h;exact ⟨a7,a8,he,own_kp a9 hk,aA,hap⟩),hE,⟨(fun e v w bg h hk=>by obtain ⟨a7,a8,c7,c8,c9,cC,cD,cE,cF,cG,cH,cI,cJ,cK,cL,cM,cN,cO,cP,cQ,cR,cS,cT,cU,he,a9,aA,cV,cW,cX,cY,cZ,da,db,dc,dd,de,df,dg,dh,di,dj,dk,dl,dm,dn,dp,dq,dr,hap,hx⟩:=h;exact ⟨a7,a8,c7,c8,c9,cC,cD,cE,cF,cG,cH,cI,cJ,cK,cL,cM,cN,cO,cP,cQ,cR,cS,cT,cU,he,own_kp a9 hk,aA,own_kp cV hk,cW,own_kp cX hk,cY,own_kp cZ hk,da,own_kp db hk,dc,own_kp dd hk,de,own_kp df hk,dg,own_kp dh hk,di,own_kp dj hk,dk,own_kp dl hk,dm,own_kp dn hk,dp,own_kp dq hk,dr,hap,hx⟩),(fun bw bz v w hx h=>by have ds:=hx 22 (by simp);simp only [ds] at h;exact h),⟨hV,(fun bw bz v w hx h=>by have aB:=hx 23 (by simp);simp only [aB] at h;exact h),⟨hV,(fun bw bz v w hx h=>by have aB:=hx 23 (by simp);simp only [aB] at h;exact h),⟨hV,hE,trivial⟩⟩⟩⟩⟩⟩⟩⟩⟩⟩
 ·refine ⟨?_,⟨?_,⟨?_,⟨?_,⟨?_,⟨?_,⟨?_,⟨?_,⟨?_,⟨?_,trivial⟩⟩⟩⟩⟩⟩⟩⟩⟩⟩
  ·intro j dt
   rintro _ _ _ _ _ _ _ _ _ _
   refine sw ?_
   have du:=(a6.kp dt)
   refine lN (L_30 a C D F G H I J K L M x y) wN isAgg_30 sizeOf_30 du ?_
   exact f2
  ·intro j eQ
   rintro _ _ _ _ _ _ _ _ _ _
   refine sw ?_
   refine pu (vp O 2) wN ?_
   exact f2
  ·intro j eR
   rintro _ _ rfl _ _ _ _ _ _ _ _
   refine sw ?_
   refine pu (vp O 2) wN ?_
   exact f2
  ·intro j dv
   rintro _ _ rfl _ rfl _ _ _ _ _ _ _
   refine sw ?_
   have dw:=(a6.kp dv)
   refine ld (vi a.Cur.N) wN isAgg_3 dw ?_
   exact f2
  ·intro j eS
   rintro _ _ rfl _ rfl _ rfl _ _ _ _ _ _
   refine sw ?_
   refine ar (a.Cur.N+1) wN ?_
   exact f2
  ·intro j dx
   rintro _ _ rfl _ rfl _ rfl _ rfl _ _ _ _ _
   refine sw ?_
   refine cl wN (ciRekeyBody j (a.Cur.N+1)) ?_
   rintro _ a2 ⟨dy,⟨eT,eU,rfl,dz,d0,d1⟩⟩
   exact wl_fin dy ⟨_,_,rfl,(own_lo dz dx.size),d0,d1⟩
  ·intro j m
   have S:=a5.extk m
   rintro _ rfl _ rfl _ rfl _ rfl _ rfl _ ⟨eV,eW,rfl,p,d2,eX⟩ _ _ _ _
   refine sw ?_
   refine cl wN (ciChanSeal j _ a (mR_30 (Y.from0 S) Z (aa.from0 S) ab (ac.from0 S) ad (ae.from0 S) af (ah.from0 S) ai (X.from0 S) aj) 7 _ (i_RekeyBody (a.Cur.N+1)) (mR_22 (Rd.of_own p) d2)) ?_
   rintro _ a2 ⟨d3,⟨eY,eZ,fa,fb,fc,fd,fe,ff,fg,fh,fi,fj,fk,fl,fm,fo,fp,fq,fr,fs,ft,fu,fv,fw,rfl,b0,d4,b1,d5,b2,d6,b3,d7,b4,d8,b5,d9,b6,dA,b7,dB,b8,dC,b9,dD,bA,dE,bB,dG,dH⟩⟩
   exact wl_fin d3 ⟨_,_,_,_,_,_,_,_,_,_,_,_,_,_,_,_,_,_,_,_,_,_,_,_,rfl,(own_lo b0 m.size),d4,(own_lo b1 m.size),d5,(own_lo b2 m.size),d6,(own_lo b3 m.size),d7,(own_lo b4 m.size),d8,(own_lo b5 m.size),d9,(own_lo b6 m.size),dA,(own_lo b7 m.size),dB,(own_lo b8 m.size),dC,(own_lo b9 m.size),dD,(own_lo bA m.size),dE,(own_lo bB m.size),dG,dH,⟨(Ap.lt p b0 (Nat.le_refl _)),(Ap.lt p b1 (Nat.le_refl _)),(Ap.lt p b2 (Nat.le_refl _)),(Ap.lt p b3 (Nat.le_refl _)),(Ap.lt p b4 (Nat.le_refl _)),(Ap.lt p b5 (Nat.le_refl _)),(Ap.lt p b6 (Nat.le_refl _)),(Ap.lt p b7 (Nat.le_refl _)),(Ap.lt p b8 (Nat.le_refl _)),(Ap.lt p b9 (Nat.le_refl _)),(Ap.lt p bA (Nat.le_refl _)),(Ap.lt p bB (Nat.le_refl _))⟩⟩
  ·intro j fx
   rintro _ rfl _ rfl _ rfl _ rfl _ rfl _ ⟨fy,fz,rfl,_⟩ _ ⟨dI,dJ,dK,dL,dM,dN,dO,dP,dQ,dR,dS,dU,f0,f3,f4,f5,f6,f7,f8,f9,fA,fB,fC,fD,rfl,_⟩ _ _ _
   refine sw ?_
   refine pu (va (L_30 ((i_ChanSeal a 7 (i_RekeyBody (a.Cur.N+1))).1) dI dJ dK dL dM dN dO dP dQ dR dS dU)) wN ?_
   exact f2
  ·intro j fE
   rintro _ rfl _ rfl _ rfl _ rfl _ rfl _ ⟨fF,fG,rfl,_⟩ _ ⟨fH,fI,fJ,fK,fL,fM,fN,fO,fP,fQ,fR,fS,dV,dW,dX,dY,dZ,ea,ec,ed,ee,ef,eg,eh,rfl,_⟩ _ _ _
   refine sw ?_
   refine pu (va (L_32 ((i_ChanSeal a 7 (i_RekeyBody (a.Cur.N+1))).2.1) dV dW dX dY dZ ea ec ed ee ef eg eh)) wN ?_
   exact f2
  ·intro j fT
   rintro _ rfl _ rfl _ rfl _ rfl _ rfl _ ⟨fU,fV,rfl,_⟩ _ ⟨fW,fX,fY,fZ,ga,gb,gd,ge,gf,gg,gh,gi,gj,gk,gl,gm,gn,gp,gq,gr,gs,gt,gu,gv,rfl,_⟩ _ _ _
   refine sw ?_
   refine pu (vi ((i_ChanSeal a 7 (i_RekeyBody (a.Cur.N+1))).2.2)) wN ?_
   exact f2
 ·intro j aC
  rintro _ rfl _ rfl _ rfl _ rfl _ rfl _ ⟨gw,gx,rfl,_⟩ _ ⟨aD,aE,aF,aG,aH,aI,aJ,aK,aL,aM,aN,aO,aP,aQ,aR,aS,aT,aU,aV,aW,aX,aY,aZ,ba,rfl,bC,ej,bD,ek,bE,em,bF,en,bG,eo,bH,ep,bI,er,bJ,es,bK,et,bL,eu,bM,ew,bN,ex,b,gy⟩ _ rfl _ rfl _ rfl
  refine sw ?_
  have ey:=(((bj.kp d).kp i).kp aC)
  refine sv (L_30 ((i_ChanSeal a 7 (i_RekeyBody (a.Cur.N+1))).1) aD aE aF aG aH aI aJ aK aL aM aN aO) wN sizeOf_30 ey ?_
  intro a2 bb ez gz
  have e0:=(a5.extk aC).ext bb (fun k hk=>by subst hk;exact nT f.size bi)
  have e1:=(((bl.kp i).kp aC).ch bb (Ne.symm (nN (nL P (Q)))))
  refine sv (L_32 ((i_ChanSeal a 7 (i_RekeyBody (a.Cur.N+1))).2.1) aP aQ aR aS aT aU aV aW aX aY aZ ba) wN sizeOf_32 e1 ?_
  intro cg bc e2 g0
  have e3:=e0.ext bc (fun k hk=>by subst hk;exact nT (z2 f g) Q)
  refine aw (vi ((i_ChanSeal a 7 (i_RekeyBody (a.Cur.N+1))).2.2)) ?_
  refine n3 ?_
  have e4:=(ez.ch bc (nN (nL P (Q))))
  have s:=fun (E sz n:Nat) (v:Value) (V:List Value) (o:World.ownsRow j u.heap.size E sz v n V) (W:World.ownsRow j u.heap.size E sz v n V)=>(own_ch (own_ch o bb (ne1 W (nL P (z2 d i)))) bc (ne1 W (nL bk i.size)))
  have e5:=(s _ _ _ _ _ bC bC)
  have e6:=(s _ _ _ _ _ bD bD)
  have e7:=(s _ _ _ _ _ bE bE)
  have e8:=(s _ _ _ _ _ bF bF)
  have e9:=(s _ _ _ _ _ bG bG)
  have eA:=(s _ _ _ _ _ bH bH)
  have eB:=(s _ _ _ _ _ bI bI)
  have eC:=(s _ _ _ _ _ bJ bJ)
  have eD:=(s _ _ _ _ _ bK bK)
  have eE:=(s _ _ _ _ _ bL bL)
  have eF:=(s _ _ _ _ _ bM bM)
  have eG:=(s _ _ _ _ _ bN bN)
  refine ret_3 (.inl rfl) (va (L_30 ((i_ChanSeal a 7 (i_RekeyBody (a.Cur.N+1))).1) aD aE aF aG aH aI aJ aK aL aM aN aO)) (va (L_32 ((i_ChanSeal a 7 (i_RekeyBody (a.Cur.N+1))).2.1) aP aQ aR aS aT aU aV aW aX aY aZ ba)) (vi ((i_ChanSeal a 7 (i_RekeyBody (a.Cur.N+1))).2.2)) rfl (rv_c (L_30 ((i_ChanSeal a 7 (i_RekeyBody (a.Cur.N+1))).1) aD aE aF aG aH aI aJ aK aL aM aN aO) rfl e4 isAgg_30 sizeOf_30) (rv_c (L_32 ((i_ChanSeal a 7 (i_RekeyBody (a.Cur.N+1))).2.1) aP aQ aR aS aT aU aV aW aX aY aZ ba) rfl e2 isAgg_32 sizeOf_32) rfl ?_
  refine ⟨e3.keep0,?_⟩
  simp only [i_AskRekey,r,B,cond_true,cond_false]
  exact ⟨_,_,_,_,_,_,_,_,_,_,_,_,_,_,_,_,_,_,_,_,_,_,_,_,rfl,(own_lo e5 (z4 f g d i)),ej,(own_lo e6 (z4 f g d i)),ek,(own_lo e7 (z4 f g d i)),em,(own_lo e8 (z4 f g d i)),en,(own_lo e9 (z4 f g d i)),eo,(own_lo eA (z4 f g d i)),ep,(own_lo eB (z4 f g d i)),er,(own_lo eC (z4 f g d i)),es,(own_lo eD (z4 f g d i)),et,(own_lo eE (z4 f g d i)),eu,(own_lo eF (z4 f g d i)),ew,(own_lo eG (z4 f g d i)),ex,⟨⟨(b.1.1),⟨(b.1.2.1),⟨(b.1.2.2.1),⟨(b.1.2.2.2.1),⟨(b.1.2.2.2.2.1),⟨(b.1.2.2.2.2.2.1),⟨(b.1.2.2.2.2.2.2.1),⟨(b.1.2.2.2.2.2.2.2.1),⟨(b.1.2.2.2.2.2.2.2.2.1),⟨(b.1.2.2.2.2.2.2.2.2.2.1),⟨(b.1.2.2.2.2.2.2.2.2.2.2.1),trivial⟩⟩⟩⟩⟩⟩⟩⟩⟩⟩⟩,⟨⟨(b.2.1.1),⟨(b.2.1.2.1),⟨(b.2.1.2.2.1),⟨(b.2.1.2.2.2.1),⟨(b.2.1.2.2.2.2.1),⟨(b.2.1.2.2.2.2.2.1),⟨(b.2.1.2.2.2.2.2.2.1),⟨(b.2.1.2.2.2.2.2.2.2.1),⟨(b.2.1.2.2.2.2.2.2.2.2.1),⟨(b.2.1.2.2.2.2.2.2.2.2.2.1),trivial⟩⟩⟩⟩⟩⟩⟩⟩⟩⟩,⟨⟨(b.2.2.1.1),⟨(b.2.2.1.2.1),⟨(b.2.2.1.2.2.1),⟨(b.2.2.1.2.2.2.1),⟨(b.2.2.1.2.2.2.2.1),⟨(b.2.2.1.2.2.2.2.2.1),⟨(b.2.2.1.2.2.2.2.2.2.1),⟨(b.2.2.1.2.2.2.2.2.2.2.1),⟨(b.2.2.1.2.2.2.2.2.2.2.2.1),trivial⟩⟩⟩⟩⟩⟩⟩⟩⟩,⟨⟨(b.2.2.2.1.1),⟨(b.2.2.2.1.2.1),⟨(b.2.2.2.1.2.2.1),⟨(b.2.2.2.1.2.2.2.1),⟨(b.2.2.2.1.2.2.2.2.1),⟨(b.2.2.2.1.2.2.2.2.2.1),⟨(b.2.2.2.1.2.2.2.2.2.2.1),⟨(b.2.2.2.1.2.2.2.2.2.2.2.1),trivial⟩⟩⟩⟩⟩⟩⟩⟩,⟨⟨(b.2.2.2.2.1.1),⟨(b.2.2.2.2.1.2.1),⟨(b.2.2.2.2.1.2.2.1),⟨(b.2.2.2.2.1.2.2.2.1),⟨(b.2.2.2.2.1.2.2.2.2.1),⟨(b.2.2.2.2.1.2.2.2.2.2.1),⟨(b.2.2.2.2.1.2.2.2.2.2.2.1),trivial⟩⟩⟩⟩⟩⟩⟩,⟨⟨(b.2.2.2.2.2.1.1),⟨(b.2.2.2.2.2.1.2.1),⟨(b.2.2.2.2.2.1.2.2.1),⟨(b.2.2.2.2.2.1.2.2.2.1),⟨(b.2.2.2.2.2.1.2.2.2.2.1),⟨(b.2.2.2.2.2.1.2.2.2.2.2.1),trivial⟩⟩⟩⟩⟩⟩,⟨⟨(b.2.2.2.2.2.2.1.1),⟨(b.2.2.2.2.2.2.1.2.1),⟨(b.2.2.2.2.2.2.1.2.2.1),⟨(b.2.2.2.2.2.2.1.2.2.2.1),⟨(b.2.2.2.2.2.2.1.2.2.2.2.1),trivial⟩⟩⟩⟩⟩,⟨⟨(b.2.2.2.2.2.2.2.1.1),⟨(b.2.2.2.2.2.2.2.1.2.1),⟨(b.2.2.2.2.2.2.2.1.2.2.1),⟨(b.2.2.2.2.2.2.2.1.2.2.2.1),trivial⟩⟩⟩⟩,⟨⟨(b.2.2.2.2.2.2.2.2.1.1),⟨(b.2.2.2.2.2.2.2.2.1.2.1),⟨(b.2.2.2.2.2.2.2.2.1.2.2.1),trivial⟩⟩⟩,⟨⟨(b.2.2.2.2.2.2.2.2.2.1.1),⟨(b.2.2.2.2.2.2.2.2.2.1.2.1),trivial⟩⟩,⟨⟨(b.2.2.2.2.2.2.2.2.2.2.1.1),trivial⟩,⟨trivial,trivial⟩⟩⟩⟩⟩⟩⟩⟩⟩⟩⟩⟩⟩

theorem ciDiff (f:World) (w:Value) (d:List UInt8) (D:R_22 f w d) (y:Value) (e:List UInt8) (E:R_22 f y e) :Fn Try.prog 29 #[w,y] f (fun v o=>Keep f o∧O_3 o f.heap.size v (diffP d e)):=by
 obtain ⟨i,j,rfl,s,R⟩:=D
 obtain ⟨l,m,rfl,t,S⟩:=E
 refine fn_ofS (n:=31) [(vs i d.length j),(vs l e.length m)] Try.func29 rfl rfl ?_
 refine sr ?_
 refine aw (vi 0) ?_
 refine n4 ?_
 refine mw (vs i d.length j) ?_
 refine ln wN slTy_22 s ?_
 refine mw (vs l e.length m) ?_
 refine ln wN slTy_22 t ?_
 refine pu (vb (!(decide ((d.length:Int)=(e.length:Int))))) wN ?_
 refine n2 ?_
 rcases bf (decide ((d.length:Int)=(e.length:Int))) with q|q
 ·have T:=dF q
  refine ct (cA not q) ?_
  refine sr ?_
  refine aw (vi (-1)) ?_
  refine n1 ?_
  refine rt (vi (-1)) ?_
  refine ⟨Ch.refl _ _,?_⟩
  have F:diffP d e=(-1):=by first|exact diffP_f (by omega)|exact diffP_t (by omega) (by omega) (by omega)
  rw [F]
  exact rfl
 have V:=dT q
 refine cf (cA not q) ?_
 refine y1 ?_
 refine aw (vi 0) ?_
 refine n4 ?_
 refine mw (vs i d.length j) ?_
 refine ln wN slTy_22 s ?_
 refine mw (vi 0) ?_
 refine wl_nil<|wq_then<|wc_block ?_
 refine wc_loopP [(0,(vs i d.length j)),(1,(vs l e.length m)),(4,(vi 0)),(5,(vi (orX d e 0))),(13,(vi (d.length:Int))),(14,(vi ((0:Nat):Int)))] ⟨rfl,rfl,rfl,(cA (Value.int .i64) (show (0:Int)=(orX d e 0) by rfl)),rfl,(cA (Value.int .i64) (show (0:Int)=((0:Nat):Int) by omega)),trivial⟩ (fun e' o=>∃ (k:Nat) (A:Env),e'=pt A [(0,(vs i d.length j)),(1,(vs l e.length m)),(4,(vi 0)),(5,(vi (orX d e k))),(13,(vi (d.length:Int))),(14,(vi ((k:Nat):Int)))]∧Ch (fun k=>f.heap.size≤k) f o∧Ch (fun k=>f.heap.size≤k) f o∧k≤d.length) (fun e' _=>d.length - ((intOf (e' 14))).toNat) ?_ ?_
 ·exact fun u=>⟨0,u,rfl,(Ch.base f),(Ch.refl (fun k=>f.heap.size≤k) f),(by omega)⟩
 ·rintro _ B ⟨k,A,rfl,p,G,W⟩
  have hob:=orX_b d e k
  have X:(d.getD k 0^^^e.getD k 0).toNat < 256:=UInt8.toNat_lt _
  refine sr ?_
  refine pu (vb (decide (((k:Nat):Int) < (d.length:Int)))) wN ?_
  refine wl_nil<|wq_then<|wc_seq ?_
  rcases bf (decide (((k:Nat):Int) < (d.length:Int))) with r|r
  ·have Y:=dF r
   refine cf r ?_
   refine wc_exit<|wq_then_exit<|wq_then_exit<|wq_blk_exit<|wq_then<|sr ?_
   refine mw (vi (orX d e k)) ?_
   refine aw (vi (orX d e k)) ?_
   refine n3 ?_
   refine rt (vi (orX d e k)) ?_
   refine ⟨p.keep0,?_⟩
   have H:diffP d e=(orX d e k):=by first|exact diffP_f (by omega)|exact diffP_t (by omega) (by omega) (by omega)
   rw [H]
   exact rfl
  have Z:=dT r
  refine ct r ?_
  refine wc_skip<|wq_then<|wc_seq<|wc_block<|sr ?_
  refine mw (vi ((k:Nat):Int)) ?_
  refine aw (vi ((k:Nat):Int)) ?_
  refine n2 ?_
  refine wc_drawT ([(17,[],[],(fun _ v _=>v=(vi (orX d e k)))),(18,[],[],(fun _ v _=>v=(vs i d.length j))),(19,[],[],(fun _ v _=>v=(vi ((k:Nat):Int)))),(20,[],[1,2],(fun _ v _=>v=(ve (vs i d.length j) ((((k:Nat):Int)).toNat*1)))),(21,[],[1,2,3],(fun _ v _=>v=(v8 ((d.getD k 0).toNat:Int)))),(22,[],[],(fun _ v _=>v=(vs l e.length m))),(23,[],[],(fun _ v _=>v=(vi ((k:Nat):Int)))),(24,[],[5,6],(fun _ v _=>v=(ve (vs l e.length m) ((((k:Nat):Int)).toNat*1)))),(25,[],[5,6,7],(fun _ v _=>v=(v8 ((e.getD k 0).toNat:Int)))),(26,[],[1,2,3,4,5,6,7,8],(fun _ v _=>v=(v8 (((d.getD k 0)^^^(e.getD k 0)).toNat:Int)))),(27,[],[1,2,3,4,5,6,7,8,9],(fun _ v _=>v=(vi (((d.getD k 0)^^^(e.getD k 0)).toNat:Int))))]:GV) (fun _ o=>Keep B o) [] mixed rfl (by kernel_rfl) (by kernel_rfl) ?_ (fun _ _ h=>h) (fun _ _ _ _ h _ k=>h.trans k) trivial ?_ ?_ ?_
  ·exact ⟨hV,hE,⟨hV,hE,⟨hV,hE,⟨hV,hE,⟨hV,hE,⟨hV,hE,⟨hV,hE,⟨hV,hE,⟨hV,hE,⟨hV,hE,⟨hV,hE,trivial⟩⟩⟩⟩⟩⟩⟩⟩⟩⟩⟩
  ·exact trivial
  ·refine ⟨?_,⟨?_,⟨?_,⟨?_,⟨?_,⟨?_,⟨?_,⟨?_,⟨?_,⟨?_,⟨?_,trivial⟩⟩⟩⟩⟩⟩⟩⟩⟩⟩⟩
   ·intro _ g aa _
    rintro _ _ _ _ _ _ _ _ _ _ _
    refine sw ?_
    refine mw (vi (orX d e k)) ?_
    exact f1
   ·intro _ g ab _
    rintro _ _ _ _ _ _ _ _ _ _ _
    refine sw ?_
    refine mw (vs i d.length j) ?_
    exact f1
   ·intro _ g ac _
    rintro _ _ _ _ _ _ _ _ _ _ _
    refine sw ?_
    refine mw (vi ((k:Nat):Int)) ?_
    exact f1
   ·intro _ g I _
    have J:=p.extk I
    rintro _ _ rfl _ rfl _ _ _ _ _ _ _ _
    refine sw ?_
    refine ix wN ((k:Nat):Int) slTy_22 (s.from0 J) ?_
    exact f1
   ·intro _ g K _
    have L:=p.extk K
    rintro _ _ rfl _ rfl _ rfl _ _ _ _ _ _ _
    refine sw ?_
    refine eb (x:=d) k wN isAgg_5 (s.from0 L) ?_
    exact f1
   ·intro _ g ad _
    rintro _ _ _ _ _ _ _ _ _ _ _
    refine sw ?_
    refine mw (vs l e.length m) ?_
    exact f1
   ·intro _ g ae _
    rintro _ _ _ _ _ _ _ _ _ _ _
    refine sw ?_
    refine mw (vi ((k:Nat):Int)) ?_
    exact f1
   ·intro _ g M _
    have N:=p.extk M
    rintro _ _ _ _ _ _ rfl _ rfl _ _ _ _
    refine sw ?_
    refine ix wN ((k:Nat):Int) slTy_22 (t.from0 N) ?_
    exact f1
   ·intro _ g O _
    have P:=p.extk O
    rintro _ _ _ _ _ _ rfl _ rfl _ rfl _ _ _
    refine sw ?_
    refine eb (x:=e) k wN isAgg_5 (t.from0 P) ?_
    exact f1
   ·intro _ g af _
    rintro _ _ rfl _ rfl _ rfl _ rfl _ rfl _ rfl _ rfl _ rfl _ _
    refine sw ?_
    refine wl_xor8 (d.getD k 0) (e.getD k 0) wN rfl rfl (by kernel_rfl) ?_
    exact f1
   ·intro _ g ah _
    rintro _ _ rfl _ rfl _ rfl _ rfl _ rfl _ rfl _ rfl _ rfl _ rfl _
    refine sw ?_
    refine ar (((d.getD k 0)^^^(e.getD k 0)).toNat:Int) wN ?_
    exact f1
  ·intro _ g C
   have Q:=p.extk C
   rintro _ rfl _ rfl _ rfl _ rfl _ rfl _ rfl _ rfl _ rfl _ rfl _ rfl _ rfl
   refine sw ?_
   refine wl_or (orX d e k) (((d.getD k 0)^^^(e.getD k 0)).toNat:Int) wN rfl rfl (by kernel_rfl) (by omega) (by omega) (by omega) (by omega) ?_
   have ai:=orI_b (a:=(orX d e k)) (b:=(((d.getD k 0)^^^(e.getD k 0)).toNat:Int)) (by omega) (by omega)
   refine aw (vi (orI (orX d e k) (((d.getD k 0)^^^(e.getD k 0)).toNat:Int))) ?_
   refine wl_nil<|wq_blk_normal<|wq_then<|wc_region ?_
   refine ar (((k:Nat):Int)+1) wN ?_
   refine mw (vi (((k:Nat):Int)+1)) ?_
   refine wl_nil ?_
   refine wq_loopP (w0:=B) [(0,(vs i d.length j)),(1,(vs l e.length m)),(4,(vi 0)),(5,(vi (orX d e (k+1)))),(13,(vi (d.length:Int))),(14,(vi (((k+1):Nat):Int)))] ?_ ?_ ?_
   · exact ⟨rfl,rfl,rfl,(cA (Value.int .i64) (show ((orI (orX d e k) (((d.getD k 0)^^^(e.getD k 0)).toNat:Int)):Int)=(orX d e (k+1)) by rfl)),rfl,(cA (Value.int .i64) (show ((((k:Nat):Int)+1):Int)=(((k+1):Nat):Int) by omega)),trivial⟩
   · exact fun u=>⟨(k+1),u,rfl,Q,(((Ch.refl (fun k=>f.heap.size≤k) f).ext G (fun k hk=>hk)).extk C),(by omega)⟩
   · show d.length - ((((k+1):Nat):Int)).toNat < d.length - (((k:Nat):Int)).toNat;omega

def i_WinMay (a:PWin) (b:Int):(Bool):=bif (iWin a) then (bif (i_within b 0 281474976710655) then (bif (decide (a.Top < b)) then (true) else (bif (decide (((a.Top - 1024)+1)≤b)) then (!(i_hasBit a b)) else (false))) else (false)) else (false)
theorem ciWinMay (h:World) (r:Value) (a:PWin) (A:R_26 h r a) (b:Int) :Fn Try.prog 69 #[r,(vi b)] h (fun v s=>Keep h s∧O_4 s h.heap.size v (i_WinMay a b)):=by
 obtain ⟨i,j,rfl,t,u⟩:=A
 refine fn_ofS (n:=31) [(va (L_26 a i j)),(vi b)] Try.func69 rfl rfl ?_
 refine sr ?_
 refine bx (L_26 a i j) wN ?_
 intro m B L M C w
 have o:=(Ch.base h).extk C
 refine aw (vb false) ?_
 refine n4 ?_
 refine jT1 [(1,(vi b)),(2,(vp m 0)),(4,(vb false))] (i_WinMay a b=false) ?_ fun x=>?_
 ·intro D y E N
  have F:=o.extk E
  refine sr ?_
  refine aw (vb false) ?_
  refine n1 ?_
  refine rt (vb false) ?_
  refine ⟨F.keep0,?_⟩
  rw [D]
  exact rfl
 refine lN (L_26 a i j) wN isAgg_26 sizeOf_26 w ?_
 refine cl wN (ciWinOk B _ a (mR_26 (t.from0 o) u)) ?_
 rintro _ y ⟨k,rfl⟩
 refine pu (vb (!(iWin a))) wN ?_
 refine mw (vb (!(iWin a))) ?_
 rcases bf (iWin a) with e|e
 ·iterate 3 refine sk (cA not e) ?_
  refine pk (vb true) wN (cA not e) ?_
  refine n2 ?_
  refine ct (Eq.refl true) ?_
  have G:i_WinMay a b=false:=by simp only [i_WinMay,e,cond_true,cond_false]
  exact wj (x G _ k)
 have O:=iWin_t e
 refine mv (vi b) (wS (cA not e)) ?_
 refine cl (wS (cA not e)) (ciwithin y b 0 281474976710655) ?_
 rintro _ H ⟨p,rfl⟩
 have l:=(o.extk k).extk p
 refine pu (vb (!(i_within b 0 281474976710655))) (wS (cA not e)) ?_
 refine pf (vb (!(i_within b 0 281474976710655))) wN (cA not e) ?_
 refine n2 ?_
 rcases bf (i_within b 0 281474976710655) with g|g
 ·have P:=impl_within_f g
  refine ct (cA not g) ?_
  have I:i_WinMay a b=false:=by simp only [i_WinMay,e,g,cond_true,cond_false]
  exact wj (x I _ (k.trans p))
 have Q:=impl_within_t g
 refine cf (cA not g) ?_
 refine y1 ?_
 refine mw (vi b) ?_
 refine pu (vp m 0) wN ?_
 have q:=((w.kp k).kp p)
 refine ld (vi a.Top) wN isAgg_3 q ?_
 refine pu (vb (decide (a.Top < b))) wN ?_
 refine mw (vb (decide (a.Top < b))) ?_
 rcases bt (decide (a.Top < b)) with d|d
 ·have R:=dT d
  iterate 7 refine sk d ?_
  refine su ?_
  refine su ?_
  refine su ?_
  refine su ?_
  refine sk d ?_
  refine pk (vb true) wN d ?_
  refine aw (vb true) ?_
  refine n3 ?_
  refine rt (vb true) ?_
  refine ⟨l.keep0,?_⟩
  simp only [i_WinMay,e,g,d,cond_true,cond_false]
  exact rfl
 have S:=dF d
 refine mv (vi b) (wS d) ?_
 refine pu (vp m 0) (wS d) ?_
 refine ld (vi a.Top) (wS d) isAgg_3 q ?_
 refine ar (a.Top - 1024) (wS d) ?_
 refine ar ((a.Top - 1024)+1) (wS d) ?_
 refine pu (vb (decide (((a.Top - 1024)+1)≤b))) (wS d) ?_
 refine mv (vb (decide (((a.Top - 1024)+1)≤b))) (wS d) ?_
 rcases bf (decide (((a.Top - 1024)+1)≤b)) with f|f
 ·have T:=dF f
  iterate 4 refine sk f ?_
  refine pf (vb false) (wS d) f ?_
  refine pf (vb false) wN d ?_
  refine aw (vb false) ?_
  refine n3 ?_
  refine rt (vb false) ?_
  refine ⟨l.keep0,?_⟩
  simp only [i_WinMay,e,g,d,f,cond_true,cond_false]
  exact rfl
 have V:=dT f
 refine lN (L_26 a i j) (wS f) isAgg_26 sizeOf_26 q ?_
 refine mv (vi b) (wS f) ?_
 refine cl (wS f) (cihasBit H _ a (mR_26 (t.from0 l) u) b (by first|assumption|omega) (by first|assumption|omega)) ?_
 rintro _ W ⟨J,rfl⟩
 have K:=l.extk J
 refine pu (vb (!(i_hasBit a b))) (wS f) ?_
 refine pk (vb (!(i_hasBit a b))) (wS d) f ?_
 refine pf (vb (!(i_hasBit a b))) wN d ?_
 refine aw (vb (!(i_hasBit a b))) ?_
 refine n3 ?_
 refine rt (vb (!(i_hasBit a b))) ?_
 refine ⟨K.keep0,?_⟩
 simp only [i_WinMay,e,g,d,f,cond_true,cond_false]
 exact rfl
theorem iMay_t {w:PWin} {n:Int} (h:i_WinMay w n=true):allW w.Bits=true∧w.Bits.length=32 ∧ -1≤w.Top∧w.Top≤281474976710655∧0≤n∧n≤281474976710655:=by
  unfold i_WinMay at h
  cases h1:iWin w with
  | false=>simp only [h1,cond_false] at h;cases h
  | true =>
    cases h2:i_within n 0 281474976710655 with
    | false=>simp only [h1,h2,cond_true,cond_false] at h;cases h
    | true =>
      have a:=iWin_t h1
      have b:=impl_within_t h2
      exact ⟨a.1,a.2.1,a.2.2.1,a.2.2.2,b.1,b.2⟩

def O_26_4 (w:World) (lo:Nat) (v:Value) (x:(PWin)×(Bool)):Prop:=∃ (a:Option Addr) (b:Nat),v=.tuple #[.agg #[.int .i64 x.1.Top,.slice a x.1.Bits.length b],.bool x.2]∧w.ownsRow lo 3 1 (.slice a x.1.Bits.length b) x.1.Bits.length (x.1.Bits.map iV)∧x.1.Bits.length≤1073741824∧Aps [(a,b)]
def iAdd (w:PWin) (n:Int):PWin×Bool:=bif i_WinMay w n then ({Top:=if w.Top < n then n else w.Top,Bits:=addW w.Bits w.Top n:PWin},true) else (w,false)
theorem ciWinAdd (y:World) (X:Value) (d:PWin) (az:R_26 y X d) (e:Int) :Fn Try.prog 54 #[X,(vi e)] y (fun v o=>Keep y o∧O_26_4 o y.heap.size v (iAdd d e)):=by
 obtain ⟨K,L,rfl,Y,Z⟩:=az
 refine fn_ofS (n:=57) [(va (L_26 d K L)),(vi e)] Try.func54 rfl rfl ?_
 refine sr ?_
 refine bx (L_26 d K L) wN ?_
 intro I bd be Q s a0
 refine al [(vi 0),(vs none 0 0)] wN zero_26 ?_
 intro R B aa C p ab
 have ac:=((Ch.base y).extk s).extk p
 refine aw (vb false) ?_
 refine nx ?_
 have ad:=(a0.kp p)
 refine lN (L_26 d K L) wN isAgg_26 sizeOf_26 ad ?_
 refine cl wN (cicopyWin B _ d (mR_26 (Y.from0 ac) Z)) ?_
 rintro _ ae ⟨r,⟨g,i,rfl,m,af,bg⟩⟩
 refine al [(vi 0),(vs none 0 0)] wN zero_26 ?_
 intro t bh q bi D a1
 refine sv (L_26 (d) g i) wN sizeOf_26 a1 ?_
 intro a2 E ah bj
 have ai:=((ac.extk r).extk D).ext E (fun k hk=>by subst hk;exact nT (z3 s p r) q)
 refine n4 ?_
 have aj:=(((ad.kp r).kp D).ch E (nN (nL Q (nT (z2 p r) q))))
 refine lN (L_26 d K L) wN isAgg_26 sizeOf_26 aj ?_
 refine mw (vi e) ?_
 refine cl wN (ciWinMay a2 _ d (mR_26 (Y.from0 ai) Z) e) ?_
 rintro _ S ⟨A,rfl⟩
 have ak:=ai.extk A
 refine pu (vb (!(i_WinMay d e))) wN ?_
 refine n2 ?_
 rcases bf (i_WinMay d e) with F|F
 ·refine ct (cA not F) ?_
  refine sr ?_
  have a3:=(ah.kp A)
  refine lN (L_26 (d) g i) wN isAgg_26 sizeOf_26 a3 ?_
  have a4:=((((ab.kp r).kp D).ch E (nN (nL C (nT r.size q)))).kp A)
  refine sv (L_26 (d) g i) wN sizeOf_26 a4 ?_
  intro M am a5 bk
  have a6:=ak.ext am (fun k hk=>by subst hk;exact nT s.size aa)
  refine aw (vb false) ?_
  refine n1 ?_
  have a7:=(own_ch (own_kp (own_ch (own_kp m D) E (ne2 m (q))) A) am (ne1 m (C)))
  refine ret_2 (.inl rfl) (va (L_26 (d) g i)) (vb false) rfl (rv_c (L_26 (d) g i) rfl a5 isAgg_26 sizeOf_26) rfl ?_
  refine ⟨a6.keep0,?_⟩
  have a8:iAdd d e=((d),false):=by simp only [iAdd,F,cond_true,cond_false]
  rw [a8]
  exact ⟨_,_,rfl,(own_lo a7 (z2 s p)),af,⟨trivial,trivial⟩⟩
 have bl:=iMay_t F
 refine cf (cA not F) ?_
 refine y2 ?_
 refine pu (vp I 0) wN ?_
 have an:=(aj.kp A)
 refine ld (vi d.Top) wN isAgg_3 an ?_
 refine ar (d.Top+1) wN ?_
 refine mw (vi e) ?_
 refine ar (e - 1024) wN ?_
 refine ar ((e - 1024)+1) wN ?_
 refine pu (vi (if (d.Top+1) < ((e - 1024)+1) then ((e - 1024)+1) else (d.Top+1))) wN ?_
 refine aw (vi (if (d.Top+1) < ((e - 1024)+1) then ((e - 1024)+1) else (d.Top+1))) ?_
 refine wl_nil<|wq_then<|wc_block ?_
 have a9:=(own_kp (own_ch (own_kp m D) E (ne2 m (q))) A)
 have aA:((d).Bits:List Int)=clrN d.Bits (if (d.Top+1) < ((e - 1024)+1) then ((e - 1024)+1) else (d.Top+1)) 0:=by rfl
 have aB:=(ah.kp A)
 refine wc_loopP [(1,(vi e)),(2,(vp I 0)),(4,(vp R 0)),(5,(vb false)),(6,(vp t 0)),(7,(vi ((if (d.Top+1) < ((e - 1024)+1) then ((e - 1024)+1) else (d.Top+1))+((0:Nat):Int))))] ⟨rfl,rfl,rfl,rfl,rfl,(cA (Value.int .i64) (show ((if (d.Top+1) < ((e - 1024)+1) then ((e - 1024)+1) else (d.Top+1)):Int)=((if (d.Top+1) < ((e - 1024)+1) then ((e - 1024)+1) else (d.Top+1))+((0:Nat):Int)) by omega)),trivial⟩ (fun e' o=>∃ (j:Nat) (ao:Env),e'=pt ao [(1,(vi e)),(2,(vp I 0)),(4,(vp R 0)),(5,(vb false)),(6,(vp t 0)),(7,(vi ((if (d.Top+1) < ((e - 1024)+1) then ((e - 1024)+1) else (d.Top+1))+((j:Nat):Int))))]∧Ch (fun k=>y.heap.size≤k) y o∧Ch (fun k=>B.heap.size≤k) S o∧((if (d.Top+1) < ((e - 1024)+1) then ((e - 1024)+1) else (d.Top+1))+((j:Nat):Int)≤e∨j=0)∧j≤1024∧World.ownsRow o B.heap.size 3 1 (.slice g ((d).Bits).length i) ((d).Bits).length ((clrN d.Bits (if (d.Top+1) < ((e - 1024)+1) then ((e - 1024)+1) else (d.Top+1)) j).map iV)∧Blk o t 26 [(vi ((d).Top)),(vs g ((d).Bits).length i)]) (fun e' _=>(e - (intOf (e' 7))).toNat) ?_ ?_
 ·exact fun u=>⟨0,u,rfl,ak,(Ch.refl (fun k=>B.heap.size≤k) S),(by omega),(by omega),(by rw [← aA];exact a9),aB⟩
 ·rintro _ M ⟨j,ao,rfl,ap,T,bm,bn,G,N⟩
  have hwl:=clrN_len d.Bits (if (d.Top+1) < ((e - 1024)+1) then ((e - 1024)+1) else (d.Top+1)) j
  have hwi:=wget (clrN_w (l:=d.Bits) (iMay_t (w:=d) (n:=e) (by assumption)).1 (if (d.Top+1) < ((e - 1024)+1) then ((e - 1024)+1) else (d.Top+1)) j) ((((if (d.Top+1) < ((e - 1024)+1) then ((e - 1024)+1) else (d.Top+1))+((j:Nat):Int)) % 1024) / 32).toNat
  have hwn:=wget (clrN_w (l:=d.Bits) (iMay_t (w:=d) (n:=e) (by assumption)).1 (if (d.Top+1) < ((e - 1024)+1) then ((e - 1024)+1) else (d.Top+1)) j) ((e % 1024) / 32).toNat
  refine wc_seq<|sr ?_
  refine mw (vi ((if (d.Top+1) < ((e - 1024)+1) then ((e - 1024)+1) else (d.Top+1))+((j:Nat):Int))) ?_
  refine mw (vi e) ?_
  refine pu (vb (decide (((if (d.Top+1) < ((e - 1024)+1) then ((e - 1024)+1) else (d.Top+1))+((j:Nat):Int)) < e))) wN ?_
  refine n2 ?_
  rcases bf (decide (((if (d.Top+1) < ((e - 1024)+1) then ((e - 1024)+1) else (d.Top+1))+((j:Nat):Int)) < e)) with H|H
  ·have bo:=dF H
   refine cf H ?_
   refine wc_exit<|wq_then_exit<|wq_then_exit<|wq_blk_exit<|wq_then<|wc_seq ?_
   refine wc_drawT ([(39,[],[],(fun _ v _=>v=(vp t 1))),(40,[],[0],(fun _ v _=>v=(vs g ((d).Bits).length i))),(41,[],[],(fun _ v _=>v=(vi e))),(42,[],[2],(fun _ v _=>v=(vi (e % 1024)))),(43,[],[2,3],(fun _ v _=>v=(vi ((e % 1024) / 32)))),(44,[],[0,1,2,3,4],(fun _ v _=>v=(ve (vs g ((d).Bits).length i) ((((e % 1024) / 32)).toNat*1)))),(45,[],[0,1,2,3,4,5],(fun _ v _=>v=(vi ((clrN d.Bits (if (d.Top+1) < ((e - 1024)+1) then ((e - 1024)+1) else (d.Top+1)) j).getD (((e % 1024) / 32)).toNat 0)))),(46,[],[],(fun _ v _=>v=(vi e))),(47,[],[7],(fun _ v _=>v=(vi (e % 32)))),(48,[],[7,8],(fun _ v _=>v=(vi (1*(2:Int) ^ ((e % 32)).toNat))))]:GV) (fun _ o=>Keep M o) [] mixed rfl (by kernel_rfl) (by kernel_rfl) ?_ (fun _ _ h=>h) (fun _ _ _ _ h _ k=>h.trans k) trivial ?_ ?_ ?_
   ·exact ⟨hV,hE,⟨hV,hE,⟨hV,hE,⟨hV,hE,⟨hV,hE,⟨hV,hE,⟨hV,hE,⟨hV,hE,⟨hV,hE,⟨hV,hE,trivial⟩⟩⟩⟩⟩⟩⟩⟩⟩⟩
   ·exact trivial
   ·refine ⟨?_,⟨?_,⟨?_,⟨?_,⟨?_,⟨?_,⟨?_,⟨?_,⟨?_,⟨?_,trivial⟩⟩⟩⟩⟩⟩⟩⟩⟩⟩
    ·intro _ f bp _
     rintro _ _ _ _ _ _ _ _ _ _
     refine sw ?_
     refine pu (vp t 1) wN ?_
     exact f1
    ·intro _ f aC _
     rintro _ rfl _ _ _ _ _ _ _ _ _
     refine sw ?_
     have aD:=(N.kp aC)
     refine ld (vs g ((d).Bits).length i) wN isAgg_24 aD ?_
     exact f1
    ·intro _ f bq _
     rintro _ _ _ _ _ _ _ _ _ _
     refine sw ?_
     refine mw (vi e) ?_
     exact f1
    ·intro _ f br _
     rintro _ _ _ rfl _ _ _ _ _ _ _
     refine sw ?_
     refine wl_rem e 1024 wN rfl rfl (by kernel_rfl) (by first|omega|assumption) ?_
     exact f1
    ·intro _ f bu _
     rintro _ _ _ rfl _ rfl _ _ _ _ _ _
     refine sw ?_
     refine wl_quo (e % 1024) 32 wN rfl rfl (by kernel_rfl) (by omega) (by omega) (by omega) ?_
     exact f1
    ·intro _ f aE _
     rintro _ rfl _ rfl _ rfl _ rfl _ rfl _ _ _ _ _
     refine sw ?_
     have aF:=(own_kp G aE)
     refine ix wN ((e % 1024) / 32) slTy_24 (Rd.of_own aF) ?_
     exact f1
    ·intro _ f aG _
     rintro _ rfl _ rfl _ rfl _ rfl _ rfl _ rfl _ _ _ _
     refine sw ?_
     have aH:=(own_kp G aG)
     refine ei (x:=(clrN d.Bits (if (d.Top+1) < ((e - 1024)+1) then ((e - 1024)+1) else (d.Top+1)) j)) ((((e % 1024) / 32)).toNat) wN isAgg_3 (Rd.of_own aH) ?_
     exact f1
    ·intro _ f bv _
     rintro _ _ _ _ _ _ _ _ _ _
     refine sw ?_
     refine mw (vi e) ?_
     exact f1
    ·intro _ f bw _
     rintro _ _ _ _ _ _ _ _ rfl _ _
     refine sw ?_
     refine wl_rem e 32 wN rfl rfl (by kernel_rfl) (by first|omega|assumption) ?_
     exact f1
    ·intro _ f bz _
     rintro _ _ _ _ _ _ _ _ rfl _ rfl _
     refine sw ?_
     refine wl_shl 1 (e % 32) wN rfl rfl rfl rfl rfl (by omega) (by omega) (by omega) (by omega) ?_
     have b0:=shl1_b ((e % 32)).toNat (by omega)
     exact f1
   ·intro _ f J
    rintro _ rfl _ rfl _ rfl _ rfl _ rfl _ rfl _ rfl _ rfl _ rfl _ rfl
    have b1:=shl1_b ((e % 32)).toNat (by omega)
    refine sw ?_
    refine wl_or ((clrN d.Bits (if (d.Top+1) < ((e - 1024)+1) then ((e - 1024)+1) else (d.Top+1)) j).getD (((e % 1024) / 32)).toNat 0) (1*(2:Int) ^ ((e % 32)).toNat) wN rfl rfl (by kernel_rfl) (by omega) (by omega) (by omega) (by omega) ?_
    have b2:=orI_b (a:=((clrN d.Bits (if (d.Top+1) < ((e - 1024)+1) then ((e - 1024)+1) else (d.Top+1)) j).getD (((e % 1024) / 32)).toNat 0)) (b:=(1*(2:Int) ^ ((e % 32)).toNat)) (by omega) (by omega)
    have aq:=(own_kp G J)
    refine ix wN ((e % 1024) / 32) slTy_24 (Rd.of_own aq) ?_
    refine wl_storeI (clrN d.Bits (if (d.Top+1) < ((e - 1024)+1) then ((e - 1024)+1) else (d.Top+1)) j) ((((e % 1024) / 32)).toNat) ((orI ((clrN d.Bits (if (d.Top+1) < ((e - 1024)+1) then ((e - 1024)+1) else (d.Top+1)) j).getD (((e % 1024) / 32)).toNat 0) (1*(2:Int) ^ ((e % 32)).toNat))) wN rfl rfl rfl (by simp) rfl sizeOf_3 aq (by first|omega|(simp only [List.length_append,List.length_replicate,List.length_take,List.length_set,List.length_map];omega)) ?_
    intro aI O aJ
    have aK:=(ap.extk J).ext O (fun k hk=>nT (z2 s p) (own_lt m k hk).1)
    refine nx ?_
    refine pu (vp I 0) wN ?_
    have aL:=(((an.ch T (Nat.not_le.2 (nL Q p.size))).kp J).ch O (fun h=>by have:=(own_lt m _ h).1;have:=nL Q p.size;omega))
    refine ld (vi d.Top) wN isAgg_3 aL ?_
    refine mw (vi e) ?_
    refine pu (vi (if d.Top < e then e else d.Top)) wN ?_
    refine pu (vp t 0) wN ?_
    have aM:=((N.kp J).ch O (fun h=>by have:=(own_lt m _ h).2;have:=nT (Nat.le_refl ae.heap.size) q;omega))
    refine st (vi (if d.Top < e then e else d.Top)) [(vi (if d.Top < e then e else d.Top))] [(vi (if d.Top < e then e else d.Top)),(vs g ((d).Bits).length i)] wN sizeOf_3 aM ?_
    intro b3 V aN b4
    have aO:=aK.ext V (fun k hk=>by subst hk;exact nT (z3 s p r) q)
    refine nx ?_
    refine lN [(vi (if d.Top < e then e else d.Top)),(vs g ((d).Bits).length i)] wN isAgg_26 sizeOf_26 aN ?_
    have aP:=((((((((ab.kp r).kp D).ch E (nN (nL C (nT r.size q)))).kp A).ch T (Nat.not_le.2 (C))).kp J).ch O (fun h=>by have:=(own_lt m _ h).1;have:=nL C (Nat.le_refl B.heap.size);omega)).ch V (nN (nL C (nT r.size q))))
    refine sv [(vi (if d.Top < e then e else d.Top)),(vs g ((d).Bits).length i)] wN sizeOf_26 aP ?_
    intro b5 au aQ b6
    have aR:=aO.ext au (fun k hk=>by subst hk;exact nT s.size aa)
    refine aw (vb true) ?_
    refine n3 ?_
    have av:=(own_ch (own_ch aJ V (ne2 m (q))) au (ne1 m (C)))
    refine ret_2 (.inl rfl) (va [(vi (if d.Top < e then e else d.Top)),(vs g ((d).Bits).length i)]) (vb true) rfl (rv_c [(vi (if d.Top < e then e else d.Top)),(vs g ((d).Bits).length i)] rfl aQ isAgg_26 sizeOf_26) rfl ?_
    refine ⟨aR.keep0,?_⟩
    have aS:iAdd d e=({Top:=(if d.Top < e then e else d.Top),Bits:=((clrN d.Bits (if (d.Top+1) < ((e - 1024)+1) then ((e - 1024)+1) else (d.Top+1)) j).set ((((e % 1024) / 32)).toNat) (orI ((clrN d.Bits (if (d.Top+1) < ((e - 1024)+1) then ((e - 1024)+1) else (d.Top+1)) j).getD (((e % 1024) / 32)).toNat 0) (1*(2:Int) ^ ((e % 32)).toNat))):PWin},true):=by have hz:=addW_impl (l:=d.Bits) (top:=d.Top) (n:=e) (a:=(if (d.Top+1) < ((e - 1024)+1) then ((e - 1024)+1) else (d.Top+1))) (j:=j) (by omega) (by omega) (by omega);simp only [iAdd,F,H,cond_true];rw [← hz];rfl
    rw [aS]
    have ax:((d).Bits).length=(((clrN d.Bits (if (d.Top+1) < ((e - 1024)+1) then ((e - 1024)+1) else (d.Top+1)) j).set ((((e % 1024) / 32)).toNat) (orI ((clrN d.Bits (if (d.Top+1) < ((e - 1024)+1) then ((e - 1024)+1) else (d.Top+1)) j).getD (((e % 1024) / 32)).toNat 0) (1*(2:Int) ^ ((e % 32)).toNat)))).length:=by first|(simp only [List.length_append,List.length_take,List.length_replicate,List.length_set,List.length_map];done)|(simp only [List.length_append,List.length_take,List.length_replicate,List.length_set,List.length_map];omega)
    rw [ax] at av ⊢
    exact ⟨_,_,rfl,(own_lo av (z2 s p)),(by rw [← ax];exact af),⟨trivial,trivial⟩⟩
  have b7:=dT H
  refine ct H ?_
  refine wc_skip<|wq_then<|wc_seq<|wc_block ?_
  refine wc_drawT ([(27,[],[],(fun _ v _=>v=(vp t 1))),(28,[],[0],(fun _ v _=>v=(vs g ((d).Bits).length i))),(29,[],[],(fun _ v _=>v=(vi ((if (d.Top+1) < ((e - 1024)+1) then ((e - 1024)+1) else (d.Top+1))+((j:Nat):Int))))),(30,[],[2],(fun _ v _=>v=(vi (((if (d.Top+1) < ((e - 1024)+1) then ((e - 1024)+1) else (d.Top+1))+((j:Nat):Int)) % 1024)))),(31,[],[2,3],(fun _ v _=>v=(vi ((((if (d.Top+1) < ((e - 1024)+1) then ((e - 1024)+1) else (d.Top+1))+((j:Nat):Int)) % 1024) / 32)))),(32,[],[0,1,2,3,4],(fun _ v _=>v=(ve (vs g ((d).Bits).length i) ((((((if (d.Top+1) < ((e - 1024)+1) then ((e - 1024)+1) else (d.Top+1))+((j:Nat):Int)) % 1024) / 32)).toNat*1)))),(33,[],[0,1,2,3,4,5],(fun _ v _=>v=(vi ((clrN d.Bits (if (d.Top+1) < ((e - 1024)+1) then ((e - 1024)+1) else (d.Top+1)) j).getD (((((if (d.Top+1) < ((e - 1024)+1) then ((e - 1024)+1) else (d.Top+1))+((j:Nat):Int)) % 1024) / 32)).toNat 0)))),(34,[],[],(fun _ v _=>v=(vi ((if (d.Top+1) < ((e - 1024)+1) then ((e - 1024)+1) else (d.Top+1))+((j:Nat):Int))))),(35,[],[7],(fun _ v _=>v=(vi (((if (d.Top+1) < ((e - 1024)+1) then ((e - 1024)+1) else (d.Top+1))+((j:Nat):Int)) % 32)))),(36,[],[7,8],(fun _ v _=>v=(vi (1*(2:Int) ^ ((((if (d.Top+1) < ((e - 1024)+1) then ((e - 1024)+1) else (d.Top+1))+((j:Nat):Int)) % 32)).toNat))))]:GV) (fun _ o=>Keep M o) [] mixed rfl (by kernel_rfl) (by kernel_rfl) ?_ (fun _ _ h=>h) (fun _ _ _ _ h _ k=>h.trans k) trivial ?_ ?_ ?_
  ·exact ⟨hV,hE,⟨hV,hE,⟨hV,hE,⟨hV,hE,⟨hV,hE,⟨hV,hE,⟨hV,hE,⟨hV,hE,⟨hV,hE,⟨hV,hE,trivial⟩⟩⟩⟩⟩⟩⟩⟩⟩⟩
  ·exact trivial
  ·refine ⟨?_,⟨?_,⟨?_,⟨?_,⟨?_,⟨?_,⟨?_,⟨?_,⟨?_,⟨?_,trivial⟩⟩⟩⟩⟩⟩⟩⟩⟩⟩
   ·intro _ f b8 _
    rintro _ _ _ _ _ _ _ _ _ _
    refine sw ?_
    refine pu (vp t 1) wN ?_
    exact f1
   ·intro _ f aT _
    rintro _ rfl _ _ _ _ _ _ _ _ _
    refine sw ?_
    have aU:=(N.kp aT)
    refine ld (vs g ((d).Bits).length i) wN isAgg_24 aU ?_
    exact f1
   ·intro _ f b9 _
    rintro _ _ _ _ _ _ _ _ _ _
    refine sw ?_
    refine mw (vi ((if (d.Top+1) < ((e - 1024)+1) then ((e - 1024)+1) else (d.Top+1))+((j:Nat):Int))) ?_
    exact f1
   ·intro _ f bA _
    rintro _ _ _ rfl _ _ _ _ _ _ _
    refine sw ?_
    refine wl_rem ((if (d.Top+1) < ((e - 1024)+1) then ((e - 1024)+1) else (d.Top+1))+((j:Nat):Int)) 1024 wN rfl rfl (by kernel_rfl) (by first|omega|assumption) ?_
    exact f1
   ·intro _ f bB _
    rintro _ _ _ rfl _ rfl _ _ _ _ _ _
    refine sw ?_
    refine wl_quo (((if (d.Top+1) < ((e - 1024)+1) then ((e - 1024)+1) else (d.Top+1))+((j:Nat):Int)) % 1024) 32 wN rfl rfl (by kernel_rfl) (by omega) (by omega) (by omega) ?_
    exact f1
   ·intro _ f aV _
    rintro _ rfl _ rfl _ rfl _ rfl _ rfl _ _ _ _ _
    refine sw ?_
    have aW:=(own_kp G aV)
    refine ix wN ((((if (d.Top+1) < ((e - 1024)+1) then ((e - 1024)+1) else (d.Top+1))+((j:Nat):Int)) % 1024) / 32) slTy_24 (Rd.of_own aW) ?_
    exact f1
   ·intro _ f aX _
    rintro _ rfl _ rfl _ rfl _ rfl _ rfl _ rfl _ _ _ _
    refine sw ?_
    have aY:=(own_kp G aX)
    refine ei (x:=(clrN d.Bits (if (d.Top+1) < ((e - 1024)+1) then ((e - 1024)+1) else (d.Top+1)) j)) ((((((if (d.Top+1) < ((e - 1024)+1) then ((e - 1024)+1) else (d.Top+1))+((j:Nat):Int)) % 1024) / 32)).toNat) wN isAgg_3 (Rd.of_own aY) ?_
    exact f1
   ·intro _ f bC _
    rintro _ _ _ _ _ _ _ _ _ _
    refine sw ?_
    refine mw (vi ((if (d.Top+1) < ((e - 1024)+1) then ((e - 1024)+1) else (d.Top+1))+((j:Nat):Int))) ?_
    exact f1
   ·intro _ f bD _
    rintro _ _ _ _ _ _ _ _ rfl _ _
    refine sw ?_
    refine wl_rem ((if (d.Top+1) < ((e - 1024)+1) then ((e - 1024)+1) else (d.Top+1))+((j:Nat):Int)) 32 wN rfl rfl (by kernel_rfl) (by first|omega|assumption) ?_
    exact f1
   ·intro _ f bE _
    rintro _ _ _ _ _ _ _ _ rfl _ rfl _
    refine sw ?_
    refine wl_shl 1 (((if (d.Top+1) < ((e - 1024)+1) then ((e - 1024)+1) else (d.Top+1))+((j:Nat):Int)) % 32) wN rfl rfl rfl rfl rfl (by omega) (by omega) (by omega) (by omega) ?_
    have bF:=shl1_b ((((if (d.Top+1) < ((e - 1024)+1) then ((e - 1024)+1) else (d.Top+1))+((j:Nat):Int)) % 32)).toNat (by omega)
    exact f1
  ·intro _ f P
   rintro _ rfl _ rfl _ rfl _ rfl _ rfl _ rfl _ rfl _ rfl _ rfl _ rfl
   have bG:=shl1_b ((((if (d.Top+1) < ((e - 1024)+1) then ((e - 1024)+1) else (d.Top+1))+((j:Nat):Int)) % 32)).toNat (by omega)
   refine sw ?_
   refine wl_andn ((clrN d.Bits (if (d.Top+1) < ((e - 1024)+1) then ((e - 1024)+1) else (d.Top+1)) j).getD (((((if (d.Top+1) < ((e - 1024)+1) then ((e - 1024)+1) else (d.Top+1))+((j:Nat):Int)) % 1024) / 32)).toNat 0) (1*(2:Int) ^ ((((if (d.Top+1) < ((e - 1024)+1) then ((e - 1024)+1) else (d.Top+1))+((j:Nat):Int)) % 32)).toNat) wN rfl rfl (by kernel_rfl) (by omega) (by omega) (by omega) (by omega) ?_
   have bH:=andnI_b (a:=((clrN d.Bits (if (d.Top+1) < ((e - 1024)+1) then ((e - 1024)+1) else (d.Top+1)) j).getD (((((if (d.Top+1) < ((e - 1024)+1) then ((e - 1024)+1) else (d.Top+1))+((j:Nat):Int)) % 1024) / 32)).toNat 0)) (b:=(1*(2:Int) ^ ((((if (d.Top+1) < ((e - 1024)+1) then ((e - 1024)+1) else (d.Top+1))+((j:Nat):Int)) % 32)).toNat)) (by omega)
   have ay:=(own_kp G P)
   refine ix wN ((((if (d.Top+1) < ((e - 1024)+1) then ((e - 1024)+1) else (d.Top+1))+((j:Nat):Int)) % 1024) / 32) slTy_24 (Rd.of_own ay) ?_
   refine wl_storeI (clrN d.Bits (if (d.Top+1) < ((e - 1024)+1) then ((e - 1024)+1) else (d.Top+1)) j) ((((((if (d.Top+1) < ((e - 1024)+1) then ((e - 1024)+1) else (d.Top+1))+((j:Nat):Int)) % 1024) / 32)).toNat) ((andnI ((clrN d.Bits (if (d.Top+1) < ((e - 1024)+1) then ((e - 1024)+1) else (d.Top+1)) j).getD (((((if (d.Top+1) < ((e - 1024)+1) then ((e - 1024)+1) else (d.Top+1))+((j:Nat):Int)) % 1024) / 32)).toNat 0) (1*(2:Int) ^ ((((if (d.Top+1) < ((e - 1024)+1) then ((e - 1024)+1) else (d.Top+1))+((j:Nat):Int)) % 32)).toNat))) wN rfl rfl rfl (by simp) rfl sizeOf_3 ay (by first|omega|(simp only [List.length_append,List.length_replicate,List.length_take,List.length_set,List.length_map];omega)) ?_
   intro aI W aZ
   have ba:=(ap.extk P).ext W (fun k hk=>nT (z2 s p) (own_lt m k hk).1)
   refine wl_nil<|wq_blk_normal<|wq_then<|wc_region ?_
   refine mw (vi ((if (d.Top+1) < ((e - 1024)+1) then ((e - 1024)+1) else (d.Top+1))+((j:Nat):Int))) ?_
   refine ar (((if (d.Top+1) < ((e - 1024)+1) then ((e - 1024)+1) else (d.Top+1))+((j:Nat):Int))+1) wN ?_
   refine aw (vi (((if (d.Top+1) < ((e - 1024)+1) then ((e - 1024)+1) else (d.Top+1))+((j:Nat):Int))+1)) ?_
   refine wl_nil ?_
   have bb:(((clrN d.Bits (if (d.Top+1) < ((e - 1024)+1) then ((e - 1024)+1) else (d.Top+1)) j).set ((((((if (d.Top+1) < ((e - 1024)+1) then ((e - 1024)+1) else (d.Top+1))+((j:Nat):Int)) % 1024) / 32)).toNat) (andnI ((clrN d.Bits (if (d.Top+1) < ((e - 1024)+1) then ((e - 1024)+1) else (d.Top+1)) j).getD (((((if (d.Top+1) < ((e - 1024)+1) then ((e - 1024)+1) else (d.Top+1))+((j:Nat):Int)) % 1024) / 32)).toNat 0) (1*(2:Int) ^ ((((if (d.Top+1) < ((e - 1024)+1) then ((e - 1024)+1) else (d.Top+1))+((j:Nat):Int)) % 32)).toNat))):List Int)=clrN d.Bits (if (d.Top+1) < ((e - 1024)+1) then ((e - 1024)+1) else (d.Top+1)) (j+1):=by first|rfl|exact clrS _ _
   have bc:=((N.kp P).ch W (fun h=>by have:=(own_lt m _ h).2;have:=nT (Nat.le_refl ae.heap.size) q;omega))
   refine wq_loopP (w0:=M) [(1,(vi e)),(2,(vp I 0)),(4,(vp R 0)),(5,(vb false)),(6,(vp t 0)),(7,(vi ((if (d.Top+1) < ((e - 1024)+1) then ((e - 1024)+1) else (d.Top+1))+(((j+1):Nat):Int))))] ?_ ?_ ?_
   · exact ⟨rfl,rfl,rfl,rfl,rfl,(cA (Value.int .i64) (show ((((if (d.Top+1) < ((e - 1024)+1) then ((e - 1024)+1) else (d.Top+1))+((j:Nat):Int))+1):Int)=((if (d.Top+1) < ((e - 1024)+1) then ((e - 1024)+1) else (d.Top+1))+(((j+1):Nat):Int)) by omega)),trivial⟩
   · exact fun u=>⟨(j+1),u,rfl,ba,((((Ch.refl (fun k=>B.heap.size≤k) S).ext T (fun k hk=>hk)).extk P).ext W (fun k hk=>nT (Nat.le_refl B.heap.size) (own_lt m k hk).1)),(by omega),(by omega),(by rw [← bb];exact aZ),bc⟩
   · show (e - ((if (d.Top+1) < ((e - 1024)+1) then ((e - 1024)+1) else (d.Top+1))+(((j+1):Nat):Int))).toNat < (e - ((if (d.Top+1) < ((e - 1024)+1) then ((e - 1024)+1) else (d.Top+1))+((j:Nat):Int))).toNat;omega

def i_SameTag (a:List UInt8) (b:List UInt8):(Bool):=bif (decide ((a.length:Int)=16)) then (decide ((diffP a b)=0)) else (false)
theorem ciSameTag (e:World) (h:Value) (a:List UInt8) (o:R_22 e h a) (i:Value) (d:List UInt8) (p:R_22 e i d) :Fn Try.prog 70 #[h,i] e (fun v j=>Keep e j∧O_4 j e.heap.size v (i_SameTag a d)):=by
 obtain ⟨f,g,rfl,k,q⟩:=o
 obtain ⟨l,m,rfl,r,s⟩:=p
 refine fn_ofS (n:=14) [(vs f a.length g),(vs l d.length m)] Try.func70 rfl rfl ?_
 refine sr ?_
 refine aw (vb false) ?_
 refine nx ?_
 refine mw (vs f a.length g) ?_
 refine ln wN slTy_22 k ?_
 refine pu (vb (decide ((a.length:Int)=16))) wN ?_
 refine mw (vb (decide ((a.length:Int)=16))) ?_
 rcases bf (decide ((a.length:Int)=16)) with b|b
 ·have w:=dF b
  iterate 4 refine sk b ?_
  refine pf (vb false) wN b ?_
  refine aw (vb false) ?_
  refine n3 ?_
  refine rt (vb false) ?_
  refine ⟨Ch.refl _ _,?_⟩
  simp only [i_SameTag,b,cond_true,cond_false]
  exact rfl
 have x:=dT b
 refine mv (vs f a.length g) (wS b) ?_
 refine mv (vs l d.length m) (wS b) ?_
 refine cl (wS b) (ciDiff e _ a (mR_22 k q) _ d (mR_22 r s)) ?_
 rintro _ y ⟨t,rfl⟩
 have u:=(Ch.base e).extk t
 refine pu (vb (decide ((diffP a d)=0))) (wS b) ?_
 refine pk (vb (decide ((diffP a d)=0))) wN b ?_
 refine aw (vb (decide ((diffP a d)=0))) ?_
 refine n3 ?_
 refine rt (vb (decide ((diffP a d)=0))) ?_
 refine ⟨u.keep0,?_⟩
 simp only [i_SameTag,b,cond_true,cond_false]
 exact rfl

def i_Unseal (b:List UInt8) (d:Int) (a:PFrame):(List UInt8)×(Bool):=bif (decide ((b.length:Int)=32)) then (bif (decide (((i_TagInput d a).length:Int)=0)) then (([],false)) else (bif (i_SameTag a.Tag (tagP b (i_TagInput d a))) then (((mixB b (headOf d a.Sn a.Epoch a.Seq) a.Body),true)) else (([],false)))) else (([],false))
theorem ciUnseal (x:World) (ac:Value) (f:List UInt8) (ax:R_22 x ac f) (d:Int) (ad:Value) (a:PFrame) (ay:R_32 x ad a) :Fn Try.prog 55 #[ac,(vi d),ad] x (fun v o=>Keep x o∧O_22_4 o x.heap.size v (i_Unseal f d a)):=by
 obtain ⟨l,m,rfl,C,ae⟩:=ax
 obtain ⟨L,M,D,E,N,O,P,Q,F,G,H,I,rfl,az,a0,af,ah,a1,a2,a3,a4,ai,aj,ak,am⟩:=ay
 refine fn_ofS (n:=41) [(vs l f.length m),(vi d),(va (L_32 a L M D E N O P Q F G H I))] Try.func55 rfl rfl ?_
 refine sr ?_
 refine bx (L_32 a L M D E N O P Q F G H I) wN ?_
 intro p R bp bq an y
 have q:=(Ch.base x).extk an
 refine aw (vs none 0 0) ?_
 refine aw (vb false) ?_
 refine nx ?_
 refine mw (vi d) ?_
 refine lN (L_32 a L M D E N O P Q F G H I) wN isAgg_32 sizeOf_32 y ?_
 refine cl wN (ciTagInput R d _ a (mR_32 (az.from0 q) a0 (af.from0 q) ah (a1.from0 q) a2 (a3.from0 q) a4 (ai.from0 q) aj (ak.from0 q) am)) ?_
 rintro _ K ⟨r,⟨s,t,rfl,S,a5,br⟩⟩
 have u:=q.extk r
 refine aw (vs s (i_TagInput d a).length t) ?_
 refine wl_nil<|wq_then<|wc_seq<|wc_seq ?_
 rcases bf (decide ((f.length:Int)=32)) with i|i
 ·have bu:=dF i
  refine wc_drawT ([(12,[],[],(fun _ v _=>v=(vs l f.length m))),(13,[],[0],(fun _ v _=>v=(vi (f.length:Int)))),(14,[],[0,1],(fun _ v _=>v=(vb (!(decide ((f.length:Int)=32)))))),(15,[],[0,1,2],(fun _ v _=>v=(vb (!(decide ((f.length:Int)=32)))))),(16,[],[0,1,2,3],(fun _ v _=>v=U)),(17,[],[0,1,2,3,4],(fun _ v _=>v=U)),(18,[],[0,1,2,3,4,5],(fun _ v _=>v=U)),(19,[],[0,1,2,3,4,5,6],(fun _ v _=>v=(vb true))),(20,[],[0,1,2,3,4,5,6,7],(fun _ v _=>v=(vb true))),(21,[],[0,1,2,3,4,5,6,7,8],(fun _ v _=>v=U)),(22,[],[0,1,2,3,4,5,6,7,8,9],(fun _ v _=>v=U)),(23,[],[0,1,2,3,4,5,6,7,8],(fun _ v _=>v=U)),(24,[],[0,1,2,3,4,5,6,7,8],(fun _ v _=>v=U)),(25,[],[0,1,2,3,4,5,6,7,8,11,12],(fun _ v _=>v=U))]:GV) (fun _ o=>Keep K o) [] mixed rfl (by kernel_rfl) (by kernel_rfl) ?_ (fun _ _ h=>h) (fun _ _ _ _ h _ k=>h.trans k) trivial ?_ ?_ ?_
  ·exact ⟨hV,hE,⟨hV,hE,⟨hV,hE,⟨hV,hE,⟨hV,hE,⟨hV,hE,⟨hV,hE,⟨hV,hE,⟨hV,hE,⟨hV,hE,⟨hV,hE,⟨hV,hE,⟨hV,hE,⟨hV,hE,trivial⟩⟩⟩⟩⟩⟩⟩⟩⟩⟩⟩⟩⟩⟩
  ·exact trivial
  ·refine ⟨?_,⟨?_,⟨?_,⟨?_,⟨?_,⟨?_,⟨?_,⟨?_,⟨?_,⟨?_,⟨?_,⟨?_,⟨?_,⟨?_,trivial⟩⟩⟩⟩⟩⟩⟩⟩⟩⟩⟩⟩⟩⟩
   ·intro _ b bv _
    rintro _ _ _ _ _ _ _ _ _ _ _ _ _ _
    refine sw ?_
    refine mw (vs l f.length m) ?_
    exact f1
   ·intro _ b a6 _
    have a7:=u.extk a6
    rintro _ rfl _ _ _ _ _ _ _ _ _ _ _ _ _
    refine sw ?_
    refine ln wN slTy_22 (C.from0 a7) ?_
    exact f1
   ·intro _ b bw _
    rintro _ rfl _ rfl _ _ _ _ _ _ _ _ _ _ _ _
    refine sw ?_
    refine pu (vb (!(decide ((f.length:Int)=32)))) wN ?_
    exact f1
   ·intro _ b bz _
    rintro _ rfl _ rfl _ rfl _ _ _ _ _ _ _ _ _ _ _
    refine sw ?_
    refine mw (vb (!(decide ((f.length:Int)=32)))) ?_
    exact f1
   ·intro _ b b0 _
    rintro _ rfl _ rfl _ rfl _ rfl _ _ _ _ _ _ _ _ _ _
    refine sw ?_
    refine sk (cA not i) ?_
    exact f1
   ·intro _ b b1 _
    rintro _ rfl _ rfl _ rfl _ rfl _ rfl _ _ _ _ _ _ _ _ _
    refine sw ?_
    refine sk (cA not i) ?_
    exact f1
   ·intro _ b b2 _
    rintro _ rfl _ rfl _ rfl _ rfl _ rfl _ rfl _ _ _ _ _ _ _ _
    refine sw ?_
    refine sk (cA not i) ?_
    exact f1
   ·intro _ b b3 _
    rintro _ rfl _ rfl _ rfl _ rfl _ rfl _ rfl _ rfl _ _ _ _ _ _ _
    refine sw ?_
    refine pk (vb true) wN (cA not i) ?_
    exact f1
   ·intro _ b b4 _
    rintro _ rfl _ rfl _ rfl _ rfl _ rfl _ rfl _ rfl _ rfl _ _ _ _ _ _
    refine sw ?_
    refine mw (vb true) ?_
    exact f1
   ·intro _ b b5 _
    rintro _ rfl _ rfl _ rfl _ rfl _ rfl _ rfl _ rfl _ rfl _ rfl _ _ _ _ _
    refine sw ?_
    refine sk T1 ?_
    exact f1
   ·intro _ b b6 _
    rintro _ rfl _ rfl _ rfl _ rfl _ rfl _ rfl _ rfl _ rfl _ rfl _ rfl _ _ _ _
    refine sw ?_
    refine sk T1 ?_
    exact f1
   ·intro _ b b7 _
    rintro _ rfl _ rfl _ rfl _ rfl _ rfl _ rfl _ rfl _ rfl _ rfl _ _ _ _ _
    refine sw ?_
    refine sk T1 ?_
    exact f1
   ·intro _ b b8 _
    rintro _ rfl _ rfl _ rfl _ rfl _ rfl _ rfl _ rfl _ rfl _ rfl _ _ _ _ _
    refine sw ?_
    refine sk T1 ?_
    exact f1
   ·intro _ b b9 _
    rintro _ rfl _ rfl _ rfl _ rfl _ rfl _ rfl _ rfl _ rfl _ rfl _ _ _ rfl _ rfl _
    refine sw ?_
    refine sk T1 ?_
    exact f1
  ·intro _ b a8
   have a9:=u.extk a8
   rintro _ rfl _ rfl _ rfl _ rfl _ rfl _ rfl _ rfl _ rfl _ rfl _ rfl _ rfl _ rfl _ rfl _ rfl
   refine sw ?_
   iterate 2 refine sk (Eq.refl true) ?_
   refine pk (vb true) wN (Eq.refl true) ?_
   refine n2 ?_
   refine ct (Eq.refl true) ?_
   refine sr ?_
   refine aw (vs none 0 0) ?_
   refine aw (vb false) ?_
   refine n1 ?_
   refine ret_2 (.inl rfl) (vs none 0 0) (vb false) rfl rfl rfl ?_
   refine ⟨a9.keep0,?_⟩
   simp only [i_Unseal,i,cond_true,cond_false]
   exact ⟨_,_,rfl,(by first|exact own_nil _ _ _ _|exact OLv.nil _ _ _ _),(by simp),⟨trivial,trivial⟩⟩
 have bA:=dT i
 rcases bt (decide (((i_TagInput d a).length:Int)=0)) with g|g
 ·have bB:=dT g
  refine wc_drawT ([(12,[],[],(fun _ v _=>v=(vs l f.length m))),(13,[],[0],(fun _ v _=>v=(vi (f.length:Int)))),(14,[],[0,1],(fun _ v _=>v=(vb (!(decide ((f.length:Int)=32)))))),(15,[],[0,1,2],(fun _ v _=>v=(vb (!(decide ((f.length:Int)=32)))))),(16,[],[0,1,2,3],(fun _ v _=>v=(vs s (i_TagInput d a).length t))),(17,[],[0,1,2,3,4],(fun _ v _=>v=(vi ((i_TagInput d a).length:Int)))),(18,[],[0,1,2,3,4,5],(fun _ v _=>v=(vb (decide (((i_TagInput d a).length:Int)=0))))),(19,[],[0,1,2,3,4,5,6],(fun _ v _=>v=(vb (decide (((i_TagInput d a).length:Int)=0))))),(20,[],[0,1,2,3,4,5,6,7],(fun _ v _=>v=(vb (decide (((i_TagInput d a).length:Int)=0))))),(21,[],[0,1,2,3,4,5,6,7,8],(fun _ v _=>v=U)),(22,[],[0,1,2,3,4,5,6,7,8,9],(fun _ v _=>v=U)),(23,[],[0,1,2,3,4,5,6,7,8],(fun _ v _=>v=U)),(24,[],[0,1,2,3,4,5,6,7,8],(fun _ v _=>v=U)),(25,[],[0,1,2,3,4,5,6,7,8,11,12],(fun _ v _=>v=U))]:GV) (fun _ o=>Keep K o) [] mixed rfl (by kernel_rfl) (by kernel_rfl) ?_ (fun _ _ h=>h) (fun _ _ _ _ h _ k=>h.trans k) trivial ?_ ?_ ?_
  ·exact ⟨hV,hE,⟨hV,hE,⟨hV,hE,⟨hV,hE,⟨hV,hE,⟨hV,hE,⟨hV,hE,⟨hV,hE,⟨hV,hE,⟨hV,hE,⟨hV,hE,⟨hV,hE,⟨hV,hE,⟨hV,hE,trivial⟩⟩⟩⟩⟩⟩⟩⟩⟩⟩⟩⟩⟩⟩
  ·exact trivial
  ·refine ⟨?_,⟨?_,⟨?_,⟨?_,⟨?_,⟨?_,⟨?_,⟨?_,⟨?_,⟨?_,⟨?_,⟨?_,⟨?_,⟨?_,trivial⟩⟩⟩⟩⟩⟩⟩⟩⟩⟩⟩⟩⟩⟩
   ·intro _ b bC _
    rintro _ _ _ _ _ _ _ _ _ _ _ _ _ _
    refine sw ?_
    refine mw (vs l f.length m) ?_
    exact f1
   ·intro _ b aA _
    have aB:=u.extk aA
    rintro _ rfl _ _ _ _ _ _ _ _ _ _ _ _ _
    refine sw ?_
    refine ln wN slTy_22 (C.from0 aB) ?_
    exact f1
   ·intro _ b bD _
    rintro _ rfl _ rfl _ _ _ _ _ _ _ _ _ _ _ _
    refine sw ?_
    refine pu (vb (!(decide ((f.length:Int)=32)))) wN ?_
    exact f1
   ·intro _ b bE _
    rintro _ rfl _ rfl _ rfl _ _ _ _ _ _ _ _ _ _ _
    refine sw ?_
    refine mw (vb (!(decide ((f.length:Int)=32)))) ?_
    exact f1
   ·intro _ b bF _
    rintro _ rfl _ rfl _ rfl _ rfl _ _ _ _ _ _ _ _ _ _
    refine sw ?_
    refine mv (vs s (i_TagInput d a).length t) (wS (cA not i)) ?_
    exact f1
   ·intro _ b aC _
    rintro _ rfl _ rfl _ rfl _ rfl _ rfl _ _ _ _ _ _ _ _ _
    refine sw ?_
    have aD:=(own_kp S aC)
    refine ln (wS (cA not i)) slTy_22 (Rd.of_own aD) ?_
    exact f1
   ·intro _ b bG _
    rintro _ rfl _ rfl _ rfl _ rfl _ rfl _ rfl _ _ _ _ _ _ _ _
    refine sw ?_
    refine pu (vb (decide (((i_TagInput d a).length:Int)=0))) (wS (cA not i)) ?_
    exact f1
   ·intro _ b bH _
    rintro _ rfl _ rfl _ rfl _ rfl _ rfl _ rfl _ rfl _ _ _ _ _ _ _
    refine sw ?_
    refine pf (vb (decide (((i_TagInput d a).length:Int)=0))) wN (cA not i) ?_
    exact f1
   ·intro _ b bI _
    rintro _ rfl _ rfl _ rfl _ rfl _ rfl _ rfl _ rfl _ rfl _ _ _ _ _ _
    refine sw ?_
    refine mw (vb (decide (((i_TagInput d a).length:Int)=0))) ?_
    exact f1
   ·intro _ b bJ _
    rintro _ rfl _ rfl _ rfl _ rfl _ rfl _ rfl _ rfl _ rfl _ rfl _ _ _ _ _
    refine sw ?_
    refine sk g ?_
    exact f1
   ·intro _ b bK _
    rintro _ rfl _ rfl _ rfl _ rfl _ rfl _ rfl _ rfl _ rfl _ rfl _ rfl _ _ _ _
    refine sw ?_
    refine sk g ?_
    exact f1
   ·intro _ b bL _
    rintro _ rfl _ rfl _ rfl _ rfl _ rfl _ rfl _ rfl _ rfl _ rfl _ _ _ _ _
    refine sw ?_
    refine sk g ?_
    exact f1
   ·intro _ b bM _
    rintro _ rfl _ rfl _ rfl _ rfl _ rfl _ rfl _ rfl _ rfl _ rfl _ _ _ _ _
    refine sw ?_
    refine sk g ?_
    exact f1
   ·intro _ b bN _
    rintro _ rfl _ rfl _ rfl _ rfl _ rfl _ rfl _ rfl _ rfl _ rfl _ _ _ rfl _ rfl _
    refine sw ?_
    refine sk g ?_
    exact f1
  ·intro _ b aE
   have aF:=u.extk aE
   rintro _ rfl _ rfl _ rfl _ rfl _ rfl _ rfl _ rfl _ rfl _ rfl _ rfl _ rfl _ rfl _ rfl _ rfl
   refine sw ?_
   iterate 2 refine sk g ?_
   refine pk (vb true) wN g ?_
   refine n2 ?_
   refine ct (Eq.refl true) ?_
   refine sr ?_
   refine aw (vs none 0 0) ?_
   refine aw (vb false) ?_
   refine n1 ?_
   refine ret_2 (.inl rfl) (vs none 0 0) (vb false) rfl rfl rfl ?_
   refine ⟨aF.keep0,?_⟩
   simp only [i_Unseal,i,g,cond_true,cond_false]
   exact ⟨_,_,rfl,(by first|exact own_nil _ _ _ _|exact OLv.nil _ _ _ _),(by simp),⟨trivial,trivial⟩⟩
 have bO:=dF g
 refine wc_drawT ([(12,[],[],(fun _ v _=>v=(vs l f.length m))),(13,[],[0],(fun _ v _=>v=(vi (f.length:Int)))),(14,[],[0,1],(fun _ v _=>v=(vb (!(decide ((f.length:Int)=32)))))),(15,[],[0,1,2],(fun _ v _=>v=(vb (!(decide ((f.length:Int)=32)))))),(16,[],[0,1,2,3],(fun _ v _=>v=(vs s (i_TagInput d a).length t))),(17,[],[0,1,2,3,4],(fun _ v _=>v=(vi ((i_TagInput d a).length:Int)))),(18,[],[0,1,2,3,4,5],(fun _ v _=>v=(vb (decide (((i_TagInput d a).length:Int)=0))))),(19,[],[0,1,2,3,4,5,6],(fun _ v _=>v=(vb (decide (((i_TagInput d a).length:Int)=0))))),(20,[],[0,1,2,3,4,5,6,7],(fun _ v _=>v=(vb (decide (((i_TagInput d a).length:Int)=0))))),(21,[],[0,1,2,3,4,5,6,7,8],(fun _ v _=>v=(vp p 10))),(22,[],[0,1,2,3,4,5,6,7,8,9],(fun _ v _=>v=(vs H a.Tag.length I))),(23,[],[0,1,2,3,4,5,6,7,8],(fun _ v _=>v=(vs l f.length m))),(24,[],[0,1,2,3,4,5,6,7,8],(fun _ v _=>v=(vs s (i_TagInput d a).length t))),(25,[],[0,1,2,3,4,5,6,7,8,11,12],(fun _ v w=>O_22 w K.heap.size v (tagP f (i_TagInput d a))))]:GV) (fun _ o=>Keep K o) [] mixed rfl (by kernel_rfl) (by kernel_rfl) ?_ (fun _ _ h=>h) (fun _ _ _ _ h _ k=>h.trans k) trivial ?_ ?_ ?_
 ·exact ⟨hV,hE,⟨hV,hE,⟨hV,hE,⟨hV,hE,⟨hV,hE,⟨hV,hE,⟨hV,hE,⟨hV,hE,⟨hV,hE,⟨hV,hE,⟨hV,hE,⟨hV,hE,⟨hV,hE,⟨(fun e v w R h hk=>by obtain ⟨T,V,he,W,X,hap⟩:=h;exact ⟨T,V,he,own_kp W hk,X,hap⟩),hE,trivial⟩⟩⟩⟩⟩⟩⟩⟩⟩⟩⟩⟩⟩⟩
 ·exact trivial
 ·refine ⟨?_,⟨?_,⟨?_,⟨?_,⟨?_,⟨?_,⟨?_,⟨?_,⟨?_,⟨?_,⟨?_,⟨?_,⟨?_,⟨?_,trivial⟩⟩⟩⟩⟩⟩⟩⟩⟩⟩⟩⟩⟩⟩
  ·intro _ b bP _
   rintro _ _ _ _ _ _ _ _ _ _ _ _ _ _
   refine sw ?_
   refine mw (vs l f.length m) ?_
   exact f1
  ·intro _ b aG _
   have aH:=u.extk aG
   rintro _ rfl _ _ _ _ _ _ _ _ _ _ _ _ _
   refine sw ?_
   refine ln wN slTy_22 (C.from0 aH) ?_
   exact f1
  ·intro _ b bQ _
   rintro _ rfl _ rfl _ _ _ _ _ _ _ _ _ _ _ _
   refine sw ?_
   refine pu (vb (!(decide ((f.length:Int)=32)))) wN ?_
   exact f1
  ·intro _ b bR _
   rintro _ rfl _ rfl _ rfl _ _ _ _ _ _ _ _ _ _ _
   refine sw ?_
   refine mw (vb (!(decide ((f.length:Int)=32)))) ?_
   exact f1
  ·intro _ b bS _
   rintro _ rfl _ rfl _ rfl _ rfl _ _ _ _ _ _ _ _ _ _
   refine sw ?_
   refine mv (vs s (i_TagInput d a).length t) (wS (cA not i)) ?_
   exact f1
  ·intro _ b aI _
   rintro _ rfl _ rfl _ rfl _ rfl _ rfl _ _ _ _ _ _ _ _ _
   refine sw ?_
   have aJ:=(own_kp S aI)
   refine ln (wS (cA not i)) slTy_22 (Rd.of_own aJ) ?_
   exact f1
  ·intro _ b bT _
   rintro _ rfl _ rfl _ rfl _ rfl _ rfl _ rfl _ _ _ _ _ _ _ _
   refine sw ?_
   refine pu (vb (decide (((i_TagInput d a).length:Int)=0))) (wS (cA not i)) ?_
   exact f1
  ·intro _ b bU _
   rintro _ rfl _ rfl _ rfl _ rfl _ rfl _ rfl _ rfl _ _ _ _ _ _ _
   refine sw ?_
   refine pf (vb (decide (((i_TagInput d a).length:Int)=0))) wN (cA not i) ?_
   exact f1
  ·intro _ b bW _
   rintro _ rfl _ rfl _ rfl _ rfl _ rfl _ rfl _ rfl _ rfl _ _ _ _ _ _
   refine sw ?_
   refine mw (vb (decide (((i_TagInput d a).length:Int)=0))) ?_
   exact f1
  ·intro _ b bX _
   rintro _ rfl _ rfl _ rfl _ rfl _ rfl _ rfl _ rfl _ rfl _ rfl _ _ _ _ _
   refine sw ?_
   refine pu (vp p 10) (wS g) ?_
   exact f1
  ·intro _ b aK _
   rintro _ rfl _ rfl _ rfl _ rfl _ rfl _ rfl _ rfl _ rfl _ rfl _ rfl _ _ _ _
   refine sw ?_
   have aL:=((y.kp r).kp aK)
   refine ld (vs H a.Tag.length I) (wS g) isAgg_22 aL ?_
   exact f1
  ·intro _ b bY _
   rintro _ rfl _ rfl _ rfl _ rfl _ rfl _ rfl _ rfl _ rfl _ rfl _ _ _ _ _
   refine sw ?_
   refine mv (vs l f.length m) (wS g) ?_
   exact f1
  ·intro _ b bZ _
   rintro _ rfl _ rfl _ rfl _ rfl _ rfl _ rfl _ rfl _ rfl _ rfl _ _ _ _ _
   refine sw ?_
   refine mv (vs s (i_TagInput d a).length t) (wS g) ?_
   exact f1
  ·intro _ b Y _
   have aM:=u.extk Y
   rintro _ rfl _ rfl _ rfl _ rfl _ rfl _ rfl _ rfl _ rfl _ rfl _ _ _ rfl _ rfl _
   refine sw ?_
   have aN:=(own_kp S Y)
   refine cl (wS g) (ciTag b _ f (mR_22 (C.from0 aM) ae) _ (i_TagInput d a) (mR_22 (Rd.of_own aN) a5)) ?_
   rintro _ Z ⟨aO,⟨ca,cb,rfl,aP,aQ,aR⟩⟩
   have cc:=tagP_len f (i_TagInput d a)
   exact wl_finT aO ⟨_,_,rfl,(own_lo aP Y.size),aQ,aR⟩
 ·intro _ b A
  have ao:=u.extk A
  rintro _ rfl _ rfl _ rfl _ rfl _ rfl _ rfl _ rfl _ rfl _ rfl _ rfl _ rfl _ rfl _ rfl _ ⟨cd,ce,rfl,aS,aT,cg⟩
  have ci:=tagP_len f (i_TagInput d a)
  refine sw ?_
  refine cl (wS g) (ciSameTag b _ a.Tag (mR_22 (ak.from0 ao) am) _ (tagP f (i_TagInput d a)) (mR_22 (Rd.of_own aS) aT)) ?_
  rintro _ Z ⟨B,rfl⟩
  have aa:=ao.extk B
  refine pu (vb (!(i_SameTag a.Tag (tagP f (i_TagInput d a))))) (wS g) ?_
  refine pf (vb (!(i_SameTag a.Tag (tagP f (i_TagInput d a))))) wN g ?_
  refine n2 ?_
  rcases bf (i_SameTag a.Tag (tagP f (i_TagInput d a))) with J|J
  ·refine ct (cA not J) ?_
   refine sr ?_
   refine aw (vs none 0 0) ?_
   refine aw (vb false) ?_
   refine n1 ?_
   refine ret_2 (.inl rfl) (vs none 0 0) (vb false) rfl rfl rfl ?_
   refine ⟨aa.keep0,?_⟩
   simp only [i_Unseal,i,g,J,cond_true,cond_false]
   exact ⟨_,_,rfl,(by first|exact own_nil _ _ _ _|exact OLv.nil _ _ _ _),(by simp),⟨trivial,trivial⟩⟩
  refine cf (cA not J) ?_
  refine wc_skip<|wq_then<|wc_seq ?_
  refine wc_drawT ([(29,[],[],(fun _ v _=>v=(vs l f.length m))),(30,[],[],(fun _ v _=>v=(vi d))),(31,[],[],(fun _ v _=>v=(vp p 3))),(32,[],[2],(fun _ v _=>v=(vs D a.Sn.length E))),(33,[],[],(fun _ v _=>v=(vp p 7))),(34,[],[4],(fun _ v _=>v=(vi a.Epoch))),(35,[],[],(fun _ v _=>v=(vp p 8))),(36,[],[6],(fun _ v _=>v=(vi a.Seq))),(37,[],[1,2,3,4,5,6,7],(fun _ v w=>O_22 w Z.heap.size v (headOf d a.Sn a.Epoch a.Seq))),(38,[],[],(fun _ v _=>v=(vp p 9))),(39,[],[9],(fun _ v _=>v=(vs F a.Body.length G)))]:GV) (fun _ o=>Keep Z o) [] mixed rfl (by kernel_rfl) (by kernel_rfl) ?_ (fun _ _ h=>h) (fun _ _ _ _ h _ k=>h.trans k) trivial ?_ ?_ ?_
  ·exact ⟨hV,hE,⟨hV,hE,⟨hV,hE,⟨hV,hE,⟨hV,hE,⟨hV,hE,⟨hV,hE,⟨hV,hE,⟨(fun e v w R h hk=>by obtain ⟨T,V,he,W,X,hap⟩:=h;exact ⟨T,V,he,own_kp W hk,X,hap⟩),hE,⟨hV,hE,⟨hV,hE,trivial⟩⟩⟩⟩⟩⟩⟩⟩⟩⟩⟩
  ·exact trivial
  ·refine ⟨?_,⟨?_,⟨?_,⟨?_,⟨?_,⟨?_,⟨?_,⟨?_,⟨?_,⟨?_,⟨?_,trivial⟩⟩⟩⟩⟩⟩⟩⟩⟩⟩⟩
   ·intro _ j cj _
    rintro _ _ _ _ _ _ _ _ _ _ _
    refine sw ?_
    refine mw (vs l f.length m) ?_
    exact f1
   ·intro _ j ck _
    rintro _ _ _ _ _ _ _ _ _ _ _
    refine sw ?_
    refine mw (vi d) ?_
    exact f1
   ·intro _ j cm _
    rintro _ _ _ _ _ _ _ _ _ _ _
    refine sw ?_
    refine pu (vp p 3) wN ?_
    exact f1
   ·intro _ j aU _
    rintro _ _ _ rfl _ _ _ _ _ _ _ _
    refine sw ?_
    have aV:=((((y.kp r).kp A).kp B).kp aU)
    refine ld (vs D a.Sn.length E) wN isAgg_22 aV ?_
    exact f1
   ·intro _ j cn _
    rintro _ _ _ _ _ _ _ _ _ _ _
    refine sw ?_
    refine pu (vp p 7) wN ?_
    exact f1
   ·intro _ j aW _
    rintro _ _ _ _ _ rfl _ _ _ _ _ _
    refine sw ?_
    have aX:=((((y.kp r).kp A).kp B).kp aW)
    refine ld (vi a.Epoch) wN isAgg_3 aX ?_
    exact f1
   ·intro _ j co _
    rintro _ _ _ _ _ _ _ _ _ _ _
    refine sw ?_
    refine pu (vp p 8) wN ?_
    exact f1
   ·intro _ j aY _
    rintro _ _ _ _ _ _ _ rfl _ _ _ _
    refine sw ?_
    have aZ:=((((y.kp r).kp A).kp B).kp aY)
    refine ld (vi a.Seq) wN isAgg_3 aZ ?_
    exact f1
   ·intro _ j ap _
    have ba:=aa.extk ap
    rintro _ _ rfl _ rfl _ rfl _ rfl _ rfl _ rfl _ rfl _ _ _
    refine sw ?_
    refine cl wN (ciHeadOf j d _ a.Sn (mR_22 (af.from0 ba) ah) a.Epoch a.Seq) ?_
    rintro _ bb ⟨bc,⟨cp,cq,rfl,bd,be,bg⟩⟩
    have cr:=headOf_len d a.Sn a.Epoch a.Seq
    exact wl_finT bc ⟨_,_,rfl,(own_lo bd ap.size),be,bg⟩
   ·intro _ j cs _
    rintro _ _ _ _ _ _ _ _ _ _ _
    refine sw ?_
    refine pu (vp p 9) wN ?_
    exact f1
   ·intro _ j bh _
    rintro _ _ _ _ _ _ _ _ _ _ rfl _
    refine sw ?_
    have bi:=((((y.kp r).kp A).kp B).kp bh)
    refine ld (vs F a.Body.length G) wN isAgg_22 bi ?_
    exact f1
  ·intro _ j aq
   have ab:=aa.extk aq
   rintro _ rfl _ rfl _ rfl _ rfl _ rfl _ rfl _ rfl _ rfl _ ⟨cu,cv,rfl,bj,bk,cw⟩
   have cx:=headOf_len d a.Sn a.Epoch a.Seq
   rintro _ rfl _ rfl
   refine sw ?_
   refine cl wN (ciMix j _ f (mR_22 (C.from0 ab) ae) _ (headOf d a.Sn a.Epoch a.Seq) (mR_22 (Rd.of_own bj) bk) _ a.Body (mR_22 (ai.from0 ab) aj)) ?_
   rintro _ bb ⟨bl,⟨au,av,rfl,bm,bn,cy⟩⟩
   have bo:=ab.extk bl
   have cz:=mixB_len f (headOf d a.Sn a.Epoch a.Seq) a.Body
   refine aw (vs au (mixB f (headOf d a.Sn a.Epoch a.Seq) a.Body).length av) ?_
   refine aw (vb true) ?_
   refine n3 ?_
   refine ret_2 (.inl rfl) (vs au (mixB f (headOf d a.Sn a.Epoch a.Seq) a.Body).length av) (vb true) rfl rfl rfl ?_
   refine ⟨bo.keep0,?_⟩
   simp only [i_Unseal,i,g,J,cond_true,cond_false]
   exact ⟨_,_,rfl,(own_lo bm (z5 an r A B aq)),bn,⟨trivial,trivial⟩⟩

def O_28_22_3 (w:World) (lo:Nat) (v:Value) (x:(PEp)×(List UInt8)×(Int)):Prop:=∃ (a:Option Addr) (b:Nat) (d:Option Addr) (e:Nat) (f:Option Addr) (g:Nat),v=.tuple #[.agg #[.int .i64 x.1.N,.slice a x.1.Key.length b,.int .i64 x.1.Seq,.int .i64 x.1.Win.Top,.slice d x.1.Win.Bits.length e],.slice f x.2.1.length g,.int .i64 x.2.2]∧w.ownsRow lo 5 1 (.slice a x.1.Key.length b) x.1.Key.length (x.1.Key.map bV)∧x.1.Key.length≤1073741824∧w.ownsRow lo 3 1 (.slice d x.1.Win.Bits.length e) x.1.Win.Bits.length (x.1.Win.Bits.map iV)∧x.1.Win.Bits.length≤1073741824∧w.ownsRow lo 5 1 (.slice f x.2.1.length g) x.2.1.length (x.2.1.map bV)∧x.2.1.length≤1073741824∧Aps [(a,b),(d,e),(f,g)]
def i_EpOpen (a:PEp) (d:Int) (b:PFrame):(PEp)×(List UInt8)×(Int):=bif (i_EpOk a) then (bif (decide (((i_TagInput d b).length:Int)=0)) then (((a),[],1)) else (bif (decide (b.Epoch=a.N)) then (bif ((iAdd a.Win b.Seq).2) then (bif ((i_Unseal a.Key d b).2) then (({N:=(a).N,Key:=(a).Key,Seq:=(a).Seq,Win:=((iAdd a.Win b.Seq).1):PEp},(i_Unseal a.Key d b).1,0)) else (((a),[],2))) else (((a),[],3))) else (((a),[],1)))) else (((a),[],1))
theorem ciEpOpen (Q:World) (aG:Value) (a:PEp) (bm:R_28 Q aG a) (g:Int) (aH:Value) (b:PFrame) (bn:R_32 Q aH b) :Fn Try.prog 31 #[aG,(vi g),aH] Q (fun v aI=>Keep Q aI∧O_28_22_3 aI Q.heap.size v (i_EpOpen a g b)):=by
 obtain ⟨X,Y,Z,aa,rfl,a5,a6,a7,a8⟩:=bm
 obtain ⟨af,ah,ai,aj,ak,am,an,ao,ap,aq,au,av,rfl,aJ,aK,aL,aM,aN,aO,aP,aQ,aR,aS,aT,aU⟩:=bn
 refine fn_ofS (n:=59) [(va (L_28 a X Y Z aa)),(vi g),(va (L_32 b af ah ai aj ak am an ao ap aq au av))] Try.func31 rfl rfl ?_
 refine sr ?_
 refine bx (L_28 a X Y Z aa) wN ?_
 intro ax cg ci aV t bo
 refine bx (L_32 b af ah ai aj ak am an ao ap aq au av) wN ?_
 intro a9 cj ck aW l bp
 refine al Z_28 wN zero_28 ?_
 intro bq J ay y m az
 have aA:=(((Ch.base Q).extk t).extk l).extk m
 refine aw (vs none 0 0) ?_
 refine aw (vi 0) ?_
 refine nx ?_
 have aX:=((bo.kp l).kp m)
 refine lN (L_28 a X Y Z aa) wN isAgg_28 sizeOf_28 aX ?_
 refine cl wN (cicopyEp J _ a (mR_28 (a5.from0 aA) a6 (a7.from0 aA) a8)) ?_
 rintro _ O ⟨i,⟨p,q,B,C,rfl,I,a0,R,aB,aC⟩⟩
 refine al Z_28 wN zero_28 ?_
 intro aY cm A ab j br
 refine sv (L_28 (a) p q B C) wN sizeOf_28 br ?_
 intro bu f a1 cn
 have a2:=((aA.extk i).extk j).ext f (fun k hk=>by subst hk;exact nT (z4 t l m i) A)
 refine n4 ?_
 refine jT1 [(1,(vi g)),(3,(vp ax 0)),(5,(vp a9 0)),(6,(vp bq 0)),(7,(vs none 0 0)),(8,(vi 0)),(9,(vp aY 0))] (i_EpOpen a g b=((a),[],1)) ?_ fun aD=>?_
 ·intro bv aZ a3 co
  refine sr ?_
  have bw:=(a1.kp a3)
  refine lN (L_28 (a) p q B C) wN isAgg_28 sizeOf_28 bw ?_
  have bz:=((((az.kp i).kp j).ch f (nN (nL y (nT i.size A)))).kp a3)
  refine sv (L_28 (a) p q B C) wN sizeOf_28 bz ?_
  intro ba bb b0 cp
  have b1:=(a2.extk a3).ext bb (fun k hk=>by subst hk;exact nT (z2 t l) ay)
  refine aw (vs none 0 0) ?_
  refine aw (vi 1) ?_
  refine n1 ?_
  have bc:=fun (E sz n:Nat) (v:Value) (F:List Value) (o:World.ownsRow O J.heap.size E sz v n F) (x:World.ownsRow O J.heap.size E sz v n F)=>(own_ch (own_kp (own_ch (own_kp o j) f (ne2 x (A))) a3) bb (ne1 x (y)))
  have b2:=(bc _ _ _ _ _ I I)
  have b3:=(bc _ _ _ _ _ R R)
  refine ret_3 (.inl rfl) (va (L_28 (a) p q B C)) (vs none 0 0) (vi 1) rfl (rv_c (L_28 (a) p q B C) rfl b0 isAgg_28 sizeOf_28) rfl rfl ?_
  refine ⟨b1.keep0,?_⟩
  rw [bv]
  exact ⟨_,_,_,_,_,_,rfl,(own_lo b2 (z3 t l m)),a0,(own_lo b3 (z3 t l m)),aB,(by first|exact own_nil _ _ _ _|exact OLv.nil _ _ _ _),(by simp),⟨⟨(aC.1.1),⟨(Ap.nr _),trivial⟩⟩,⟨⟨(Ap.nr _),trivial⟩,⟨trivial,trivial⟩⟩⟩⟩
 have bd:=(((aX.kp i).kp j).ch f (nN (nL aV (nT (z3 l m i) A))))
 refine lN (L_28 a X Y Z aa) wN isAgg_28 sizeOf_28 bd ?_
 refine cl wN (ciEpOk bu _ a (mR_28 (a5.from0 a2) a6 (a7.from0 a2) a8)) ?_
 rintro _ aZ ⟨d,rfl⟩
 have P:=a2.extk d
 refine pu (vb (!(i_EpOk a))) wN ?_
 refine mw (vb (!(i_EpOk a))) ?_
 rcases bf (i_EpOk a) with u|u
 ·iterate 5 refine sk (cA not u) ?_
  refine pk (vb true) wN (cA not u) ?_
  refine mw (vb true) ?_
  iterate 5 refine sk (Eq.refl true) ?_
  refine pk (vb true) wN (Eq.refl true) ?_
  refine n2 ?_
  refine ct (Eq.refl true) ?_
  have b4:i_EpOpen a g b=((a),[],1):=by simp only [i_EpOpen,u,cond_true,cond_false]
  exact wj (aD b4 _ d)
 have cq:=impl_EpOk_t u
 refine mv (vi g) (wS (cA not u)) ?_
 have be:=(((((bp.kp m).kp i).kp j).ch f (nN (nL aW (nT (z2 m i) A)))).kp d)
 refine lN (L_32 b af ah ai aj ak am an ao ap aq au av) (wS (cA not u)) isAgg_32 sizeOf_32 be ?_
 refine cl (wS (cA not u)) (ciTagInput aZ g _ b (mR_32 (aJ.from0 P) aK (aL.from0 P) aM (aN.from0 P) aO (aP.from0 P) aQ (aR.from0 P) aS (aT.from0 P) aU)) ?_
 rintro _ ba ⟨e,⟨cr,cs,rfl,b5,_⟩⟩
 have bg:=P.extk e
 refine ln (wS (cA not u)) slTy_22 (Rd.of_own b5) ?_
 refine pu (vb (decide (((i_TagInput g b).length:Int)=0))) (wS (cA not u)) ?_
 refine pf (vb (decide (((i_TagInput g b).length:Int)=0))) wN (cA not u) ?_
 refine mw (vb (decide (((i_TagInput g b).length:Int)=0))) ?_
 rcases bt (decide (((i_TagInput g b).length:Int)=0)) with w|w
 ·have cu:=dT w
  iterate 5 refine sk w ?_
  refine pk (vb true) wN w ?_
  refine n2 ?_
  refine ct (Eq.refl true) ?_
  have b6:i_EpOpen a g b=((a),[],1):=by simp only [i_EpOpen,u,w,cond_true,cond_false]
  exact wj (aD b6 _ (d.trans e))
 have cv:=dF w
 refine pu (vp a9 7) (wS w) ?_
 have aE:=(be.kp e)
 refine ld (vi b.Epoch) (wS w) isAgg_3 aE ?_
 refine pu (vp ax 0) (wS w) ?_
 have aF:=((bd.kp d).kp e)
 refine ld (vi a.N) (wS w) isAgg_3 aF ?_
 refine pu (vb (!(decide (b.Epoch=a.N)))) (wS w) ?_
 refine pf (vb (!(decide (b.Epoch=a.N)))) wN w ?_
 refine n2 ?_
 rcases bf (decide (b.Epoch=a.N)) with K|K
 ·have cw:=dF K
  refine ct (cA not K) ?_
  have b7:i_EpOpen a g b=((a),[],1):=by simp only [i_EpOpen,u,w,K,cond_true,cond_false]
  exact wj (aD b7 _ (d.trans e))
 have cx:=dT K
 refine cf (cA not K) ?_
 refine y1 ?_
 refine pu (vp ax 3) wN ?_
 refine lN (L_26 a.Win Z aa) wN isAgg_26 sizeOf_26 aF ?_
 refine pu (vp a9 8) wN ?_
 refine ld (vi b.Seq) wN isAgg_3 aE ?_
 refine cl wN (ciWinAdd ba _ a.Win (mR_26 (a7.from0 bg) a8) b.Seq) ?_
 rintro _ cy ⟨h,⟨G,H,rfl,S,b8,cz⟩⟩
 refine mw (.tuple #[(va (L_26 ((iAdd a.Win b.Seq).1) G H)),(vb ((iAdd a.Win b.Seq).2))]) ?_
 refine pu (va (L_26 ((iAdd a.Win b.Seq).1) G H)) wN ?_
 refine pu (vb ((iAdd a.Win b.Seq).2)) wN ?_
 refine al [(vi 0),(vs none 0 0)] wN zero_26 ?_
 intro c0 c1 D c2 r b9
 refine sv (L_26 ((iAdd a.Win b.Seq).1) G H) wN sizeOf_26 b9 ?_
 intro bA s bB c3
 have L:=((bg.extk h).extk r).ext s (fun k hk=>by subst hk;exact nT (z9 t l m i j f d e h) D)
 refine aw (vb ((iAdd a.Win b.Seq).2)) ?_
 refine n4 ?_
 refine mw (vb ((iAdd a.Win b.Seq).2)) ?_
 refine pu (vb (!((iAdd a.Win b.Seq).2))) wN ?_
 refine n2 ?_
 rcases bf ((iAdd a.Win b.Seq).2) with T|T
 ·refine ct (cA not T) ?_
  refine sr ?_
  have bC:=(((((a1.kp d).kp e).kp h).kp r).ch s (nN (nL ab (nT (z4 f d e h) D))))
  refine lN (L_28 (a) p q B C) wN isAgg_28 sizeOf_28 bC ?_
  have bD:=((((((((az.kp i).kp j).ch f (nN (nL y (nT i.size A)))).kp d).kp e).kp h).kp r).ch s (nN (nL y (nT (z6 i j f d e h) D))))
  refine sv (L_28 (a) p q B C) wN sizeOf_28 bD ?_
  intro bE bh bF c4
  have bG:=L.ext bh (fun k hk=>by subst hk;exact nT (z2 t l) ay)
  refine aw (vs none 0 0) ?_
  refine aw (vi 3) ?_
  refine n1 ?_
  have bi:=fun (E sz n:Nat) (v:Value) (F:List Value) (o:World.ownsRow O J.heap.size E sz v n F) (x:World.ownsRow O J.heap.size E sz v n F)=>(own_ch (own_ch (own_kp (own_kp (own_kp (own_kp (own_ch (own_kp o j) f (ne2 x (A))) d) e) h) r) s (ne2 x (nT (z5 j f d e h) D))) bh (ne1 x (y)))
  have bH:=(bi _ _ _ _ _ I I)
  have bI:=(bi _ _ _ _ _ R R)
  refine ret_3 (.inl rfl) (va (L_28 (a) p q B C)) (vs none 0 0) (vi 3) rfl (rv_c (L_28 (a) p q B C) rfl bF isAgg_28 sizeOf_28) rfl rfl ?_
  refine ⟨bG.keep0,?_⟩
  simp only [i_EpOpen,u,w,K,T,cond_true,cond_false]
  exact ⟨_,_,_,_,_,_,rfl,(own_lo bH (z3 t l m)),a0,(own_lo bI (z3 t l m)),aB,(by first|exact own_nil _ _ _ _|exact OLv.nil _ _ _ _),(by simp),⟨⟨(aC.1.1),⟨(Ap.nr _),trivial⟩⟩,⟨⟨(Ap.nr _),trivial⟩,⟨trivial,trivial⟩⟩⟩⟩
 refine cf (cA not T) ?_
 refine y1 ?_
 refine pu (vp ax 1) wN ?_
 have bJ:=(((aF.kp h).kp r).ch s (nN (nL aV (nT (z8 l m i j f d e h) D))))
 refine ld (vs X a.Key.length Y) wN isAgg_22 bJ ?_
 refine mw (vi g) ?_
 have bK:=(((aE.kp h).kp r).ch s (nN (nL aW (nT (z7 m i j f d e h) D))))
 refine lN (L_32 b af ah ai aj ak am an ao ap aq au av) wN isAgg_32 sizeOf_32 bK ?_
 refine cl wN (ciUnseal bA _ a.Key (mR_22 (a5.from0 L) a6) g _ b (mR_32 (aJ.from0 L) aK (aL.from0 L) aM (aN.from0 L) aO (aP.from0 L) aQ (aR.from0 L) aS (aT.from0 L) aU)) ?_
 rintro _ bE ⟨M,⟨V,W,rfl,ac,bL,c5⟩⟩
 have bj:=L.extk M
 refine mw (.tuple #[(vs V ((i_Unseal a.Key g b).1).length W),(vb ((i_Unseal a.Key g b).2))]) ?_
 refine pu (vs V ((i_Unseal a.Key g b).1).length W) wN ?_
 refine pu (vb ((i_Unseal a.Key g b).2)) wN ?_
 refine aw (vs V ((i_Unseal a.Key g b).1).length W) ?_
 refine aw (vb ((i_Unseal a.Key g b).2)) ?_
 refine n4 ?_
 refine mw (vb ((i_Unseal a.Key g b).2)) ?_
 refine pu (vb (!((i_Unseal a.Key g b).2))) wN ?_
 refine n2 ?_
 rcases bf ((i_Unseal a.Key g b).2) with ad|ad
 ·refine ct (cA not ad) ?_
  refine sr ?_
  have bM:=((((((a1.kp d).kp e).kp h).kp r).ch s (nN (nL ab (nT (z4 f d e h) D)))).kp M)
  refine lN (L_28 (a) p q B C) wN isAgg_28 sizeOf_28 bM ?_
  have bN:=(((((((((az.kp i).kp j).ch f (nN (nL y (nT i.size A)))).kp d).kp e).kp h).kp r).ch s (nN (nL y (nT (z6 i j f d e h) D)))).kp M)
  refine sv (L_28 (a) p q B C) wN sizeOf_28 bN ?_
  intro bO bk bP c6
  have bQ:=bj.ext bk (fun k hk=>by subst hk;exact nT (z2 t l) ay)
  refine aw (vs none 0 0) ?_
  refine aw (vi 2) ?_
  refine n1 ?_
  have bl:=fun (E sz n:Nat) (v:Value) (F:List Value) (o:World.ownsRow O J.heap.size E sz v n F) (x:World.ownsRow O J.heap.size E sz v n F)=>(own_ch (own_kp (own_ch (own_kp (own_kp (own_kp (own_kp (own_ch (own_kp o j) f (ne2 x (A))) d) e) h) r) s (ne2 x (nT (z5 j f d e h) D))) M) bk (ne1 x (y)))
  have bR:=(bl _ _ _ _ _ I I)
  have bS:=(bl _ _ _ _ _ R R)
  refine ret_3 (.inl rfl) (va (L_28 (a) p q B C)) (vs none 0 0) (vi 2) rfl (rv_c (L_28 (a) p q B C) rfl bP isAgg_28 sizeOf_28) rfl rfl ?_
  refine ⟨bQ.keep0,?_⟩
  simp only [i_EpOpen,u,w,K,T,ad,cond_true,cond_false]
  exact ⟨_,_,_,_,_,_,rfl,(own_lo bR (z3 t l m)),a0,(own_lo bS (z3 t l m)),aB,(by first|exact own_nil _ _ _ _|exact OLv.nil _ _ _ _),(by simp),⟨⟨(aC.1.1),⟨(Ap.nr _),trivial⟩⟩,⟨⟨(Ap.nr _),trivial⟩,⟨trivial,trivial⟩⟩⟩⟩
 refine cf (cA not ad) ?_
 refine y1 ?_
 have bT:=(bB.kp M)
 refine lN (L_26 ((iAdd a.Win b.Seq).1) G H) wN isAgg_26 sizeOf_26 bT ?_
 refine pu (vp aY 3) wN ?_
 have bU:=((((((a1.kp d).kp e).kp h).kp r).ch s (nN (nL ab (nT (z4 f d e h) D)))).kp M)
 refine st (va (L_26 ((iAdd a.Win b.Seq).1) G H)) (L_26 ((iAdd a.Win b.Seq).1) G H) [(vi ((a).N)),(vs p ((a).Key).length q),(vi ((a).Seq)),(vi (((iAdd a.Win b.Seq).1).Top)),(vs G (((iAdd a.Win b.Seq).1).Bits).length H)] wN sizeOf_26 bU ?_
 intro bO ae bW c7
 have bX:=bj.ext ae (fun k hk=>by subst hk;exact nT (z4 t l m i) A)
 refine nx ?_
 refine lN [(vi ((a).N)),(vs p ((a).Key).length q),(vi ((a).Seq)),(vi (((iAdd a.Win b.Seq).1).Top)),(vs G (((iAdd a.Win b.Seq).1).Bits).length H)] wN isAgg_28 sizeOf_28 bW ?_
 refine mw (vs V ((i_Unseal a.Key g b).1).length W) ?_
 have bY:=((((((((((az.kp i).kp j).ch f (nN (nL y (nT i.size A)))).kp d).kp e).kp h).kp r).ch s (nN (nL y (nT (z6 i j f d e h) D)))).kp M).ch ae (nN (nL y (nT i.size A))))
 refine sv [(vi ((a).N)),(vs p ((a).Key).length q),(vi ((a).Seq)),(vi (((iAdd a.Win b.Seq).1).Top)),(vs G (((iAdd a.Win b.Seq).1).Bits).length H)] wN sizeOf_28 bY ?_
 intro c8 a4 bZ c9
 have ca:=bX.ext a4 (fun k hk=>by subst hk;exact nT (z2 t l) ay)
 refine aw (vs V ((i_Unseal a.Key g b).1).length W) ?_
 refine aw (vi 0) ?_
 refine n3 ?_
 have cb:=fun (E sz n:Nat) (v:Value) (F:List Value) (o:World.ownsRow O J.heap.size E sz v n F) (x:World.ownsRow O J.heap.size E sz v n F)=>(own_ch (own_ch (own_kp (own_ch (own_kp (own_kp (own_kp (own_kp (own_ch (own_kp o j) f (ne2 x (A))) d) e) h) r) s (ne2 x (nT (z5 j f d e h) D))) M) ae (ne2 x (A))) a4 (ne1 x (y)))
 have cc:=(cb _ _ _ _ _ I I)
 have cd:=(own_ch (own_ch (own_kp (own_ch (own_kp S r) s (ne2 S (D))) M) ae (ne1 S (nL ab (z3 f d e)))) a4 (ne1 S (nL y (z5 i j f d e))))
 have ce:=(own_ch (own_ch ac ae (ne1 ac (nL ab (z6 f d e h r s)))) a4 (ne1 ac (nL y (z8 i j f d e h r s))))
 refine ret_3 (.inl rfl) (va [(vi ((a).N)),(vs p ((a).Key).length q),(vi ((a).Seq)),(vi (((iAdd a.Win b.Seq).1).Top)),(vs G (((iAdd a.Win b.Seq).1).Bits).length H)]) (vs V ((i_Unseal a.Key g b).1).length W) (vi 0) rfl (rv_c [(vi ((a).N)),(vs p ((a).Key).length q),(vi ((a).Seq)),(vi (((iAdd a.Win b.Seq).1).Top)),(vs G (((iAdd a.Win b.Seq).1).Bits).length H)] rfl bZ isAgg_28 sizeOf_28) rfl rfl ?_
 refine ⟨ca.keep0,?_⟩
 simp only [i_EpOpen,u,w,K,T,ad,cond_true,cond_false]
 exact ⟨_,_,_,_,_,_,rfl,(own_lo cc (z3 t l m)),a0,(own_lo cd (z8 t l m i j f d e)),b8,(own_lo ce (z11 t l m i j f d e h r s)),bL,⟨⟨(Ap.lt I S (z4 j f d e)),⟨(Ap.lt I ac (z7 j f d e h r s)),trivial⟩⟩,⟨⟨(Ap.lt S ac (z2 r s)),trivial⟩,⟨trivial,trivial⟩⟩⟩⟩
end Go.Proofs.Ytacoceibbheccaa.K
