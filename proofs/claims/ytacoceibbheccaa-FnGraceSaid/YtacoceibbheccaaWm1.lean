import Derived.Test.YtacoceibbheccaaCore
import Derived.Test.YtacoceibbheccaaProg
import Derived.Test.YtacoceibbheccaaHeld
import Derived.Test.YtacoceibbheccaaFun
import Derived.Test.YtacoceibbheccaaFunZ
import Derived.Test.YtacoceibbheccaaSqz
import Derived.Test.YtacoceibbheccaaHash
import Derived.Test.YtacoceibbheccaaCur
import Derived.Test.YtacoceibbheccaaDrawW
import Derived.Test.YtacoceibbheccaaCurZ
import Derived.Test.YtacoceibbheccaaAead
namespace Go.Proofs.Ytacoceibbheccaa.K
open Go.RowKit
set_option linter.unusedVariables false
set_option linter.unusedSimpArgs false
set_option maxRecDepth 100000
set_option maxHeartbeats 4000000
theorem slTy_22:SlTy Try.prog 22 5 1 1 (v8 0):=slTy Try.underlying22 (by kernel_rfl) rfl rfl
def Q_22 (w:World) (v:Value) (x:(List UInt8)):Prop:=∃ (a:Option Addr) (b:Nat),v=.slice a x.length b∧Rd w 1 (.slice a x.length b) x.length (x.map bV)∧x.length≤9223372036854775807
def O_4 (w:World) (lo:Nat) (v:Value) (x:(Bool)):Prop:=v=.bool x
def l_big (a:List UInt8):(Bool):=decide (1048576 < (a.length:Int))
theorem clbig (b:World) (d:Value) (a:List UInt8) (h:Q_22 b d a) :Fn Try.prog 6 #[d] b (fun v e=>Keep b e∧O_4 e b.heap.size v (l_big a)):=by
 obtain ⟨f,g,rfl,i,k⟩:=h
 refine fn_ofS (n:=6) [(vs f a.length g)] Try.func6 rfl rfl ?_
 refine sr ?_
 refine aw (vb false) ?_
 refine nx ?_
 refine mw (vs f a.length g) ?_
 refine ln wN slTy_22 i ?_
 refine pu (vb (decide (1048576 < (a.length:Int)))) wN ?_
 refine aw (vb (decide (1048576 < (a.length:Int)))) ?_
 refine n3 ?_
 refine rt (vb (decide (1048576 < (a.length:Int)))) ?_
 refine ⟨Ch.refl _ _,?_⟩
 have j:l_big a=decide (1048576 < (a.length:Int)):=by rfl
 rw [j]
 exact rfl
theorem big_f {x:List UInt8} (h:l_big x=false):x.length≤1048576:=by
  have:=dF h
  omega

theorem isAgg_5:∀ w,(isAgg 5).run Try.prog w=.ok false w:=fun w=>by kernel_rfl
def R_22 (w:World) (v:Value) (x:(List UInt8)):Prop:=∃ (a:Option Addr) (b:Nat),v=.slice a x.length b∧Rd w 1 (.slice a x.length b) x.length (x.map bV)∧x.length≤1073741824
def newH (code:List UInt8):Nat→Int
  | 0=>127812+(code.length:Int)
  | k+1=>(((newH code k*137)+((code.getD k 0).toNat:Int))+11) % 1073741824
theorem newH_b (code:List UInt8) (hc:code.length≤1073741824):∀ k,0≤newH code k∧newH code k≤1073869636
  | 0=>by unfold newH;omega
  | k+1=>by unfold newH;omega
def newC (code:List UInt8):Int:=newH code (min code.length 4000)
theorem csl1New (d:World) (p:Value) (b:List UInt8) (D:R_22 d p b) :Fn Try.prog 56 #[p] d (fun v l=>∃ g,Keep d l∧d.heap.size≤g∧v=vp g 0∧∀ (a:Option Addr) (c:Nat),p=.slice a b.length c→CurZ l g 102 a c b 0 (newC b)):=by
 obtain ⟨e,f,rfl,h,t⟩:=D
 refine fn_ofS (n:=32) [(vs e b.length f)] Try.func56 rfl rfl ?_
 refine sr ?_
 refine aw (.pointer none) ?_
 refine nx ?_
 refine mw (vs e b.length f) ?_
 refine ln wN slTy_22 h ?_
 refine ar (127812+(b.length:Int)) wN ?_
 refine aw (vi (127812+(b.length:Int))) ?_
 refine n4 ?_
 refine aw (vi 0) ?_
 refine wl_nil<|wq_then<|wc_block ?_
 refine wc_loopP [(0,(vs e b.length f)),(2,(.pointer none)),(3,(vi (newH b 0))),(4,(vi ((0:Nat):Int)))] ⟨rfl,rfl,(cA (Value.int .i64) (show ((127812+(b.length:Int)):Int)=(newH b 0) by rfl)),(cA (Value.int .i64) (show (0:Int)=((0:Nat):Int) by omega)),trivial⟩ (fun e' l=>∃ (k:Nat) (w:Env),e'=pt w [(0,(vs e b.length f)),(2,(.pointer none)),(3,(vi (newH b k))),(4,(vi ((k:Nat):Int)))]∧Ch (fun k=>d.heap.size≤k) d l∧Ch (fun k=>d.heap.size≤k) d l∧k≤b.length∧k≤4000) (fun e' _=>b.length - ((intOf (e' 4))).toNat) ?_ ?_
 ·exact fun u=>⟨0,u,rfl,(Ch.base d),(Ch.refl (fun k=>d.heap.size≤k) d),(by omega),(by omega)⟩
 ·rintro _ E ⟨k,w,rfl,j,m,K,L⟩
  have M:(b.getD k 0).toNat < 256:=UInt8.toNat_lt _
  have hnb:=newH_b b (by omega) k
  refine wc_seq<|sr ?_
  refine mw (vi ((k:Nat):Int)) ?_
  refine mw (vs e b.length f) ?_
  refine ln wN slTy_22 (h.from0 j) ?_
  refine pu (vb (decide (((k:Nat):Int) < (b.length:Int)))) wN ?_
  refine mw (vb (decide (((k:Nat):Int) < (b.length:Int)))) ?_
  rcases bf (decide (((k:Nat):Int) < (b.length:Int))) with i|i
  ·have N:=dF i
   iterate 2 refine sk i ?_
   refine pf (vb false) wN i ?_
   refine n2 ?_
   refine cf (Eq.refl false) ?_
   refine wc_exit<|wq_then_exit<|wq_then_exit<|wq_blk_exit<|wq_then<|sr ?_
   refine mw (vs e b.length f) ?_
   refine mw (vi (newH b k)) ?_
   refine pu (va [(vs e b.length f),(vi 0),(vi (newH b k))]) wN ?_
   refine bx [(vs e b.length f),(vi 0),(vi (newH b k))] wN ?_
   intro q F y O G H
   have A:=j.extk G
   refine aw (vp q 0) ?_
   refine n3 ?_
   refine rt (vp q 0) ?_
   refine ⟨q,A.keep0,(nT m.size y),rfl,fun a c hv=>?_⟩
   cases hv
   rw [show newC b=(newH b k) from by (show newH b (min b.length 4000)=_;congr 1;omega)]
   exact ⟨H,(h.from0 A),t,(show (0:Int)≤0 by omega),(fun r z hz=>nN (nL (rd_posB h r z hz) (nT m.size y)))⟩
  have P:=dT i
  refine mv (vi ((k:Nat):Int)) (wS i) ?_
  refine pu (vb (decide (((k:Nat):Int) < 4000))) (wS i) ?_
  refine pk (vb (decide (((k:Nat):Int) < 4000))) wN i ?_
  refine n2 ?_
  rcases bf (decide (((k:Nat):Int) < 4000)) with o|o
  ·have Q:=dF o
   refine cf o ?_
   refine wc_exit<|wq_then_exit<|wq_then_exit<|wq_blk_exit<|wq_then<|sr ?_
   refine mw (vs e b.length f) ?_
   refine mw (vi (newH b k)) ?_
   refine pu (va [(vs e b.length f),(vi 0),(vi (newH b k))]) wN ?_
   refine bx [(vs e b.length f),(vi 0),(vi (newH b k))] wN ?_
   intro s F B R I J
   have C:=j.extk I
   refine aw (vp s 0) ?_
   refine n3 ?_
   refine rt (vp s 0) ?_
   refine ⟨s,C.keep0,(nT m.size B),rfl,fun a c hv=>?_⟩
   cases hv
   rw [show newC b=(newH b k) from by (show newH b (min b.length 4000)=_;congr 1;omega)]
   exact ⟨J,(h.from0 C),t,(show (0:Int)≤0 by omega),(fun r z hz=>nN (nL (rd_posB h r z hz) (nT m.size B)))⟩
  have S:=dT o
  refine ct o ?_
  refine wc_skip<|wq_then<|wc_seq<|wc_block<|wc_region ?_
  refine mw (vi (newH b k)) ?_
  refine ar ((newH b k)*137) wN ?_
  refine mw (vs e b.length f) ?_
  refine mw (vi ((k:Nat):Int)) ?_
  refine ix wN ((k:Nat):Int) slTy_22 (h.from0 j) ?_
  refine eb (x:=b) k wN isAgg_5 (h.from0 j) ?_
  refine ar ((b.getD k 0).toNat:Int) wN ?_
  refine ar (((newH b k)*137)+((b.getD k 0).toNat:Int)) wN ?_
  refine ar ((((newH b k)*137)+((b.getD k 0).toNat:Int))+11) wN ?_
  refine wl_and ((((newH b k)*137)+((b.getD k 0).toNat:Int))+11) 1073741823 1073741824 30 wN rfl rfl (by decide) (by decide) (by decide) (by kernel_rfl) ?_
  refine aw (vi (((((newH b k)*137)+((b.getD k 0).toNat:Int))+11) % 1073741824)) ?_
  refine wl_nil<|wq_blk_normal<|wq_then<|wc_region ?_
  refine mw (vi ((k:Nat):Int)) ?_
  refine ar (((k:Nat):Int)+1) wN ?_
  refine aw (vi (((k:Nat):Int)+1)) ?_
  refine wl_nil ?_
  refine wq_loopP (w0:=E) [(0,(vs e b.length f)),(2,(.pointer none)),(3,(vi (newH b (k+1)))),(4,(vi (((k+1):Nat):Int)))] ?_ ?_ ?_
  · exact ⟨rfl,rfl,(cA (Value.int .i64) (show ((((((newH b k)*137)+((b.getD k 0).toNat:Int))+11) % 1073741824):Int)=(newH b (k+1)) by rfl)),(cA (Value.int .i64) (show ((((k:Nat):Int)+1):Int)=(((k+1):Nat):Int) by omega)),trivial⟩
  · exact fun u=>⟨(k+1),u,rfl,j,((Ch.refl (fun k=>d.heap.size≤k) d).ext m (fun k hk=>hk)),(by omega),(by omega)⟩
  · show b.length - ((((k+1):Nat):Int)).toNat < b.length - (((k:Nat):Int)).toNat;omega

theorem isAgg_3:∀ w,(isAgg 3).run Try.prog w=.ok false w:=fun w=>by kernel_rfl
theorem sizeOf_3:∀ w,(sizeOf 3).run Try.prog w=.ok 1 w:=fun w=>by kernel_rfl
theorem mixed:Try.prog.follows .mixedOrders=true:=by kernel_rfl
theorem isAgg_22:∀ w,(isAgg 22).run Try.prog w=.ok false w:=fun w=>by kernel_rfl
def O_3 (w:World) (lo:Nat) (v:Value) (x:(Int)):Prop:=v=.int .i64 x
def s_l1Byte (cb:List UInt8) (ci chh:Int):((Int))×Int×Int:=bif (decide (ci < (cb.length:Int))) then (((((IntKind.i64.wrap (((xorA (((IntKind.i64.wrap (((IntKind.i64.wrap (chh*6364136223846793005)))+1442695040888963407))) / (2:Int) ^ ((33:Int)).toNat) (((IntKind.i64.wrap (((IntKind.i64.wrap (chh*6364136223846793005)))+1442695040888963407))) / (2:Int) ^ ((47:Int)).toNat)) % 256)+((cb.getD (ci).toNat 0).toNat:Int)))) % 256),(ci+1),((IntKind.i64.wrap (((IntKind.i64.wrap (chh*6364136223846793005)))+1442695040888963407))))) else ((((xorA (((IntKind.i64.wrap (((IntKind.i64.wrap (chh*6364136223846793005)))+1442695040888963407))) / (2:Int) ^ ((33:Int)).toNat) (((IntKind.i64.wrap (((IntKind.i64.wrap (chh*6364136223846793005)))+1442695040888963407))) / (2:Int) ^ ((47:Int)).toNat)) % 256),ci,((IntKind.i64.wrap (((IntKind.i64.wrap (chh*6364136223846793005)))+1442695040888963407)))))
theorem csl1Byte (o:World) (g:Nat) (ca:Option Addr) (cc:Nat) (cb:List UInt8) (ci chh:Int) (A:CurZ o g 102 ca cc cb ci chh) :Fn Try.prog 85 #[(vp g 0)] o (fun v f=>Ch (fun k=>k=g) o f∧CurZ f g 102 ca cc cb (s_l1Byte cb ci chh).2.1 (s_l1Byte cb ci chh).2.2∧O_3 f o.heap.size v (s_l1Byte cb ci chh).1∧(0≤(s_l1Byte cb ci chh).1∧(s_l1Byte cb ci chh).1≤255)):=by
 obtain ⟨hcb,hcr,hcl,hci,hcn⟩:=A
 have hgl:=Blk.lt hcb
 refine fn_ofS (n:=58) [(vp g 0)] Try.func85 rfl rfl ?_
 have af:(cb.getD ci.toNat 0).toNat < 256:=UInt8.toNat_lt _
 refine sr ?_
 refine aw (vi 0) ?_
 refine nx ?_
 refine mw (vp g 0) ?_
 refine mw (vp g 0) ?_
 refine pu (vp g 0) wN ?_
 refine pu (vp g 2) wN ?_
 refine ld (vi chh) wN isAgg_3 hcb ?_
 refine wl_arbE (IntKind.i64.wrap (chh*6364136223846793005)) wN rfl rfl (by kernel_rfl) ?_
 intro B r
 refine wl_arbE (IntKind.i64.wrap (B+1442695040888963407)) wN rfl rfl (by kernel_rfl) ?_
 intro a s
 refine pu (vp g 0) wN ?_
 refine pu (vp g 2) wN ?_
 refine st (vi a) [(vi a)] [(vs ca cb.length cc),(vi ci),(vi a)] wN sizeOf_3 hcb ?_
 intro C D i ah
 have E:=ChG.ext (Ch.refl (fun k=>k=g) o) D (fun k hk=>.inl hk)
 refine wl_nil<|wq_then<|wc_seq ?_
 refine wc_drawT ([(13,[],[],(fun _ v _=>v=(vp g 0))),(14,[],[0],(fun _ v _=>v=(vp g 0))),(15,[],[0,1],(fun _ v _=>v=(vp g 2))),(16,[],[0,1,2],(fun _ v _=>v=(vi a))),(17,[],[0,1,2,3],(fun _ v _=>v=(vi (a / (2:Int) ^ ((33:Int)).toNat)))),(18,[],[],(fun _ v _=>v=(vp g 0))),(19,[],[5],(fun _ v _=>v=(vp g 0))),(20,[],[5,6],(fun _ v _=>v=(vp g 2))),(21,[],[5,6,7],(fun _ v _=>v=(vi a))),(22,[],[5,6,7,8],(fun _ v _=>v=(vi (a / (2:Int) ^ ((47:Int)).toNat))))]:GV) (fun _ f=>Keep C f) [] mixed rfl (by kernel_rfl) (by kernel_rfl) ?_ (fun _ _ h=>h) (fun _ _ _ _ h _ k=>h.trans k) trivial ?_ ?_ ?_
 ·exact ⟨hV,hE,⟨hV,hE,⟨hV,hE,⟨hV,hE,⟨hV,hE,⟨hV,hE,⟨hV,hE,⟨hV,hE,⟨hV,hE,⟨hV,hE,trivial⟩⟩⟩⟩⟩⟩⟩⟩⟩⟩
 ·exact trivial
 ·refine ⟨?_,⟨?_,⟨?_,⟨?_,⟨?_,⟨?_,⟨?_,⟨?_,⟨?_,⟨?_,trivial⟩⟩⟩⟩⟩⟩⟩⟩⟩⟩
  ·intro _ d ai _
   rintro _ _ _ _ _ _ _ _ _ _
   refine sw ?_
   refine mw (vp g 0) ?_
   exact f1
  ·intro _ d aj _
   rintro _ rfl _ _ _ _ _ _ _ _ _
   refine sw ?_
   refine pu (vp g 0) wN ?_
   exact f1
  ·intro _ d ak _
   rintro _ rfl _ rfl _ _ _ _ _ _ _ _
   refine sw ?_
   refine pu (vp g 2) wN ?_
   exact f1
  ·intro _ d F _
   rintro _ rfl _ rfl _ rfl _ _ _ _ _ _ _
   refine sw ?_
   have G:=(i.kp F)
   refine ld (vi a) wN isAgg_3 G ?_
   exact f1
  ·intro _ d am _
   rintro _ rfl _ rfl _ rfl _ rfl _ _ _ _ _ _
   refine sw ?_
   refine wl_shrU a (33:Int) wN rfl rfl rfl rfl rfl (by omega) (by omega) ?_
   exact f1
  ·intro _ d an _
   rintro _ _ _ _ _ _ _ _ _ _
   refine sw ?_
   refine mw (vp g 0) ?_
   exact f1
  ·intro _ d ao _
   rintro _ _ _ _ _ _ rfl _ _ _ _
   refine sw ?_
   refine pu (vp g 0) wN ?_
   exact f1
  ·intro _ d ap _
   rintro _ _ _ _ _ _ rfl _ rfl _ _ _
   refine sw ?_
   refine pu (vp g 2) wN ?_
   exact f1
  ·intro _ d H _
   rintro _ _ _ _ _ _ rfl _ rfl _ rfl _ _
   refine sw ?_
   have I:=(i.kp H)
   refine ld (vi a) wN isAgg_3 I ?_
   exact f1
  ·intro _ d aq _
   rintro _ _ _ _ _ _ rfl _ rfl _ rfl _ rfl _
   refine sw ?_
   refine wl_shrU a (47:Int) wN rfl rfl rfl rfl rfl (by omega) (by omega) ?_
   exact f1
 ·intro _ d j
  have t:=ChG.extk E j
  rintro _ rfl _ rfl _ rfl _ rfl _ rfl _ rfl _ rfl _ rfl _ rfl _ rfl
  refine sw ?_
  refine wl_xorA (a / (2:Int) ^ ((33:Int)).toNat) (a / (2:Int) ^ ((47:Int)).toNat) wN rfl rfl (by kernel_rfl) ?_
  refine wl_and (xorA (a / (2:Int) ^ ((33:Int)).toNat) (a / (2:Int) ^ ((47:Int)).toNat)) 255 256 8 wN rfl rfl (by decide) (by decide) (by decide) (by kernel_rfl) ?_
  refine aw (vi ((xorA (a / (2:Int) ^ ((33:Int)).toNat) (a / (2:Int) ^ ((47:Int)).toNat)) % 256)) ?_
  refine wl_nil<|wq_then<|wc_seq<|wc_seq ?_
  refine wc_drawT ([(25,[],[],(fun _ v _=>v=(vp g 0))),(26,[],[0],(fun _ v _=>v=(vp g 0))),(27,[],[0,1],(fun _ v _=>v=(vp g 1))),(28,[],[0,1,2],(fun _ v _=>v=(vi ci))),(29,[],[],(fun _ v _=>v=(vp g 0))),(30,[],[4],(fun _ v _=>v=(vp g 0))),(31,[],[4,5],(fun _ v _=>v=(vp g 0))),(32,[],[4,5,6],(fun _ v _=>v=(vs ca cb.length cc))),(33,[],[4,5,6,7],(fun _ v _=>v=(vi (cb.length:Int))))]:GV) (fun _ f=>Keep d f) [] mixed rfl (by kernel_rfl) (by kernel_rfl) ?_ (fun _ _ h=>h) (fun _ _ _ _ h _ k=>h.trans k) trivial ?_ ?_ ?_
  ·exact ⟨hV,hE,⟨hV,hE,⟨hV,hE,⟨hV,hE,⟨hV,hE,⟨hV,hE,⟨hV,hE,⟨hV,hE,⟨hV,hE,trivial⟩⟩⟩⟩⟩⟩⟩⟩⟩
  ·exact trivial
  ·refine ⟨?_,⟨?_,⟨?_,⟨?_,⟨?_,⟨?_,⟨?_,⟨?_,⟨?_,trivial⟩⟩⟩⟩⟩⟩⟩⟩⟩
   ·intro _ e au _
    rintro _ _ _ _ _ _ _ _ _
    refine sw ?_
    refine mw (vp g 0) ?_
    exact f1
   ·intro _ e av _
    rintro _ rfl _ _ _ _ _ _ _ _
    refine sw ?_
    refine pu (vp g 0) wN ?_
    exact f1
   ·intro _ e ax _
    rintro _ rfl _ rfl _ _ _ _ _ _ _
    refine sw ?_
    refine pu (vp g 1) wN ?_
    exact f1
   ·intro _ e J _
    rintro _ rfl _ rfl _ rfl _ _ _ _ _ _
    refine sw ?_
    have K:=((i.kp j).kp J)
    refine ld (vi ci) wN isAgg_3 K ?_
    exact f1
   ·intro _ e ay _
    rintro _ _ _ _ _ _ _ _ _
    refine sw ?_
    refine mw (vp g 0) ?_
    exact f1
   ·intro _ e az _
    rintro _ _ _ _ _ rfl _ _ _ _
    refine sw ?_
    refine pu (vp g 0) wN ?_
    exact f1
   ·intro _ e a0 _
    rintro _ _ _ _ _ rfl _ rfl _ _ _
    refine sw ?_
    refine pu (vp g 0) wN ?_
    exact f1
   ·intro _ e L _
    rintro _ _ _ _ _ rfl _ rfl _ rfl _ _
    refine sw ?_
    have M:=((i.kp j).kp L)
    refine ld (vs ca cb.length cc) wN isAgg_22 M ?_
    exact f1
   ·intro _ e N _
    have O:=ChG.extk t N
    rintro _ _ _ _ _ rfl _ rfl _ rfl _ rfl _
    refine sw ?_
    refine ln wN slTy_22 (Rd.chP hcr O hcn) ?_
    exact f1
  ·intro _ e p
   have q:=ChG.extk t p
   rintro _ rfl _ rfl _ rfl _ rfl _ rfl _ rfl _ rfl _ rfl _ rfl
   refine sw ?_
   refine pu (vb (decide (ci < (cb.length:Int)))) wN ?_
   refine n2 ?_
   rcases bf (decide (ci < (cb.length:Int))) with l|l
   ·have a1:=dF l
    refine cf l ?_
    refine y1 ?_
    refine mw (vi ((xorA (a / (2:Int) ^ ((33:Int)).toNat) (a / (2:Int) ^ ((47:Int)).toNat)) % 256)) ?_
    refine aw (vi ((xorA (a / (2:Int) ^ ((33:Int)).toNat) (a / (2:Int) ^ ((47:Int)).toNat)) % 256)) ?_
    refine n3 ?_
    refine rt (vi ((xorA (a / (2:Int) ^ ((33:Int)).toNat) (a / (2:Int) ^ ((47:Int)).toNat)) % 256)) ?_
    have P:s_l1Byte cb ci chh=(((xorA (a / (2:Int) ^ ((33:Int)).toNat) (a / (2:Int) ^ ((47:Int)).toNat)) % 256),ci,a):=by subst s r;simp only [s_l1Byte,l,cond_true,cond_false]
    rw [P]
    have Q:=((i.kp j).kp p)
    exact ⟨q,⟨Q,(Rd.chP hcr q hcn),hcl,(show (0:Int)≤ci by omega),hcn⟩,rfl,(by first|(omega)|(dsimp only;omega))⟩
   have a2:=dT l
   refine ct l ?_
   refine wc_seq ?_
   refine wc_drawT ([(35,[],[],(fun _ v _=>v=(vi ((xorA (a / (2:Int) ^ ((33:Int)).toNat) (a / (2:Int) ^ ((47:Int)).toNat)) % 256)))),(36,[],[],(fun _ v _=>v=(vp g 0))),(37,[],[1],(fun _ v _=>v=(vp g 0))),(38,[],[1,2],(fun _ v _=>v=(vp g 0))),(39,[],[1,2,3],(fun _ v _=>v=(vs ca cb.length cc))),(40,[],[],(fun _ v _=>v=(vp g 0))),(41,[],[5],(fun _ v _=>v=(vp g 0))),(42,[],[5,6],(fun _ v _=>v=(vp g 1))),(43,[],[5,6,7],(fun _ v _=>v=(vi ci))),(44,[],[1,2,3,4,5,6,7,8],(fun _ v _=>v=(ve (vs ca cb.length cc) ((ci).toNat*1)))),(45,[],[1,2,3,4,5,6,7,8,9],(fun _ v _=>v=(v8 ((cb.getD (ci).toNat 0).toNat:Int)))),(46,[],[1,2,3,4,5,6,7,8,9,10],(fun _ v _=>v=(vi ((cb.getD (ci).toNat 0).toNat:Int))))]:GV) (fun _ f=>Keep e f) [] mixed rfl (by kernel_rfl) (by kernel_rfl) ?_ (fun _ _ h=>h) (fun _ _ _ _ h _ k=>h.trans k) trivial ?_ ?_ ?_
   ·exact ⟨hV,hE,⟨hV,hE,⟨hV,hE,⟨hV,hE,⟨hV,hE,⟨hV,hE,⟨hV,hE,⟨hV,hE,⟨hV,hE,⟨hV,hE,⟨hV,hE,⟨hV,hE,trivial⟩⟩⟩⟩⟩⟩⟩⟩⟩⟩⟩⟩
   ·exact trivial
   ·refine ⟨?_,⟨?_,⟨?_,⟨?_,⟨?_,⟨?_,⟨?_,⟨?_,⟨?_,⟨?_,⟨?_,⟨?_,trivial⟩⟩⟩⟩⟩⟩⟩⟩⟩⟩⟩⟩
    ·intro _ b a3 _
     rintro _ _ _ _ _ _ _ _ _ _ _ _
     refine sw ?_
     refine mw (vi ((xorA (a / (2:Int) ^ ((33:Int)).toNat) (a / (2:Int) ^ ((47:Int)).toNat)) % 256)) ?_
     exact f1
    ·intro _ b a4 _
     rintro _ _ _ _ _ _ _ _ _ _ _ _
     refine sw ?_
     refine mw (vp g 0) ?_
     exact f1
    ·intro _ b a5 _
     rintro _ _ rfl _ _ _ _ _ _ _ _ _ _
     refine sw ?_
     refine pu (vp g 0) wN ?_
     exact f1
    ·intro _ b a6 _
     rintro _ _ rfl _ rfl _ _ _ _ _ _ _ _ _
     refine sw ?_
     refine pu (vp g 0) wN ?_
     exact f1
    ·intro _ b R _
     rintro _ _ rfl _ rfl _ rfl _ _ _ _ _ _ _ _
     refine sw ?_
     have S:=(((i.kp j).kp p).kp R)
     refine ld (vs ca cb.length cc) wN isAgg_22 S ?_
     exact f1
    ·intro _ b a7 _
     rintro _ _ _ _ _ _ _ _ _ _ _ _
     refine sw ?_
     refine mw (vp g 0) ?_
     exact f1
    ·intro _ b a8 _
     rintro _ _ _ _ _ _ rfl _ _ _ _ _ _
     refine sw ?_
     refine pu (vp g 0) wN ?_
     exact f1
    ·intro _ b a9 _
     rintro _ _ _ _ _ _ rfl _ rfl _ _ _ _ _
     refine sw ?_
     refine pu (vp g 1) wN ?_
     exact f1
    ·intro _ b T _
     rintro _ _ _ _ _ _ rfl _ rfl _ rfl _ _ _ _
     refine sw ?_
     have V:=(((i.kp j).kp p).kp T)
     refine ld (vi ci) wN isAgg_3 V ?_
     exact f1
    ·intro _ b W _
     have X:=ChG.extk q W
     rintro _ _ rfl _ rfl _ rfl _ rfl _ rfl _ rfl _ rfl _ rfl _ _ _
     refine sw ?_
     refine ix wN ci slTy_22 (Rd.chP hcr X hcn) ?_
     exact f1
    ·intro _ b Y _
     have Z:=ChG.extk q Y
     rintro _ _ rfl _ rfl _ rfl _ rfl _ rfl _ rfl _ rfl _ rfl _ rfl _ _
     refine sw ?_
     refine eb (x:=cb) ((ci).toNat) wN isAgg_5 (Rd.chP hcr Z hcn) ?_
     exact f1
    ·intro _ b aA _
     rintro _ _ rfl _ rfl _ rfl _ rfl _ rfl _ rfl _ rfl _ rfl _ rfl _ rfl _
     refine sw ?_
     refine ar ((cb.getD (ci).toNat 0).toNat:Int) wN ?_
     exact f1
   ·intro _ b u
    have aa:=ChG.extk q u
    rintro _ rfl _ rfl _ rfl _ rfl _ rfl _ rfl _ rfl _ rfl _ rfl _ rfl _ rfl _ rfl
    refine sw ?_
    refine wl_arbE (IntKind.i64.wrap (((xorA (a / (2:Int) ^ ((33:Int)).toNat) (a / (2:Int) ^ ((47:Int)).toNat)) % 256)+((cb.getD (ci).toNat 0).toNat:Int))) wN rfl rfl (by kernel_rfl) ?_
    intro m ab
    refine wl_and m 255 256 8 wN rfl rfl (by decide) (by decide) (by decide) (by kernel_rfl) ?_
    refine aw (vi (m % 256)) ?_
    refine wl_nil<|wq_then<|wc_region ?_
    refine mw (vp g 0) ?_
    refine mw (vp g 0) ?_
    refine pu (vp g 0) wN ?_
    refine pu (vp g 1) wN ?_
    have w:=(((i.kp j).kp p).kp u)
    refine ld (vi ci) wN isAgg_3 w ?_
    refine ar (ci+1) wN ?_
    refine pu (vp g 0) wN ?_
    refine pu (vp g 1) wN ?_
    refine st (vi (ci+1)) [(vi (ci+1))] [(vs ca cb.length cc),(vi (ci+1)),(vi a)] wN sizeOf_3 w ?_
    intro aB ac ad aC
    have y:=ChG.ext aa ac (fun k hk=>.inl hk)
    refine nx ?_
    refine mw (vi (m % 256)) ?_
    refine aw (vi (m % 256)) ?_
    refine n3 ?_
    refine rt (vi (m % 256)) ?_
    have ae:s_l1Byte cb ci chh=((m % 256),(ci+1),a):=by subst ab s r;simp only [s_l1Byte,l,cond_true,cond_false]
    rw [ae]
    exact ⟨y,⟨ad,(Rd.chP hcr y hcn),hcl,(show (0:Int)≤(ci+1) by omega),hcn⟩,rfl,(by first|(omega)|(dsimp only;omega))⟩

def s_l1Below (cb:List UInt8) (ci chh:Int) (a:Int):((Int))×Int×Int:=bif (decide (a≤0)) then ((0,ci,chh)) else (bif (decide (a≤256)) then (((((s_l1Byte cb ci chh).1) % a),((s_l1Byte cb ci chh).2.1),((s_l1Byte cb ci chh).2.2))) else ((((((((s_l1Byte cb ci chh).1)*65536)+(((s_l1Byte cb ((s_l1Byte cb ci chh).2.1) ((s_l1Byte cb ci chh).2.2)).1)*256))+((s_l1Byte cb ((s_l1Byte cb ((s_l1Byte cb ci chh).2.1) ((s_l1Byte cb ci chh).2.2)).2.1) ((s_l1Byte cb ((s_l1Byte cb ci chh).2.1) ((s_l1Byte cb ci chh).2.2)).2.2)).1)) % a),((s_l1Byte cb ((s_l1Byte cb ((s_l1Byte cb ci chh).2.1) ((s_l1Byte cb ci chh).2.2)).2.1) ((s_l1Byte cb ((s_l1Byte cb ci chh).2.1) ((s_l1Byte cb ci chh).2.2)).2.2)).2.1),((s_l1Byte cb ((s_l1Byte cb ((s_l1Byte cb ci chh).2.1) ((s_l1Byte cb ci chh).2.2)).2.1) ((s_l1Byte cb ((s_l1Byte cb ci chh).2.1) ((s_l1Byte cb ci chh).2.2)).2.2)).2.2))))
theorem csl1Below (d:World) (g:Nat) (ca:Option Addr) (cc:Nat) (cb:List UInt8) (ci chh:Int) (q:CurZ d g 102 ca cc cb ci chh) (b:Int) :Fn Try.prog 86 #[(vp g 0),(vi b)] d (fun v h=>Ch (fun k=>k=g) d h∧CurZ h g 102 ca cc cb (s_l1Below cb ci chh b).2.1 (s_l1Below cb ci chh b).2.2∧O_3 h d.heap.size v (s_l1Below cb ci chh b).1∧(0≤(s_l1Below cb ci chh b).1∧((s_l1Below cb ci chh b).1 < b∨((b:Int)≤0∧(s_l1Below cb ci chh b).1=0)))):=by
 obtain ⟨hcb,hcr,hcl,hci,hcn⟩:=q
 have hgl:=Blk.lt hcb
 refine fn_ofS (n:=31) [(vp g 0),(vi b)] Try.func86 rfl rfl ?_
 refine sr ?_
 refine aw (vi 0) ?_
 refine n4 ?_
 refine mw (vi b) ?_
 refine pu (vb (decide (b≤0))) wN ?_
 refine n2 ?_
 rcases bt (decide (b≤0)) with e|e
 ·have F:=dT e
  refine ct e ?_
  refine sr ?_
  refine aw (vi 0) ?_
  refine n1 ?_
  refine rt (vi 0) ?_
  have r:s_l1Below cb ci chh b=(0,ci,chh):=by simp only [s_l1Below,e,cond_true,cond_false]
  rw [r]
  exact ⟨(Ch.refl (fun k=>k=g) d),⟨hcb,hcr,hcl,(show (0:Int)≤ci by omega),hcn⟩,rfl,(by first|(omega)|(dsimp only;omega))⟩
 have G:=dF e
 refine cf e ?_
 refine y2 ?_
 refine mw (vi b) ?_
 refine pu (vb (decide (b≤256))) wN ?_
 refine n2 ?_
 rcases bt (decide (b≤256)) with f|f
 ·have H:=dT f
  refine ct f ?_
  refine sr ?_
  refine mw (vp g 0) ?_
  refine cl wN (csl1Byte d g ca cc cb ci chh ⟨hcb,hcr,hcl,(show (0:Int)≤ci by omega),hcn⟩) ?_
  rintro _ i ⟨s,⟨t,I,J,K,L⟩,rfl,M⟩
  have j:=ChG.ext (Ch.refl (fun k=>k=g) d) s (fun k hk=>.inl hk)
  refine mw (vi b) ?_
  refine wl_remv ((s_l1Byte cb ci chh).1) b wN rfl rfl rfl rfl rfl (by omega) (by omega) ?_
  have N:=rem_b (a:=((s_l1Byte cb ci chh).1)) (m:=b) (by omega)
  refine aw (vi (((s_l1Byte cb ci chh).1) % b)) ?_
  refine n1 ?_
  refine rt (vi (((s_l1Byte cb ci chh).1) % b)) ?_
  have u:s_l1Below cb ci chh b=((((s_l1Byte cb ci chh).1) % b),((s_l1Byte cb ci chh).2.1),((s_l1Byte cb ci chh).2.2)):=by simp only [s_l1Below,e,f,cond_true,cond_false]
  rw [u]
  exact ⟨j,⟨t,(Rd.chP hcr j hcn),hcl,(show (0:Int)≤(s_l1Byte cb ci chh).2.1 by omega),hcn⟩,rfl,(by first|(omega)|(dsimp only;omega))⟩
 have O:=dF f
 refine cf f ?_
 refine y1 ?_
 refine mw (vp g 0) ?_
 refine cl wN (csl1Byte d g ca cc cb ci chh ⟨hcb,hcr,hcl,(show (0:Int)≤ci by omega),hcn⟩) ?_
 rintro _ i ⟨w,⟨x,P,Q,R,S⟩,rfl,T⟩
 have l:=ChG.ext (Ch.refl (fun k=>k=g) d) w (fun k hk=>.inl hk)
 refine aw (vi ((s_l1Byte cb ci chh).1)) ?_
 refine nx ?_
 refine mw (vp g 0) ?_
 refine cl wN (csl1Byte i g ca cc cb ((s_l1Byte cb ci chh).2.1) ((s_l1Byte cb ci chh).2.2) ⟨x,(Rd.chP hcr l hcn),hcl,(show (0:Int)≤(s_l1Byte cb ci chh).2.1 by omega),hcn⟩) ?_
 rintro _ y ⟨A,⟨B,V,W,X,Y⟩,rfl,Z⟩
 have o:=ChG.ext l A (fun k hk=>.inl hk)
 refine aw (vi ((s_l1Byte cb ((s_l1Byte cb ci chh).2.1) ((s_l1Byte cb ci chh).2.2)).1)) ?_
 refine nx ?_
 refine mw (vp g 0) ?_
 refine cl wN (csl1Byte y g ca cc cb ((s_l1Byte cb ((s_l1Byte cb ci chh).2.1) ((s_l1Byte cb ci chh).2.2)).2.1) ((s_l1Byte cb ((s_l1Byte cb ci chh).2.1) ((s_l1Byte cb ci chh).2.2)).2.2) ⟨B,(Rd.chP hcr o hcn),hcl,(show (0:Int)≤(s_l1Byte cb ((s_l1Byte cb ci chh).2.1) ((s_l1Byte cb ci chh).2.2)).2.1 by omega),hcn⟩) ?_
 rintro _ aa ⟨C,⟨D,ab,ac,ad,ae⟩,rfl,af⟩
 have p:=ChG.ext o C (fun k hk=>.inl hk)
 refine aw (vi ((s_l1Byte cb ((s_l1Byte cb ((s_l1Byte cb ci chh).2.1) ((s_l1Byte cb ci chh).2.2)).2.1) ((s_l1Byte cb ((s_l1Byte cb ci chh).2.1) ((s_l1Byte cb ci chh).2.2)).2.2)).1)) ?_
 refine nx ?_
 refine mw (vi ((s_l1Byte cb ci chh).1)) ?_
 refine ar (((s_l1Byte cb ci chh).1)*65536) wN ?_
 refine mw (vi ((s_l1Byte cb ((s_l1Byte cb ci chh).2.1) ((s_l1Byte cb ci chh).2.2)).1)) ?_
 refine ar (((s_l1Byte cb ((s_l1Byte cb ci chh).2.1) ((s_l1Byte cb ci chh).2.2)).1)*256) wN ?_
 refine ar ((((s_l1Byte cb ci chh).1)*65536)+(((s_l1Byte cb ((s_l1Byte cb ci chh).2.1) ((s_l1Byte cb ci chh).2.2)).1)*256)) wN ?_
 refine mw (vi ((s_l1Byte cb ((s_l1Byte cb ((s_l1Byte cb ci chh).2.1) ((s_l1Byte cb ci chh).2.2)).2.1) ((s_l1Byte cb ((s_l1Byte cb ci chh).2.1) ((s_l1Byte cb ci chh).2.2)).2.2)).1)) ?_
 refine ar (((((s_l1Byte cb ci chh).1)*65536)+(((s_l1Byte cb ((s_l1Byte cb ci chh).2.1) ((s_l1Byte cb ci chh).2.2)).1)*256))+((s_l1Byte cb ((s_l1Byte cb ((s_l1Byte cb ci chh).2.1) ((s_l1Byte cb ci chh).2.2)).2.1) ((s_l1Byte cb ((s_l1Byte cb ci chh).2.1) ((s_l1Byte cb ci chh).2.2)).2.2)).1)) wN ?_
 refine mw (vi b) ?_
 refine wl_remv (((((s_l1Byte cb ci chh).1)*65536)+(((s_l1Byte cb ((s_l1Byte cb ci chh).2.1) ((s_l1Byte cb ci chh).2.2)).1)*256))+((s_l1Byte cb ((s_l1Byte cb ((s_l1Byte cb ci chh).2.1) ((s_l1Byte cb ci chh).2.2)).2.1) ((s_l1Byte cb ((s_l1Byte cb ci chh).2.1) ((s_l1Byte cb ci chh).2.2)).2.2)).1)) b wN rfl rfl rfl rfl rfl (by omega) (by omega) ?_
 have ah:=rem_b (a:=(((((s_l1Byte cb ci chh).1)*65536)+(((s_l1Byte cb ((s_l1Byte cb ci chh).2.1) ((s_l1Byte cb ci chh).2.2)).1)*256))+((s_l1Byte cb ((s_l1Byte cb ((s_l1Byte cb ci chh).2.1) ((s_l1Byte cb ci chh).2.2)).2.1) ((s_l1Byte cb ((s_l1Byte cb ci chh).2.1) ((s_l1Byte cb ci chh).2.2)).2.2)).1))) (m:=b) (by omega)
 refine aw (vi ((((((s_l1Byte cb ci chh).1)*65536)+(((s_l1Byte cb ((s_l1Byte cb ci chh).2.1) ((s_l1Byte cb ci chh).2.2)).1)*256))+((s_l1Byte cb ((s_l1Byte cb ((s_l1Byte cb ci chh).2.1) ((s_l1Byte cb ci chh).2.2)).2.1) ((s_l1Byte cb ((s_l1Byte cb ci chh).2.1) ((s_l1Byte cb ci chh).2.2)).2.2)).1)) % b)) ?_
 refine n3 ?_
 refine rt (vi ((((((s_l1Byte cb ci chh).1)*65536)+(((s_l1Byte cb ((s_l1Byte cb ci chh).2.1) ((s_l1Byte cb ci chh).2.2)).1)*256))+((s_l1Byte cb ((s_l1Byte cb ((s_l1Byte cb ci chh).2.1) ((s_l1Byte cb ci chh).2.2)).2.1) ((s_l1Byte cb ((s_l1Byte cb ci chh).2.1) ((s_l1Byte cb ci chh).2.2)).2.2)).1)) % b)) ?_
 have E:s_l1Below cb ci chh b=(((((((s_l1Byte cb ci chh).1)*65536)+(((s_l1Byte cb ((s_l1Byte cb ci chh).2.1) ((s_l1Byte cb ci chh).2.2)).1)*256))+((s_l1Byte cb ((s_l1Byte cb ((s_l1Byte cb ci chh).2.1) ((s_l1Byte cb ci chh).2.2)).2.1) ((s_l1Byte cb ((s_l1Byte cb ci chh).2.1) ((s_l1Byte cb ci chh).2.2)).2.2)).1)) % b),((s_l1Byte cb ((s_l1Byte cb ((s_l1Byte cb ci chh).2.1) ((s_l1Byte cb ci chh).2.2)).2.1) ((s_l1Byte cb ((s_l1Byte cb ci chh).2.1) ((s_l1Byte cb ci chh).2.2)).2.2)).2.1),((s_l1Byte cb ((s_l1Byte cb ((s_l1Byte cb ci chh).2.1) ((s_l1Byte cb ci chh).2.2)).2.1) ((s_l1Byte cb ((s_l1Byte cb ci chh).2.1) ((s_l1Byte cb ci chh).2.2)).2.2)).2.2)):=by simp only [s_l1Below,e,f,cond_true,cond_false]
 rw [E]
 exact ⟨p,⟨D,(Rd.chP hcr p hcn),hcl,(show (0:Int)≤(s_l1Byte cb ((s_l1Byte cb ((s_l1Byte cb ci chh).2.1) ((s_l1Byte cb ci chh).2.2)).2.1) ((s_l1Byte cb ((s_l1Byte cb ci chh).2.1) ((s_l1Byte cb ci chh).2.2)).2.2)).2.1 by omega),hcn⟩,rfl,(by first|(omega)|(dsimp only;omega))⟩

theorem slTy_24:SlTy Try.prog 24 3 1 8 (vi 0):=slTy Try.underlying24 (by kernel_rfl) rfl rfl
def N_24 (w:World) (g:Nat) (v:Value) (x:(List Int)):Prop:=∃ (a:Option Addr) (b:Nat),v=.slice a x.length b∧Rd w 1 (.slice a x.length b) x.length (x.map iV)∧x.length≤1073741824∧(0 < x.length→∀ z,a=some z→z.block ≠ g)
def s_l1Int (cb:List UInt8) (ci chh:Int) (a:List Int):((Int))×Int×Int:=((a.getD (((s_l1Below cb ci chh (a.length:Int)).1)).toNat 0),((s_l1Below cb ci chh (a.length:Int)).2.1),((s_l1Below cb ci chh (a.length:Int)).2.2))
theorem csl1Int (b:World) (g:Nat) (ca:Option Addr) (cc:Nat) (cb:List UInt8) (ci chh:Int) (m:CurZ b g 102 ca cc cb ci chh) (j:Value) (a:List Int) (o:N_24 b g j a) (s:0 < a.length):Fn Try.prog 72 #[(vp g 0),j] b (fun v e=>Ch (fun k=>k=g) b e∧CurZ e g 102 ca cc cb (s_l1Int cb ci chh a).2.1 (s_l1Int cb ci chh a).2.2∧O_3 e b.heap.size v (s_l1Int cb ci chh a).1∧((s_l1Int cb ci chh a).1 ∈ a)):=by
 obtain ⟨hcb,hcr,hcl,hci,hcn⟩:=m
 have hgl:=Blk.lt hcb
 obtain ⟨f,h,rfl,i,t,l⟩:=o
 refine fn_ofS (n:=12) [(vp g 0),(vs f a.length h)] Try.func72 rfl rfl ?_
 refine sr ?_
 refine aw (vi 0) ?_
 refine nx ?_
 refine mw (vs f a.length h) ?_
 refine mw (vp g 0) ?_
 refine mw (vs f a.length h) ?_
 refine ln wN slTy_24 i ?_
 refine cl wN (csl1Below b g ca cc cb ci chh ⟨hcb,hcr,hcl,(show (0:Int)≤ci by omega),hcn⟩ (a.length:Int)) ?_
 rintro _ u ⟨p,⟨q,w,y,A,B⟩,rfl,C⟩
 have d:=ChG.ext (Ch.refl (fun k=>k=g) b) p (fun k hk=>.inl hk)
 refine ix wN ((s_l1Below cb ci chh (a.length:Int)).1) slTy_24 (Rd.chP i d l) ?_
 refine ei (x:=a) ((((s_l1Below cb ci chh (a.length:Int)).1)).toNat) wN isAgg_3 (Rd.chP i d l) ?_
 refine aw (vi (a.getD (((s_l1Below cb ci chh (a.length:Int)).1)).toNat 0)) ?_
 refine n3 ?_
 refine rt (vi (a.getD (((s_l1Below cb ci chh (a.length:Int)).1)).toNat 0)) ?_
 have r:s_l1Int cb ci chh a=((a.getD (((s_l1Below cb ci chh (a.length:Int)).1)).toNat 0),((s_l1Below cb ci chh (a.length:Int)).2.1),((s_l1Below cb ci chh (a.length:Int)).2.2)):=by rfl
 rw [r]
 exact ⟨d,⟨q,(Rd.chP hcr d hcn),hcl,(show (0:Int)≤(s_l1Below cb ci chh (a.length:Int)).2.1 by omega),hcn⟩,rfl,(by first|(exact getD_memI (by omega))|(dsimp only;exact getD_memI (by omega)))⟩

def O_22 (w:World) (lo:Nat) (v:Value) (x:(List UInt8)):Prop:=∃ (a:Option Addr) (b:Nat),v=.slice a x.length b∧w.ownsRow lo 5 1 (.slice a x.length b) x.length (x.map bV)∧x.length≤1073741824∧Aps [(a,b)]
def bytesS (cb:List UInt8) (ci chh:Int):Nat→List UInt8×Int×Int
  | 0=>([],ci,chh)
  | k+1=>((bytesS cb ci chh k).1++[by8 (s_l1Byte cb (bytesS cb ci chh k).2.1 (bytesS cb ci chh k).2.2).1],(s_l1Byte cb (bytesS cb ci chh k).2.1 (bytesS cb ci chh k).2.2).2)
theorem bytesS_len (cb:List UInt8) (ci chh:Int):∀ k,(bytesS cb ci chh k).1.length=k
  | 0=>rfl
  | k+1=>by rw [bytesS];simp [bytesS_len cb ci chh k]
def bytesN (cb:List UInt8) (ci chh:Int) (n:Int):List UInt8×Int×Int:=bytesS cb ci chh n.toNat
theorem csl1Bytes (b:World) (g:Nat) (ca:Option Addr) (cc:Nat) (cb:List UInt8) (ci chh:Int) (J:CurZ b g 102 ca cc cb ci chh) (a:Int) (X:a≤100000):Fn Try.prog 71 #[(vp g 0),(vi a)] b (fun v d=>Ch (fun k=>k=g) b d∧CurZ d g 102 ca cc cb (bytesN cb ci chh a).2.1 (bytesN cb ci chh a).2.2∧O_22 d b.heap.size v (bytesN cb ci chh a).1∧((bytesN cb ci chh a).1.length=(a:Int).toNat)):=by
 obtain ⟨hcb,hcr,hcl,hci,hcn⟩:=J
 have hgl:=Blk.lt hcb
 refine fn_ofS (n:=20) [(vp g 0),(vi a)] Try.func71 rfl rfl ?_
 refine sr ?_
 refine aw (vs none 0 0) ?_
 refine nx ?_
 refine wl_lit0 wN rfl rfl slTy_22 (fun w=>by kernel_rfl) ?_
 intro s t x K
 have A:=ChG.extk (Ch.refl (fun k=>k=g) b) x
 refine aw (vs (some s) 0 0) ?_
 refine n4 ?_
 refine aw (vi 0) ?_
 refine wl_nil<|wq_then<|wc_block ?_
 have B:([]:List UInt8)=(bytesS cb ci chh 0).1:=by rfl
 have C:0=((bytesS cb ci chh 0).1).length:=by rw [← B];try (first|rfl|simp only [List.length_set]|simp)
 have L:=(hcb.kp x)
 refine wc_loopP [(0,(vp g 0)),(1,(vi a)),(4,(vs none 0 0)),(5,(.slice (some s) ((bytesS cb ci chh 0).1).length 0)),(6,(vi ((0:Nat):Int)))] ⟨rfl,rfl,rfl,rfl,(cA (Value.int .i64) (show (0:Int)=((0:Nat):Int) by omega)),trivial⟩ (fun e' d=>∃ (k:Nat) (D:Env) (e:Option Addr) (f:Nat),e'=pt D [(0,(vp g 0)),(1,(vi a)),(4,(vs none 0 0)),(5,(.slice e ((bytesS cb ci chh k).1).length f)),(6,(vi ((k:Nat):Int)))]∧Ch (fun k=>k=g) b d∧Ch (fun k=>k=g∨b.heap.size≤k) t d∧k≤a.toNat∧(World.ownsRow d b.heap.size 5 1 (.slice e ((bytesS cb ci chh k).1).length f) ((bytesS cb ci chh k).1).length (((bytesS cb ci chh k).1).map bV)∧((bytesS cb ci chh k).1).length≤1073741824)∧CurZ d g 102 ca cc cb ((bytesS cb ci chh k).2.1) ((bytesS cb ci chh k).2.2)) (fun e' _=>(a - (intOf (e' 6))).toNat) ?_ ?_
 ·exact fun u=>⟨0,u,(some s),0,rfl,A,(Ch.refl (fun k=>k=g∨b.heap.size≤k) t),(by omega),⟨(by rw [← C,← B];exact K),(by rw [← C];first|exact (by simp)|(simp only [List.length_append,List.length_take,List.length_replicate];omega))⟩,⟨L,(Rd.chP hcr A hcn),hcl,(show (0:Int)≤ci by omega),hcn⟩⟩
 ·rintro _ E ⟨k,D,e,f,rfl,o,F,Y,⟨i,M⟩,⟨G,Z,aa,ab,ac⟩⟩
  have hbl:=bytesS_len cb ci chh k
  refine wc_seq<|sr ?_
  refine mw (vi ((k:Nat):Int)) ?_
  refine mw (vi a) ?_
  refine pu (vb (decide (((k:Nat):Int) < a))) wN ?_
  refine n2 ?_
  rcases bf (decide (((k:Nat):Int) < a)) with j|j
  ·have ad:=dF j
   refine cf j ?_
   refine wc_exit<|wq_then_exit<|wq_then_exit<|wq_blk_exit<|wq_then<|sr ?_
   refine mw (vs e ((bytesS cb ci chh k).1).length f) ?_
   refine aw (vs e ((bytesS cb ci chh k).1).length f) ?_
   refine n3 ?_
   refine rt (vs e ((bytesS cb ci chh k).1).length f) ?_
   have N:bytesN cb ci chh a=(((bytesS cb ci chh k).1),((bytesS cb ci chh k).2.1),((bytesS cb ci chh k).2.2)):=by (show bytesS cb ci chh a.toNat=_;rw [show a.toNat=k by omega])
   rw [N]
   exact ⟨o,⟨G,(Rd.chP hcr o hcn),hcl,(show (0:Int)≤(bytesS cb ci chh k).2.1 by omega),hcn⟩,⟨_,_,rfl,i,M,⟨trivial,trivial⟩⟩,(by first|(omega)|(dsimp only;omega))⟩
  have ae:=dT j
  refine ct j ?_
  refine wc_skip<|wq_then<|wc_seq<|wc_block<|wc_region ?_
  refine mw (vs e ((bytesS cb ci chh k).1).length f) ?_
  refine mw (vp g 0) ?_
  refine cl wN (csl1Byte E g ca cc cb ((bytesS cb ci chh k).2.1) ((bytesS cb ci chh k).2.2) ⟨G,(Rd.chP hcr o hcn),hcl,(show (0:Int)≤(bytesS cb ci chh k).2.1 by omega),hcn⟩) ?_
  rintro _ af ⟨p,⟨O,ah,ai,aj,ak⟩,rfl,am⟩
  have P:=ChG.ext o p (fun k hk=>.inl hk)
  refine wl_conv8 ((s_l1Byte cb ((bytesS cb ci chh k).2.1) ((bytesS cb ci chh k).2.2)).1) wN rfl rfl (by kernel_rfl) ?_
  refine ltB ([(by8 ((s_l1Byte cb ((bytesS cb ci chh k).2.1) ((bytesS cb ci chh k).2.2)).1))]:List UInt8) wN slTy_22 ?_
  intro an ao ap m Q
  have R:=ChG.extk P m
  have S:=(own_kp (own_ch i p (ne1 i (hgl))) m)
  refine apB ((bytesS cb ci chh k).1) ([(by8 ((s_l1Byte cb ((bytesS cb ci chh k).2.1) ((bytesS cb ci chh k).2.2)).1))]:List UInt8) wN slTy_22 S (Rd.of_own Q) (z4 x F p m) ?_
  intro q r aq y T au V
  have H:=ChG.ext R y (fun k hk=>.inr (nT (Nat.le_refl b.heap.size) (own_lt i k hk).1))
  refine aw (vs q (((bytesS cb ci chh k).1)++([(by8 ((s_l1Byte cb ((bytesS cb ci chh k).2.1) ((bytesS cb ci chh k).2.2)).1))]:List UInt8)).length r) ?_
  refine wl_nil<|wq_blk_normal<|wq_then<|wc_region ?_
  refine mw (vi ((k:Nat):Int)) ?_
  refine ar (((k:Nat):Int)+1) wN ?_
  refine aw (vi (((k:Nat):Int)+1)) ?_
  refine wl_nil ?_
  have I:((((bytesS cb ci chh k).1)++([(by8 ((s_l1Byte cb ((bytesS cb ci chh k).2.1) ((bytesS cb ci chh k).2.2)).1))]:List UInt8)):List UInt8)=(bytesS cb ci chh (k+1)).1:=by rfl
  have W:=((O.kp m).ch y (fun h=>by have:=(own_lt i _ h).1;have:=nL hgl (Nat.le_refl b.heap.size);omega))
  refine wq_loopP (w0:=E) [(0,(vp g 0)),(1,(vi a)),(4,(vs none 0 0)),(5,(.slice q ((bytesS cb ci chh (k+1)).1).length r)),(6,(vi (((k+1):Nat):Int)))] ?_ ?_ ?_
  · exact ⟨rfl,rfl,rfl,(cA (fun l:List UInt8=>Value.slice q l.length r) I),(cA (Value.int .i64) (show ((((k:Nat):Int)+1):Int)=(((k+1):Nat):Int) by omega)),trivial⟩
  · exact fun u=>⟨(k+1),u,q,r,rfl,H,(ChO.ext (ChO.extk (ChO.ext (ChO.ext (Ch.refl (fun k=>k=g∨b.heap.size≤k) t) F (fun k hk=>hk.elim .inl (fun hk=>.inr (hk)))) p (fun k hk=>.inl hk)) m) y (fun k hk=>.inr (nT (Nat.le_refl b.heap.size) (own_lt i k hk).1))),(by omega),(I ▸ ⟨T,V⟩),⟨W,(Rd.chP hcr H hcn),hcl,(show (0:Int)≤(s_l1Byte cb ((bytesS cb ci chh k).2.1) ((bytesS cb ci chh k).2.2)).2.1 by omega),hcn⟩⟩
  · show (a - (((k+1):Nat):Int)).toNat < (a - ((k:Nat):Int)).toNat;omega

def R_24 (w:World) (v:Value) (x:(List Int)):Prop:=∃ (a:Option Addr) (b:Nat),v=.slice a x.length b∧Rd w 1 (.slice a x.length b) x.length (x.map iV)∧x.length≤1073741824
def s_l12Psk (cb:List UInt8) (ci chh:Int):((List UInt8))×Int×Int:=(((bytesN cb ((s_l1Int cb ci chh ([1,5,16,32,32,0,33,16]:List Int)).2.1) ((s_l1Int cb ci chh ([1,5,16,32,32,0,33,16]:List Int)).2.2) ((s_l1Int cb ci chh ([1,5,16,32,32,0,33,16]:List Int)).1)).1),((bytesN cb ((s_l1Int cb ci chh ([1,5,16,32,32,0,33,16]:List Int)).2.1) ((s_l1Int cb ci chh ([1,5,16,32,32,0,33,16]:List Int)).2.2) ((s_l1Int cb ci chh ([1,5,16,32,32,0,33,16]:List Int)).1)).2.1),((bytesN cb ((s_l1Int cb ci chh ([1,5,16,32,32,0,33,16]:List Int)).2.1) ((s_l1Int cb ci chh ([1,5,16,32,32,0,33,16]:List Int)).2.2) ((s_l1Int cb ci chh ([1,5,16,32,32,0,33,16]:List Int)).1)).2.2))
theorem csl12Psk (a:World) (g:Nat) (ca:Option Addr) (cc:Nat) (cb:List UInt8) (ci chh:Int) (o:CurZ a g 102 ca cc cb ci chh) :Fn Try.prog 57 #[(vp g 0)] a (fun v b=>Ch (fun k=>k=g) a b∧CurZ b g 102 ca cc cb (s_l12Psk cb ci chh).2.1 (s_l12Psk cb ci chh).2.2∧O_22 b a.heap.size v (s_l12Psk cb ci chh).1∧((s_l12Psk cb ci chh).1.length≤33)):=by
 obtain ⟨hcb,hcr,hcl,hci,hcn⟩:=o
 have hgl:=Blk.lt hcb
 refine fn_ofS (n:=8) [(vp g 0)] Try.func57 rfl rfl ?_
 refine sr ?_
 refine aw (vs none 0 0) ?_
 refine nx ?_
 refine mw (vp g 0) ?_
 refine mw (vp g 0) ?_
 refine ltI ([1,5,16,32,32,0,33,16]:List Int) wN slTy_24 ?_
 intro B C p d e
 have f:=ChG.extk (Ch.refl (fun k=>k=g) a) d
 have q:=(hcb.kp d)
 refine cl wN (csl1Int p g ca cc cb ci chh ⟨q,(Rd.chP hcr f hcn),hcl,(show (0:Int)≤ci by omega),hcn⟩ _ ([1,5,16,32,32,0,33,16]:List Int) ⟨_,_,rfl,(Rd.of_own e),(by simp),(fun _ z hz=>by have D:=(own_lt e z.block (by rw [hz];rfl)).1;have E:=nL hgl (Nat.le_refl a.heap.size);omega)⟩ (by simp)) ?_
 rintro _ r ⟨h,⟨s,F,G,H,I⟩,rfl,t⟩
 have i:=ChG.ext f h (fun k hk=>.inl hk)
 have q9m:(s_l1Int cb ci chh ([1,5,16,32,32,0,33,16]:List Int)).1=1∨(s_l1Int cb ci chh ([1,5,16,32,32,0,33,16]:List Int)).1=5∨(s_l1Int cb ci chh ([1,5,16,32,32,0,33,16]:List Int)).1=16∨(s_l1Int cb ci chh ([1,5,16,32,32,0,33,16]:List Int)).1=32∨(s_l1Int cb ci chh ([1,5,16,32,32,0,33,16]:List Int)).1=32∨(s_l1Int cb ci chh ([1,5,16,32,32,0,33,16]:List Int)).1=0∨(s_l1Int cb ci chh ([1,5,16,32,32,0,33,16]:List Int)).1=33∨(s_l1Int cb ci chh ([1,5,16,32,32,0,33,16]:List Int)).1=16:=by simpa only [List.mem_cons,List.not_mem_nil,or_false] using t
 refine cl wN (csl1Bytes r g ca cc cb ((s_l1Int cb ci chh ([1,5,16,32,32,0,33,16]:List Int)).2.1) ((s_l1Int cb ci chh ([1,5,16,32,32,0,33,16]:List Int)).2.2) ⟨s,(Rd.chP hcr i hcn),hcl,(show (0:Int)≤(s_l1Int cb ci chh ([1,5,16,32,32,0,33,16]:List Int)).2.1 by omega),hcn⟩ ((s_l1Int cb ci chh ([1,5,16,32,32,0,33,16]:List Int)).1) (by omega)) ?_
 rintro _ J ⟨u,⟨w,K,L,M,N⟩,⟨j,l,rfl,x,y,O⟩,P⟩
 have m:=ChG.ext i u (fun k hk=>.inl hk)
 refine aw (vs j ((bytesN cb ((s_l1Int cb ci chh ([1,5,16,32,32,0,33,16]:List Int)).2.1) ((s_l1Int cb ci chh ([1,5,16,32,32,0,33,16]:List Int)).2.2) ((s_l1Int cb ci chh ([1,5,16,32,32,0,33,16]:List Int)).1)).1).length l) ?_
 refine n3 ?_
 refine rt (vs j ((bytesN cb ((s_l1Int cb ci chh ([1,5,16,32,32,0,33,16]:List Int)).2.1) ((s_l1Int cb ci chh ([1,5,16,32,32,0,33,16]:List Int)).2.2) ((s_l1Int cb ci chh ([1,5,16,32,32,0,33,16]:List Int)).1)).1).length l) ?_
 have A:s_l12Psk cb ci chh=(((bytesN cb ((s_l1Int cb ci chh ([1,5,16,32,32,0,33,16]:List Int)).2.1) ((s_l1Int cb ci chh ([1,5,16,32,32,0,33,16]:List Int)).2.2) ((s_l1Int cb ci chh ([1,5,16,32,32,0,33,16]:List Int)).1)).1),((bytesN cb ((s_l1Int cb ci chh ([1,5,16,32,32,0,33,16]:List Int)).2.1) ((s_l1Int cb ci chh ([1,5,16,32,32,0,33,16]:List Int)).2.2) ((s_l1Int cb ci chh ([1,5,16,32,32,0,33,16]:List Int)).1)).2.1),((bytesN cb ((s_l1Int cb ci chh ([1,5,16,32,32,0,33,16]:List Int)).2.1) ((s_l1Int cb ci chh ([1,5,16,32,32,0,33,16]:List Int)).2.2) ((s_l1Int cb ci chh ([1,5,16,32,32,0,33,16]:List Int)).1)).2.2)):=by rfl
 rw [A]
 exact ⟨m,⟨w,(Rd.chP hcr m hcn),hcl,(show (0:Int)≤(bytesN cb ((s_l1Int cb ci chh ([1,5,16,32,32,0,33,16]:List Int)).2.1) ((s_l1Int cb ci chh ([1,5,16,32,32,0,33,16]:List Int)).2.2) ((s_l1Int cb ci chh ([1,5,16,32,32,0,33,16]:List Int)).1)).2.1 by omega),hcn⟩,⟨_,_,rfl,(own_lo x (z2 d h)),y,⟨trivial,trivial⟩⟩,(by first|(first|assumption|omega)|(dsimp only;first|assumption|omega))⟩

theorem mR_22 {w:World} {x:List UInt8} {a:Option Addr} {b:Nat} (d:Rd w 1 (.slice a x.length b) x.length (x.map bV)) (e:x.length≤1073741824):R_22 w (vs a x.length b) x:=⟨_,_,rfl,d,e⟩
def dfk (code:List UInt8):List UInt8:=(s_l12Psk code 0 (newC code)).1
theorem csDrawFinishKey (b:World) (h:Value) (a:List UInt8) (r:R_22 b h a) :Fn Try.prog 35 #[h] b (fun v i=>∃ x:(List UInt8),Keep b i∧O_22 i b.heap.size v x∧(x=dfk a∧x.length≤33)):=by
 obtain ⟨d,e,rfl,f,j⟩:=r
 refine fn_ofS (n:=8) [(vs d a.length e)] Try.func35 rfl rfl ?_
 refine sr ?_
 refine aw (vs none 0 0) ?_
 refine nx ?_
 refine mw (vs d a.length e) ?_
 refine cl wN (csl1New b _ a (mR_22 f j)) ?_
 rintro _ s ⟨g,l,m,rfl,t⟩
 obtain ⟨u,D,E,F,G⟩:=t _ _ rfl
 have o:=(Ch.base b).extk l
 refine aw (vp g 0) ?_
 refine nx ?_
 refine mw (vp g 0) ?_
 refine cl wN (csl12Psk s g d e a 0 (newC a) ⟨u,(f.from0 o),j,(show (0:Int)≤0 by omega),(fun w z hz=>nN (nL (rd_posB f w z hz) (m)))⟩) ?_
 rintro _ H ⟨y,⟨I,J,K,L,M⟩,⟨p,q,rfl,A,B,N⟩,O⟩
 have C:=o.ext y (fun k hk=>by subst hk;exact m)
 refine aw (vs p ((s_l12Psk a 0 (newC a)).1).length q) ?_
 refine n3 ?_
 refine rt (vs p ((s_l12Psk a 0 (newC a)).1).length q) ?_
 exact ⟨((s_l12Psk a 0 (newC a)).1),C.keep0,⟨_,_,rfl,(own_lo A l.size),B,⟨trivial,trivial⟩⟩,(by exact ⟨rfl,by omega⟩)⟩

def O_24 (w:World) (lo:Nat) (v:Value) (x:(List Int)):Prop:=∃ (a:Option Addr) (b:Nat),v=.slice a x.length b∧w.ownsRow lo 3 1 (.slice a x.length b) x.length (x.map iV)∧x.length≤1073741824∧Aps [(a,b)]
theorem ciStart (a:World)  :Fn Try.prog 77 #[] a (fun v b=>Keep a b∧O_24 b a.heap.size v (k0)):=by
 refine fn_ofS (n:=2) [] Try.func77 rfl rfl ?_
 refine sr ?_
 refine aw (vs none 0 0) ?_
 refine nx ?_
 refine ltI ([1779033703,3144134277,1013904242,2773480762,1359893119,2600822924,528734635,1541459225]:List Int) wN slTy_24 ?_
 intro d e j f g
 have h:=(Ch.base a).extk f
 refine aw (vs d ([1779033703,3144134277,1013904242,2773480762,1359893119,2600822924,528734635,1541459225]:List Int).length e) ?_
 refine n3 ?_
 refine rt (vs d ([1779033703,3144134277,1013904242,2773480762,1359893119,2600822924,528734635,1541459225]:List Int).length e) ?_
 refine ⟨h.keep0,?_⟩
 have i:k0=([1779033703,3144134277,1013904242,2773480762,1359893119,2600822924,528734635,1541459225]:List Int):=by rfl
 rw [i]
 exact ⟨_,_,rfl,g,(by simp),⟨trivial,trivial⟩⟩

theorem zero_91:∀ w,(zeroValue 91).run Try.prog w=.ok (va [(vs none 0 0),(vs none 0 0),(vi 0)]) w:=fun w=>by kernel_rfl
theorem sizeOf_91:∀ w,(sizeOf 91).run Try.prog w=.ok 3 w:=fun w=>by kernel_rfl
theorem isAgg_91:∀ w,(isAgg 91).run Try.prog w=.ok true w:=fun w=>by kernel_rfl
def O_91 (w:World) (lo:Nat) (v:Value) (x:(PHash)):Prop:=∃ (a:Option Addr) (b:Nat) (d:Option Addr) (e:Nat),v=.agg #[.slice a x.H.length b,.slice d x.Held.length e,.int .i64 x.N]∧w.ownsRow lo 3 1 (.slice a x.H.length b) x.H.length (x.H.map iV)∧x.H.length≤1073741824∧w.ownsRow lo 5 1 (.slice d x.Held.length e) x.Held.length (x.Held.map bV)∧x.Held.length≤1073741824∧Aps [(a,b),(d,e)]
def i_HashNew :(PHash):={H:=(k0),Held:=[],N:=0:PHash}
theorem ciHashNew (a:World)  :Fn Try.prog 60 #[] a (fun v e=>Keep a e∧O_91 e a.heap.size v (i_HashNew)):=by
 refine fn_ofS (n:=3) [] Try.func60 rfl rfl ?_
 refine sr ?_
 refine al [(vs none 0 0),(vs none 0 0),(vi 0)] wN zero_91 ?_
 intro w j l m f o
 refine nx ?_
 refine cl wN (ciStart j ) ?_
 rintro _ x ⟨g,⟨b,d,rfl,h,p,y⟩⟩
 refine pu (va [(vs b (k0).length d),(vs none 0 0),(vi 0)]) wN ?_
 have q:=(o.kp g)
 refine sv [(vs b (k0).length d),(vs none 0 0),(vi 0)] wN sizeOf_91 q ?_
 intro A i r B
 have s:=(((Ch.base a).extk f).extk g).ext i (fun k hk=>by subst hk;exact l)
 refine n3 ?_
 have t:=(own_ch h i (ne1 h (m)))
 refine ret_1 (.inl rfl) (va [(vs b (k0).length d),(vs none 0 0),(vi 0)]) rfl (rv_c [(vs b (k0).length d),(vs none 0 0),(vi 0)] rfl r isAgg_91 sizeOf_91) ?_
 refine ⟨s.keep0,?_⟩
 have u:i_HashNew={H:=(k0),Held:=[],N:=0:PHash}:=by rfl
 rw [u]
 exact ⟨_,_,_,_,rfl,(own_lo t f.size),p,(by first|exact own_nil _ _ _ _|exact OLv.nil _ _ _ _),(by simp),⟨⟨(Ap.nr _),trivial⟩,⟨trivial,trivial⟩⟩⟩

def i_within (a:Int) (b:Int) (d:Int):(Bool):=bif (decide (b≤a)) then (decide (a≤d)) else (false)
theorem ciwithin (f:World) (a:Int) (e:Int) (d:Int) :Fn Try.prog 26 #[(vi a),(vi e),(vi d)] f (fun v g=>Keep f g∧O_4 g f.heap.size v (i_within a e d)):=by
 refine fn_ofS (n:=15) [(vi a),(vi e),(vi d)] Try.func26 rfl rfl ?_
 refine sr ?_
 refine aw (vb false) ?_
 refine nx ?_
 refine mw (vi a) ?_
 refine mw (vi e) ?_
 refine pu (vb (decide (e≤a))) wN ?_
 refine mw (vb (decide (e≤a))) ?_
 rcases bf (decide (e≤a)) with b|b
 ·have h:=dF b
  iterate 3 refine sk b ?_
  refine pf (vb false) wN b ?_
  refine aw (vb false) ?_
  refine n3 ?_
  refine rt (vb false) ?_
  refine ⟨Ch.refl _ _,?_⟩
  simp only [i_within,b,cond_true,cond_false]
  exact rfl
 have i:=dT b
 refine mv (vi a) (wS b) ?_
 refine mv (vi d) (wS b) ?_
 refine pu (vb (decide (a≤d))) (wS b) ?_
 refine pk (vb (decide (a≤d))) wN b ?_
 refine aw (vb (decide (a≤d))) ?_
 refine n3 ?_
 refine rt (vb (decide (a≤d))) ?_
 refine ⟨Ch.refl _ _,?_⟩
 simp only [i_within,b,cond_true,cond_false]
 exact rfl
theorem impl_within_t {n a b:Int} (h:i_within n a b=true):a≤n∧n≤b:=by
  unfold i_within at h
  by_cases h1:a≤n <;> simp [h1] at h
  exact ⟨h1,h⟩
theorem impl_within_f {n a b:Int} (h:i_within n a b=false):n < a∨b < n:=by
  unfold i_within at h
  by_cases h1:a≤n <;> simp [h1] at h <;> omega

theorem ciareWords (b:World) (m:Value) (a:List Int) (s:R_24 b m a) (d:Int) :Fn Try.prog 78 #[m,(vi d)] b (fun v g=>Keep b g∧O_4 g b.heap.size v (areW a d)):=by
 obtain ⟨e,f,rfl,l,A⟩:=s
 refine fn_ofS (n:=21) [(vs e a.length f),(vi d)] Try.func78 rfl rfl ?_
 refine sr ?_
 refine aw (vb false) ?_
 refine n4 ?_
 refine mw (vs e a.length f) ?_
 refine ln wN slTy_24 l ?_
 refine mw (vi 0) ?_
 refine wl_nil<|wq_then<|wc_block ?_
 refine wc_loopP [(0,(vs e a.length f)),(1,(vi d)),(7,(vs e a.length f)),(8,(vi (a.length:Int))),(9,(vi ((0:Nat):Int)))] ⟨rfl,rfl,rfl,rfl,(cA (Value.int .i64) (show (0:Int)=((0:Nat):Int) by omega)),trivial⟩ (fun e' g=>∃ (k:Nat) (o:Env),e'=pt o [(0,(vs e a.length f)),(1,(vi d)),(7,(vs e a.length f)),(8,(vi (a.length:Int))),(9,(vi ((k:Nat):Int)))]∧Ch (fun k=>b.heap.size≤k) b g∧Ch (fun k=>b.heap.size≤k) b g∧k≤a.length∧allW (a.take k)=true) (fun e' _=>a.length - ((intOf (e' 9))).toNat) ?_ ?_
 ·exact fun u=>⟨0,u,rfl,(Ch.base b),(Ch.refl (fun k=>b.heap.size≤k) b),(by omega),(by first|rfl|exact allW_next (by assumption) (by omega) (by assumption))⟩
 ·rintro _ p ⟨k,o,rfl,h,t,B,C⟩
  refine sr ?_
  refine pu (vb (decide (((k:Nat):Int) < (a.length:Int)))) wN ?_
  refine wl_nil<|wq_then<|wc_seq ?_
  rcases bf (decide (((k:Nat):Int) < (a.length:Int))) with i|i
  ·have D:=dF i
   refine cf i ?_
   refine wc_exit<|wq_then_exit<|wq_then_exit<|wq_blk_exit<|wq_then<|sr ?_
   refine mw (vs e a.length f) ?_
   refine ln wN slTy_24 (l.from0 h) ?_
   refine mw (vi d) ?_
   refine pu (vb (decide ((a.length:Int)=d))) wN ?_
   refine aw (vb (decide ((a.length:Int)=d))) ?_
   refine n3 ?_
   refine rt (vb (decide ((a.length:Int)=d))) ?_
   refine ⟨h.keep0,?_⟩
   have w:areW a d=decide ((a.length:Int)=d):=by first|(have hz:=allW_no (x:=a) (k:=k) (by omega) (by assumption);simp [areW,hz])|(have hz:=allW_all (x:=a) (k:=k) (by assumption) (by omega);simp [areW,hz])
   rw [w]
   exact rfl
  have E:=dT i
  refine ct i ?_
  refine wc_skip<|wq_then<|wc_seq<|wc_block<|sr ?_
  refine ix wN ((k:Nat):Int) slTy_24 (l.from0 h) ?_
  refine ei (x:=a) k wN isAgg_3 (l.from0 h) ?_
  refine aw (vi (a.getD k 0)) ?_
  refine nx ?_
  refine mw (vi (a.getD k 0)) ?_
  refine cl wN (ciwithin p (a.getD k 0) 0 4294967295) ?_
  rintro _ F ⟨q,rfl⟩
  have r:=h.extk q
  refine pu (vb (!(i_within (a.getD k 0) 0 4294967295))) wN ?_
  refine n2 ?_
  rcases bf (i_within (a.getD k 0) 0 4294967295) with j|j
  ·have G:=impl_within_f j
   refine ct (cA not j) ?_
   refine sr ?_
   refine aw (vb false) ?_
   refine wl_nil<|wq_then<|wc_ret<|wq_blk_ret<|wq_then_ret<|wq_then_ret<|wq_blk_ret<|wq_then_ret ?_
   refine rt (vb false) ?_
   refine ⟨r.keep0,?_⟩
   have y:areW a d=false:=by first|(have hz:=allW_no (x:=a) (k:=k) (by omega) (by assumption);simp [areW,hz])|(have hz:=allW_all (x:=a) (k:=k) (by assumption) (by omega);simp [areW,hz])
   rw [y]
   exact rfl
  have H:=impl_within_t j
  refine cf (cA not j) ?_
  refine wc_skip<|wq_blk_normal<|wq_then<|wc_region ?_
  refine ar (((k:Nat):Int)+1) wN ?_
  refine mw (vi (((k:Nat):Int)+1)) ?_
  refine wl_nil ?_
  refine wq_loopP (w0:=p) [(0,(vs e a.length f)),(1,(vi d)),(7,(vs e a.length f)),(8,(vi (a.length:Int))),(9,(vi (((k+1):Nat):Int)))] ?_ ?_ ?_
  · exact ⟨rfl,rfl,rfl,rfl,(cA (Value.int .i64) (show ((((k:Nat):Int)+1):Int)=(((k+1):Nat):Int) by omega)),trivial⟩
  · exact fun u=>⟨(k+1),u,rfl,r,(((Ch.refl (fun k=>b.heap.size≤k) b).ext t (fun k hk=>hk)).extk q),(by omega),(by first|rfl|exact allW_next (by assumption) (by omega) (by assumption))⟩
  · show a.length - ((((k+1):Nat):Int)).toNat < a.length - (((k:Nat):Int)).toNat;omega

abbrev L_91 (x:PHash) (a:Option Addr) (b:Nat) (d:Option Addr) (e:Nat):List Value:=[vs a x.H.length b,vs d x.Held.length e,vi x.N]
theorem isAgg_24:∀ w,(isAgg 24).run Try.prog w=.ok false w:=fun w=>by kernel_rfl
def R_91 (w:World) (v:Value) (x:(PHash)):Prop:=∃ (a:Option Addr) (b:Nat) (d:Option Addr) (e:Nat),v=.agg #[.slice a x.H.length b,.slice d x.Held.length e,.int .i64 x.N]∧Rd w 1 (.slice a x.H.length b) x.H.length (x.H.map iV)∧x.H.length≤1073741824∧Rd w 1 (.slice d x.Held.length e) x.Held.length (x.Held.map bV)∧x.Held.length≤1073741824
theorem mR_24 {w:World} {x:List Int} {a:Option Addr} {b:Nat} (d:Rd w 1 (.slice a x.length b) x.length (x.map iV)) (e:x.length≤1073741824):R_24 w (vs a x.length b) x:=⟨_,_,rfl,d,e⟩
def i_HashOk (a:PHash):(Bool):=bif (areW a.H 8) then (bif (i_within a.N 0 1048576) then (decide ((a.N % 64)=(a.Held.length:Int))) else (false)) else (false)
theorem ciHashOk (e:World) (l:Value) (a:PHash) (w:R_91 e l a) :Fn Try.prog 73 #[l] e (fun v m=>Keep e m∧O_4 m e.heap.size v (i_HashOk a)):=by
 obtain ⟨g,h,i,j,rfl,x,y,A,E⟩:=w
 refine fn_ofS (n:=20) [(va (L_91 a g h i j))] Try.func73 rfl rfl ?_
 refine sr ?_
 refine bx (L_91 a g h i j) wN ?_
 intro f B F G C o
 have p:=(Ch.base e).extk C
 refine aw (vb false) ?_
 refine nx ?_
 refine pu (vp f 0) wN ?_
 refine ld (vs g a.H.length h) wN isAgg_24 o ?_
 refine cl wN (ciareWords B _ a.H (mR_24 (x.from0 p) y) 8) ?_
 rintro _ D ⟨q,rfl⟩
 have r:=p.extk q
 refine mw (vb (areW a.H 8)) ?_
 rcases bf (areW a.H 8) with d|d
 ·iterate 3 refine sk d ?_
  refine pf (vb false) wN d ?_
  refine mw (vb false) ?_
  iterate 7 refine sk (Eq.refl false) ?_
  refine pf (vb false) wN (Eq.refl false) ?_
  refine aw (vb false) ?_
  refine n3 ?_
  refine rt (vb false) ?_
  refine ⟨r.keep0,?_⟩
  simp only [i_HashOk,d,cond_true,cond_false]
  exact rfl
 have I:=areW_t d
 refine pu (vp f 2) (wS d) ?_
 have s:=(o.kp q)
 refine ld (vi a.N) (wS d) isAgg_3 s ?_
 refine cl (wS d) (ciwithin D a.N 0 1048576) ?_
 rintro _ J ⟨t,rfl⟩
 have k:=r.extk t
 refine pk (vb (i_within a.N 0 1048576)) wN d ?_
 refine mw (vb (i_within a.N 0 1048576)) ?_
 rcases bf (i_within a.N 0 1048576) with b|b
 ·have K:=impl_within_f b
  iterate 7 refine sk b ?_
  refine pf (vb false) wN b ?_
  refine aw (vb false) ?_
  refine n3 ?_
  refine rt (vb false) ?_
  refine ⟨k.keep0,?_⟩
  simp only [i_HashOk,d,b,cond_true,cond_false]
  exact rfl
 have L:=impl_within_t b
 refine pu (vp f 2) (wS b) ?_
 have u:=(s.kp t)
 refine ld (vi a.N) (wS b) isAgg_3 u ?_
 refine wl_rem a.N 64 (wS b) rfl rfl (by kernel_rfl) (by first|omega|assumption) ?_
 refine pu (vp f 1) (wS b) ?_
 refine ld (vs i a.Held.length j) (wS b) isAgg_22 u ?_
 refine ln (wS b) slTy_22 (A.from0 k) ?_
 refine pu (vb (decide ((a.N % 64)=(a.Held.length:Int)))) (wS b) ?_
 refine pk (vb (decide ((a.N % 64)=(a.Held.length:Int)))) wN b ?_
 refine aw (vb (decide ((a.N % 64)=(a.Held.length:Int)))) ?_
 refine n3 ?_
 refine rt (vb (decide ((a.N % 64)=(a.Held.length:Int)))) ?_
 refine ⟨k.keep0,?_⟩
 simp only [i_HashOk,d,b,cond_true,cond_false]
 exact rfl
theorem hashOk_t {h:PHash} (hh:i_HashOk h=true):areW h.H 8=true∧0≤h.N∧h.N≤1048576∧h.N % 64=(h.Held.length:Int):=by
  cases h1:areW h.H 8 with
  | false=>simp [i_HashOk,h1] at hh
  | true =>
    cases h2:i_within h.N 0 1048576 with
    | false=>simp [i_HashOk,h1,h2] at hh
    | true =>
      have a:=impl_within_t h2
      simp [i_HashOk,h1,h2] at hh
      exact ⟨rfl,a.1,a.2,by omega⟩

def i_clone (a:List UInt8):(List UInt8):=a
theorem ciclone (b:World) (d:Value) (a:List UInt8) (l:R_22 b d a) :Fn Try.prog 40 #[d] b (fun v e=>Keep b e∧O_22 e b.heap.size v (a)):=by
 obtain ⟨f,g,rfl,m,o⟩:=l
 refine fn_ofS (n:=6) [(vs f a.length g)] Try.func40 rfl rfl ?_
 refine sr ?_
 refine aw (vs none 0 0) ?_
 refine nx ?_
 refine wl_lit0 wN rfl rfl slTy_22 (fun w=>by kernel_rfl) ?_
 intro u x h p
 have i:=(Ch.base b).extk h
 refine mw (vs f a.length g) ?_
 refine ap0 a wN slTy_22 p (m.from0 i) h.size ?_
 intro j k y q r A
 have s:=i.extk q
 refine aw (vs j a.length k) ?_
 refine n3 ?_
 refine rt (vs j a.length k) ?_
 refine ⟨s.keep0,?_⟩
 have t:a=a:=by rfl
 rw [t]
 exact ⟨_,_,rfl,r,o,⟨trivial,trivial⟩⟩

def LT_22:LTy (List UInt8):={E:=22,Eb:=5,sz:=1,enc:=fun e=>[vs (adr2 e.2 0).1 e.1.length (adr2 e.2 0).2],bs:=fun x=>[x],len:=fun _=>rfl,one:=fun _=>one_all rfl,pos:=by decide,ne:=by decide}
def z_B:List UInt8:=[]
theorem slTy_56:SlTy Try.prog 56 22 1 24 (vs none 0 0):=slTy Try.underlying56 (by kernel_rfl) rfl rfl
def R_56 (w:World) (v:Value) (x:(List (List UInt8))):Prop:=∃ (a:Option Addr) (b:Nat),v=.slice a x.length b∧RLv LT_22 w 1073741824 a x.length b x∧x.length≤1073741824
theorem cijoined (b:World) (B:Value) (a:List (List UInt8)) (K:R_56 b B a) (aa:(joinB a).length≤4000000):Fn Try.prog 65 #[B] b (fun v f=>Keep b f∧O_22 f b.heap.size v (joinB a)):=by
 obtain ⟨g,h,rfl,r,ab⟩:=K
 refine fn_ofS (n:=18) [(vs g a.length h)] Try.func65 rfl rfl ?_
 refine sr ?_
 refine aw (vs none 0 0) ?_
 refine nx ?_
 refine wl_lit0 wN rfl rfl slTy_22 (fun w=>by kernel_rfl) ?_
 intro s t C L
 have D:=(Ch.base b).extk C
 refine aw (vs (some s) 0 0) ?_
 refine n4 ?_
 refine mw (vs g a.length h) ?_
 obtain ⟨ac,M⟩:=RLv.row (r.from0 D)
 refine ln wN slTy_56 M ?_
 refine mw (vi 0) ?_
 refine wl_nil<|wq_then<|wc_block ?_
 have E:([]:List UInt8)=joinB (a.take 0):=by rfl
 have F:0=(joinB (a.take 0)).length:=by rw [← E];try (first|rfl|simp only [List.length_set]|simp)
 refine wc_loopP [(2,(vs none 0 0)),(3,(.slice (some s) (joinB (a.take 0)).length 0)),(7,(vs g a.length h)),(8,(vi (a.length:Int))),(9,(vi ((0:Nat):Int)))] ⟨rfl,rfl,rfl,rfl,(cA (Value.int .i64) (show (0:Int)=((0:Nat):Int) by omega)),trivial⟩ (fun e' f=>∃ (k:Nat) (G:Env) (d:Option Addr) (e:Nat),e'=pt G [(2,(vs none 0 0)),(3,(.slice d (joinB (a.take k)).length e)),(7,(vs g a.length h)),(8,(vi (a.length:Int))),(9,(vi ((k:Nat):Int)))]∧Ch (fun k=>b.heap.size≤k) b f∧Ch (fun k=>b.heap.size≤k) t f∧k≤a.length∧(World.ownsRow f b.heap.size 5 1 (.slice d (joinB (a.take k)).length e) (joinB (a.take k)).length ((joinB (a.take k)).map bV)∧(joinB (a.take k)).length≤1073741824)) (fun e' _=>a.length - ((intOf (e' 9))).toNat) ?_ ?_
 ·exact fun u=>⟨0,u,(some s),0,rfl,D,(Ch.refl (fun k=>b.heap.size≤k) t),(by omega),⟨(by rw [← F,← E];exact L),(by rw [← F];first|exact (by simp)|(simp only [List.length_append,List.length_take,List.length_replicate];omega))⟩⟩
 ·rintro _ N ⟨k,G,d,e,rfl,j,H,ad,⟨o,O⟩⟩
  have hfl:=flat_le (z:=z_B) (x:=a) (k:=k)
  refine sr ?_
  refine pu (vb (decide (((k:Nat):Int) < (a.length:Int)))) wN ?_
  refine wl_nil<|wq_then<|wc_seq ?_
  rcases bf (decide (((k:Nat):Int) < (a.length:Int))) with m|m
  ·have ae:=dF m
   refine cf m ?_
   refine wc_exit<|wq_then_exit<|wq_then_exit<|wq_blk_exit<|wq_then<|sr ?_
   refine mw (vs d (joinB (a.take k)).length e) ?_
   refine aw (vs d (joinB (a.take k)).length e) ?_
   refine n3 ?_
   refine rt (vs d (joinB (a.take k)).length e) ?_
   refine ⟨j.keep0,?_⟩
   have P:joinB a=(joinB (a.take k)):=by exact flat_end (by omega)
   rw [P]
   exact ⟨_,_,rfl,o,O,⟨trivial,trivial⟩⟩
  have af:=dT m
  refine ct m ?_
  refine wc_skip<|wq_then<|wc_seq<|wc_block<|sr ?_
  obtain ⟨ah,Q⟩:=RLv.row (r.from0 j)
  refine ix wN ((k:Nat):Int) slTy_56 Q ?_
  obtain ⟨ai,aj,R,S,T⟩:=RLv.el z_B (i:=k) r (by first|omega|(simp <;> omega))
  obtain ⟨y,A,ak,rfl,V,am,W⟩:=SubR.c T
  obtain rfl:=SubR.n W
  refine wl_loadE (vs y (a.getD k z_B).length A) wN rfl rfl rfl rfl isAgg_22 (R.from0 j) ((get_of (off:=0) S (by first|rfl|simp|omega) (by decide)).trans rfl) ?_
  refine aw (vs y (a.getD k z_B).length A) ?_
  refine wl_nil<|wq_then<|wc_region ?_
  refine mw (vs d (joinB (a.take k)).length e) ?_
  refine mw (vs y (a.getD k z_B).length A) ?_
  refine apB (joinB (a.take k)) (a.getD k z_B) wN slTy_22 o (V.from0 j) (z2 C H) ?_
  intro p q an I X ao Y
  have Z:=j.ext I (fun k hk=>nT (Nat.le_refl b.heap.size) (own_lt o k hk).1)
  refine aw (vs p ((joinB (a.take k))++(a.getD k z_B)).length q) ?_
  refine wl_nil<|wq_blk_normal<|wq_then<|wc_region ?_
  refine ar (((k:Nat):Int)+1) wN ?_
  refine mw (vi (((k:Nat):Int)+1)) ?_
  refine wl_nil ?_
  have J:(((joinB (a.take k))++(a.getD k z_B)):List UInt8)=joinB (a.take (k+1)):=by exact flat_next (by omega)
  refine wq_loopP (w0:=N) [(2,(vs none 0 0)),(3,(.slice p (joinB (a.take (k+1))).length q)),(7,(vs g a.length h)),(8,(vi (a.length:Int))),(9,(vi (((k+1):Nat):Int)))] ?_ ?_ ?_
  · exact ⟨rfl,(cA (fun l:List UInt8=>Value.slice p l.length q) J),rfl,rfl,(cA (Value.int .i64) (show ((((k:Nat):Int)+1):Int)=(((k+1):Nat):Int) by omega)),trivial⟩
  · exact fun u=>⟨(k+1),u,p,q,rfl,Z,(((Ch.refl (fun k=>b.heap.size≤k) t).ext H (fun k hk=>hk)).ext I (fun k hk=>nT (Nat.le_refl b.heap.size) (own_lt o k hk).1)),(by omega),(J ▸ ⟨X,Y⟩)⟩
  · show a.length - ((((k+1):Nat):Int)).toNat < a.length - (((k:Nat):Int)).toNat;omega

def O_22_4 (w:World) (lo:Nat) (v:Value) (x:(List UInt8)×(Bool)):Prop:=∃ (a:Option Addr) (b:Nat),v=.tuple #[.slice a x.1.length b,.bool x.2]∧w.ownsRow lo 5 1 (.slice a x.1.length b) x.1.length (x.1.map bV)∧x.1.length≤1073741824∧Aps [(a,b)]
theorem ciCut (h:World) (p:Value) (d:List UInt8) (u:R_22 h p d) (a:Int) (b:Int) :Fn Try.prog 93 #[p,(vi a),(vi b)] h (fun v q=>Keep h q∧O_22_4 q h.heap.size v (cutP d a b)):=by
 obtain ⟨i,j,rfl,l,x⟩:=u
 refine fn_ofS (n:=36) [(vs i d.length j),(vi a),(vi b)] Try.func93 rfl rfl ?_
 refine sr ?_
 refine aw (vs none 0 0) ?_
 refine aw (vb false) ?_
 refine n4 ?_
 refine jT1 [(0,(vs i d.length j)),(1,(vi a)),(2,(vi b)),(6,(vs none 0 0)),(7,(vb false))] (cutP d a b=([],false)) ?_ fun m=>?_
 ·intro y A B O
  have C:=(Ch.base h).extk B
  refine sr ?_
  refine aw (vs none 0 0) ?_
  refine aw (vb false) ?_
  refine n1 ?_
  refine ret_2 (.inl rfl) (vs none 0 0) (vb false) rfl rfl rfl ?_
  refine ⟨C.keep0,?_⟩
  rw [y]
  exact ⟨_,_,rfl,(by first|exact own_nil _ _ _ _|exact OLv.nil _ _ _ _),(by simp),⟨trivial,trivial⟩⟩
 refine mw (vi a) ?_
 refine pu (vb (decide (a < 0))) wN ?_
 refine mw (vb (decide (a < 0))) ?_
 rcases bt (decide (a < 0)) with g|g
 ·have P:=dT g
  iterate 2 refine sk g ?_
  refine pk (vb true) wN g ?_
  refine mw (vb true) ?_
  iterate 4 refine sk (Eq.refl true) ?_
  refine pk (vb true) wN (Eq.refl true) ?_
  refine mw (vb true) ?_
  iterate 6 refine sk (Eq.refl true) ?_
  refine pk (vb true) wN (Eq.refl true) ?_
  refine n2 ?_
  refine ct (Eq.refl true) ?_
  have D:cutP d a b=([],false):=by first|exact cutP_f (by omega)|exact cutP_t (by omega) (by omega) (by omega) (by first|rfl|(congr 2;omega)|(congr 1;omega))
  exact wj (m D _ (Ch.refl _ _))
 have Q:=dF g
 refine mv (vi b) (wS g) ?_
 refine pu (vb (decide (b < 0))) (wS g) ?_
 refine pf (vb (decide (b < 0))) wN g ?_
 refine mw (vb (decide (b < 0))) ?_
 rcases bt (decide (b < 0)) with f|f
 ·have R:=dT f
  iterate 4 refine sk f ?_
  refine pk (vb true) wN f ?_
  refine mw (vb true) ?_
  iterate 6 refine sk (Eq.refl true) ?_
  refine pk (vb true) wN (Eq.refl true) ?_
  refine n2 ?_
  refine ct (Eq.refl true) ?_
  have E:cutP d a b=([],false):=by first|exact cutP_f (by omega)|exact cutP_t (by omega) (by omega) (by omega) (by first|rfl|(congr 2;omega)|(congr 1;omega))
  exact wj (m E _ (Ch.refl _ _))
 have S:=dF f
 refine mv (vi a) (wS f) ?_
 refine mv (vs i d.length j) (wS f) ?_
 refine ln (wS f) slTy_22 l ?_
 refine pu (vb (decide ((d.length:Int) < a))) (wS f) ?_
 refine pf (vb (decide ((d.length:Int) < a))) wN f ?_
 refine mw (vb (decide ((d.length:Int) < a))) ?_
 rcases bt (decide ((d.length:Int) < a)) with e|e
 ·have T:=dT e
  iterate 6 refine sk e ?_
  refine pk (vb true) wN e ?_
  refine n2 ?_
  refine ct (Eq.refl true) ?_
  have F:cutP d a b=([],false):=by first|exact cutP_f (by omega)|exact cutP_t (by omega) (by omega) (by omega) (by first|rfl|(congr 2;omega)|(congr 1;omega))
  exact wj (m F _ (Ch.refl _ _))
 have V:=dF e
 refine mv (vi b) (wS e) ?_
 refine mv (vs i d.length j) (wS e) ?_
 refine ln (wS e) slTy_22 l ?_
 refine mv (vi a) (wS e) ?_
 refine ar ((d.length:Int) - a) (wS e) ?_
 refine pu (vb (decide (((d.length:Int) - a) < b))) (wS e) ?_
 refine pf (vb (decide (((d.length:Int) - a) < b))) wN e ?_
 refine n2 ?_
 rcases bt (decide (((d.length:Int) - a) < b)) with k|k
 ·have W:=dT k
  refine ct k ?_
  have G:cutP d a b=([],false):=by first|exact cutP_f (by omega)|exact cutP_t (by omega) (by omega) (by omega) (by first|rfl|(congr 2;omega)|(congr 1;omega))
  exact wj (m G _ (Ch.refl _ _))
 have X:=dF k
 refine cf k ?_
 refine y1 ?_
 refine wl_lit0 wN rfl rfl slTy_22 (fun w=>by kernel_rfl) ?_
 intro Y A r H
 have o:=(Ch.base h).extk r
 refine mw (vs i d.length j) ?_
 refine mw (vi a) ?_
 refine mw (vi a) ?_
 refine mw (vi b) ?_
 refine ar (a+b) wN ?_
 refine slv ((d.drop ((a).toNat)).take ((((a+b)).toNat) - ((a).toNat))) ((a).toNat) (((a+b)).toNat) wN slTy_22 (l.from0 o) (by first|omega|(simp <;> omega)) (by first|omega|(simp <;> omega)) (by first|rfl|(simp;done)|(rw [List.take_of_length_le (by first|(simp;done)|(simp;omega))])) rfl rfl rfl rfl (.inr ⟨_,_,_,rfl,rfl,by omega⟩) (.inr ⟨_,_,_,rfl,rfl,by omega⟩) ?_
 have I:((a).toNat)≤(((a+b)).toNat):=(by first|omega|(simp <;> omega))
 have J:(((a+b)).toNat)≤d.length:=(by first|omega|(simp <;> omega))
 refine ap0 ((d.drop ((a).toNat)).take ((((a+b)).toNat) - ((a).toNat))) wN slTy_22 H (Rd.subV (x':=((d.drop ((a).toNat)).take ((((a+b)).toNat) - ((a).toNat)))) (l.from0 o) I J (by first|rfl|(simp;done)|(rw [List.take_of_length_le (by first|(simp;done)|(simp;omega))]))) r.size ?_
 intro s t Z K L aa
 have M:=o.extk K
 refine aw (vs s ((d.drop ((a).toNat)).take ((((a+b)).toNat) - ((a).toNat))).length t) ?_
 refine aw (vb true) ?_
 refine n3 ?_
 refine ret_2 (.inl rfl) (vs s ((d.drop ((a).toNat)).take ((((a+b)).toNat) - ((a).toNat))).length t) (vb true) rfl rfl rfl ?_
 refine ⟨M.keep0,?_⟩
 have N:cutP d a b=(((d.drop ((a).toNat)).take ((((a+b)).toNat) - ((a).toNat))),true):=by first|exact cutP_f (by omega)|exact cutP_t (by omega) (by omega) (by omega) (by first|rfl|(congr 2;omega)|(congr 1;omega))
 rw [N]
 exact ⟨_,_,rfl,L,(nT (by simp only [List.length_take,List.length_drop];omega) x),⟨trivial,trivial⟩⟩

def O_3_3_4 (w:World) (lo:Nat) (v:Value) (x:(Int)×(Int)×(Bool)):Prop:=v=.tuple #[.int .i64 x.1,.int .i64 x.2.1,.bool x.2.2]
theorem ciGetN (f:World) (w:Value) (d:List UInt8) (F:R_22 f w d) (b:Int) (a:Int) :Fn Try.prog 92 #[w,(vi b),(vi a)] f (fun v m=>Keep f m∧O_3_3_4 m f.heap.size v (getN3 d b a)):=by
 obtain ⟨r,s,rfl,G,H⟩:=F
 refine fn_ofS (n:=45) [(vs r d.length s),(vi b),(vi a)] Try.func92 rfl rfl ?_
 refine sr ?_
 refine aw (vi 0) ?_
 refine aw (vi 0) ?_
 refine aw (vb false) ?_
 refine n4 ?_
 refine jT1 [(0,(vs r d.length s)),(1,(vi b)),(2,(vi a)),(6,(vi 0)),(7,(vi 0)),(8,(vb false))] (getN3 d b a=(0,0,false)) ?_ fun y=>?_
 ·intro I e J R
  have K:=(Ch.base f).extk J
  refine sr ?_
  refine aw (vi 0) ?_
  refine aw (vi 0) ?_
  refine aw (vb false) ?_
  refine n1 ?_
  refine ret_3 (.inl rfl) (vi 0) (vi 0) (vb false) rfl rfl rfl rfl ?_
  refine ⟨K.keep0,?_⟩
  rw [I]
  exact rfl
 refine mw (vi a) ?_
 refine pu (vb (decide (a < 1))) wN ?_
 refine mw (vb (decide (a < 1))) ?_
 rcases bt (decide (a < 1)) with h|h
 ·have S:=dT h
  iterate 2 refine sk h ?_
  refine pk (vb true) wN h ?_
  refine n2 ?_
  refine ct (Eq.refl true) ?_
  have L:getN3 d b a=(0,0,false):=by first|exact getN3_f (by omega)|exact getN3_c (by assumption)|exact getN3_t (by omega) (by omega) (by assumption) (by omega)
  exact wj (y L _ (Ch.refl _ _))
 have T:=dF h
 refine mv (vi a) (wS h) ?_
 refine pu (vb (decide (6 < a))) (wS h) ?_
 refine pf (vb (decide (6 < a))) wN h ?_
 refine n2 ?_
 rcases bt (decide (6 < a)) with o|o
 ·have V:=dT o
  refine ct o ?_
  have M:getN3 d b a=(0,0,false):=by first|exact getN3_f (by omega)|exact getN3_c (by assumption)|exact getN3_t (by omega) (by omega) (by assumption) (by omega)
  exact wj (y M _ (Ch.refl _ _))
 have W:=dF o
 refine cf o ?_
 refine y1 ?_
 refine mw (vs r d.length s) ?_
 refine mw (vi b) ?_
 refine mw (vi a) ?_
 refine cl wN (ciCut f _ d (mR_22 G H) b a) ?_
 rintro _ e ⟨N,⟨j,l,rfl,t,_⟩⟩
 have A:=(Ch.base f).extk N
 have X:=cutP_len d b a
 refine mw (.tuple #[(vs j ((cutP d b a).1).length l),(vb ((cutP d b a).2))]) ?_
 refine pu (vs j ((cutP d b a).1).length l) wN ?_
 refine pu (vb ((cutP d b a).2)) wN ?_
 refine aw (vs j ((cutP d b a).1).length l) ?_
 refine aw (vb ((cutP d b a).2)) ?_
 refine n4 ?_
 refine mw (vb ((cutP d b a).2)) ?_
 refine pu (vb (!((cutP d b a).2))) wN ?_
 refine n2 ?_
 rcases bf ((cutP d b a).2) with q|q
 ·refine ct (cA not q) ?_
  refine sr ?_
  refine aw (vi 0) ?_
  refine aw (vi 0) ?_
  refine aw (vb false) ?_
  refine n1 ?_
  refine ret_3 (.inl rfl) (vi 0) (vi 0) (vb false) rfl rfl rfl rfl ?_
  refine ⟨A.keep0,?_⟩
  have O:getN3 d b a=(0,0,false):=by first|exact getN3_f (by omega)|exact getN3_c (by assumption)|exact getN3_t (by omega) (by omega) (by assumption) (by omega)
  rw [O]
  exact rfl
 have Y:=cutP_2 q
 refine cf (cA not q) ?_
 refine y1 ?_
 refine aw (vi 0) ?_
 refine n4 ?_
 refine mw (vs j ((cutP d b a).1).length l) ?_
 refine ln wN slTy_22 (Rd.of_own t) ?_
 refine mw (vi 0) ?_
 refine wl_nil<|wq_then<|wc_block ?_
 refine wc_loopP [(1,(vi b)),(2,(vi a)),(6,(vi 0)),(7,(vi 0)),(8,(vb false)),(11,(vi (getV ((cutP d b a).1.take 0) 0))),(29,(vs j ((cutP d b a).1).length l)),(30,(vi (((cutP d b a).1).length:Int))),(31,(vi ((0:Nat):Int)))] ⟨rfl,rfl,rfl,rfl,rfl,(cA (Value.int .i64) (show (0:Int)=(getV ((cutP d b a).1.take 0) 0) by rfl)),rfl,rfl,(cA (Value.int .i64) (show (0:Int)=((0:Nat):Int) by omega)),trivial⟩ (fun e' m=>∃ (i:Nat) (B:Env),e'=pt B [(1,(vi b)),(2,(vi a)),(6,(vi 0)),(7,(vi 0)),(8,(vb false)),(11,(vi (getV ((cutP d b a).1.take i) 0))),(29,(vs j ((cutP d b a).1).length l)),(30,(vi (((cutP d b a).1).length:Int))),(31,(vi ((i:Nat):Int)))]∧Ch (fun k=>f.heap.size≤k) f m∧Ch (fun k=>e.heap.size≤k) e m∧i≤(cutP d b a).1.length) (fun e' _=>(cutP d b a).1.length - ((intOf (e' 31))).toNat) ?_ ?_
 ·exact fun u=>⟨0,u,rfl,A,(Ch.refl (fun k=>e.heap.size≤k) e),(by omega)⟩
 ·rintro _ P ⟨i,B,rfl,C,D,Z⟩
  have hgb:=getV_b6 ((cutP d b a).1) i (by omega)
  have aa:((cutP d b a).1.getD i 0).toNat < 256:=UInt8.toNat_lt _
  refine sr ?_
  refine pu (vb (decide (((i:Nat):Int) < (((cutP d b a).1).length:Int)))) wN ?_
  refine wl_nil<|wq_then<|wc_seq ?_
  rcases bf (decide (((i:Nat):Int) < (((cutP d b a).1).length:Int))) with p|p
  ·have ab:=dF p
   refine cf p ?_
   refine wc_exit<|wq_then_exit<|wq_then_exit<|wq_blk_exit<|wq_then<|sr ?_
   refine mw (vi (getV ((cutP d b a).1.take i) 0)) ?_
   refine mw (vi b) ?_
   refine mw (vi a) ?_
   refine ar (b+a) wN ?_
   refine aw (vi (getV ((cutP d b a).1.take i) 0)) ?_
   refine aw (vi (b+a)) ?_
   refine aw (vb true) ?_
   refine n3 ?_
   refine ret_3 (.inl rfl) (vi (getV ((cutP d b a).1.take i) 0)) (vi (b+a)) (vb true) rfl rfl rfl rfl ?_
   refine ⟨C.keep0,?_⟩
   have Q:getN3 d b a=((getV ((cutP d b a).1.take i) 0),(b+a),true):=by first|exact getN3_f (by omega)|exact getN3_c (by assumption)|exact getN3_t (by omega) (by omega) (by assumption) (by omega)
   rw [Q]
   exact rfl
  have ac:=dT p
  refine ct p ?_
  refine wc_skip<|wq_then<|wc_seq<|wc_block<|sr ?_
  have E:=(own_ch t D (fun g hg hlt hk=>by have ad:=(own_lt t g hg).2;have ae:e.heap.size≤e.heap.size:=(Nat.le_refl e.heap.size);have af:e.heap.size≤g:=hk;omega))
  refine ix wN ((i:Nat):Int) slTy_22 (Rd.of_own E) ?_
  refine eb (x:=(cutP d b a).1) i wN isAgg_5 (Rd.of_own E) ?_
  refine aw (v8 ((((cutP d b a).1).getD i 0).toNat:Int)) ?_
  refine wl_nil<|wq_then<|wc_region ?_
  refine mw (vi (getV ((cutP d b a).1.take i) 0)) ?_
  refine ar (256*(getV ((cutP d b a).1.take i) 0)) wN ?_
  refine mw (v8 ((((cutP d b a).1).getD i 0).toNat:Int)) ?_
  refine ar ((((cutP d b a).1).getD i 0).toNat:Int) wN ?_
  refine ar ((256*(getV ((cutP d b a).1.take i) 0))+((((cutP d b a).1).getD i 0).toNat:Int)) wN ?_
  refine aw (vi ((256*(getV ((cutP d b a).1.take i) 0))+((((cutP d b a).1).getD i 0).toNat:Int))) ?_
  refine wl_nil<|wq_blk_normal<|wq_then<|wc_region ?_
  refine ar (((i:Nat):Int)+1) wN ?_
  refine mw (vi (((i:Nat):Int)+1)) ?_
  refine wl_nil ?_
  refine wq_loopP (w0:=P) [(1,(vi b)),(2,(vi a)),(6,(vi 0)),(7,(vi 0)),(8,(vb false)),(11,(vi (getV ((cutP d b a).1.take (i+1)) 0))),(29,(vs j ((cutP d b a).1).length l)),(30,(vi (((cutP d b a).1).length:Int))),(31,(vi (((i+1):Nat):Int)))] ?_ ?_ ?_
  · exact ⟨rfl,rfl,rfl,rfl,rfl,(cA (Value.int .i64) (show (((256*(getV ((cutP d b a).1.take i) 0))+((((cutP d b a).1).getD i 0).toNat:Int)):Int)=(getV ((cutP d b a).1.take (i+1)) 0) by exact getV_next (by omega))),rfl,rfl,(cA (Value.int .i64) (show ((((i:Nat):Int)+1):Int)=(((i+1):Nat):Int) by omega)),trivial⟩
  · exact fun u=>⟨(i+1),u,rfl,C,((Ch.refl (fun k=>e.heap.size≤k) e).ext D (fun k hk=>hk)),(by omega)⟩
  · show (cutP d b a).1.length - ((((i+1):Nat):Int)).toNat < (cutP d b a).1.length - (((i:Nat):Int)).toNat;omega

theorem ciRot (i:World) (e:Int) (d:Int) (x:1≤d) (y:d≤31):Fn Try.prog 89 #[(vi e),(vi d)] i (fun v l=>Keep i l∧O_3 l i.heap.size v (rot e d)):=by
 refine fn_ofS (n:=23) [(vi e),(vi d)] Try.func89 rfl rfl ?_
 refine sr ?_
 refine aw (vi 0) ?_
 refine nx ?_
 refine mw (vi e) ?_
 refine wl_and e 4294967295 4294967296 32 wN rfl rfl (by decide) (by decide) (by decide) (by kernel_rfl) ?_
 refine aw (vi (e % 4294967296)) ?_
 refine n4 ?_
 refine jT1 [(0,(vi (e % 4294967296))),(1,(vi d)),(4,(vi 0))] (rot e d=(e % 4294967296)) ?_ fun m=>?_
 ·intro o f p A
  have q:=(Ch.base i).extk p
  refine sr ?_
  refine mw (vi (e % 4294967296)) ?_
  refine aw (vi (e % 4294967296)) ?_
  refine n1 ?_
  refine rt (vi (e % 4294967296)) ?_
  refine ⟨q.keep0,?_⟩
  rw [o]
  exact rfl
 refine mw (vi d) ?_
 refine pu (vb (decide (d < 0))) wN ?_
 refine mw (vb (decide (d < 0))) ?_
 rcases bt (decide (d < 0)) with g|g
 ·have B:=dT g
  iterate 2 refine sk g ?_
  refine pk (vb true) wN g ?_
  refine n2 ?_
  refine ct (Eq.refl true) ?_
  have r:rot e d=(e % 4294967296):=by first|rfl|(exfalso;omega)
  exact wj (m r _ (Ch.refl _ _))
 have C:=dF g
 refine mv (vi d) (wS g) ?_
 refine pu (vb (decide (31 < d))) (wS g) ?_
 refine pf (vb (decide (31 < d))) wN g ?_
 refine n2 ?_
 rcases bt (decide (31 < d)) with j|j
 ·have D:=dT j
  refine ct j ?_
  have s:rot e d=(e % 4294967296):=by first|rfl|(exfalso;omega)
  exact wj (m s _ (Ch.refl _ _))
 have E:=dF j
 refine cf j ?_
 refine wc_skip<|wq_then<|wc_seq ?_
 refine wc_drawT ([(14,[],[],(fun _ v _=>v=(vi (e % 4294967296)))),(15,[],[],(fun _ v _=>v=(vi d))),(16,[],[0,1],(fun _ v _=>v=(vi ((e % 4294967296) / (2:Int) ^ (d).toNat)))),(17,[],[],(fun _ v _=>v=(vi (e % 4294967296)))),(18,[],[],(fun _ v _=>v=(vi d))),(19,[],[4],(fun _ v _=>v=(vi (32 - d)))),(20,[],[3,4,5],(fun _ v _=>v=(vi ((e % 4294967296)*(2:Int) ^ ((32 - d)).toNat))))]:GV) (fun _ l=>Keep i l) [] mixed rfl (by kernel_rfl) (by kernel_rfl) ?_ (fun _ _ h=>h) (fun _ _ _ _ h _ k=>h.trans k) trivial ?_ ?_ ?_
 ·exact ⟨hV,hE,⟨hV,hE,⟨hV,hE,⟨hV,hE,⟨hV,hE,⟨hV,hE,⟨hV,hE,trivial⟩⟩⟩⟩⟩⟩⟩
 ·exact trivial
 ·refine ⟨?_,⟨?_,⟨?_,⟨?_,⟨?_,⟨?_,⟨?_,trivial⟩⟩⟩⟩⟩⟩⟩
  ·intro _ f F _
   rintro _ _ _ _ _ _ _
   refine sw ?_
   refine mw (vi (e % 4294967296)) ?_
   exact f1
  ·intro _ f G _
   rintro _ _ _ _ _ _ _
   refine sw ?_
   refine mw (vi d) ?_
   exact f1
  ·intro _ f H _
   rintro _ rfl _ rfl _ _ _ _ _
   refine sw ?_
   refine wl_shr (e % 4294967296) d wN rfl rfl rfl rfl rfl (by omega) (by omega) ?_
   have I:=shr_b (a:=(e % 4294967296)) (by omega) (d).toNat
   exact f1
  ·intro _ f J _
   rintro _ _ _ _ _ _ _
   refine sw ?_
   refine mw (vi (e % 4294967296)) ?_
   exact f1
  ·intro _ f K _
   rintro _ _ _ _ _ _ _
   refine sw ?_
   refine mw (vi d) ?_
   exact f1
  ·intro _ f L _
   rintro _ _ _ _ _ rfl _ _
   refine sw ?_
   refine ar (32 - d) wN ?_
   exact f1
  ·intro _ f M _
   rintro _ _ _ _ rfl _ rfl _ rfl _
   refine sw ?_
   refine wl_shl (e % 4294967296) (32 - d) wN rfl rfl rfl rfl rfl (by omega) (by omega) (by omega) (by omega) ?_
   have N:=shl_b (a:=(e % 4294967296)) (n:=((32 - d)).toNat) (by omega) (by omega) (by omega)
   exact f1
 ·intro _ f t
  have u:=(Ch.base i).extk t
  rintro _ rfl _ rfl _ rfl
  have O:=shr_b (a:=(e % 4294967296)) (by omega) (d).toNat
  rintro _ rfl _ rfl _ rfl _ rfl
  have P:=shl_b (a:=(e % 4294967296)) (n:=((32 - d)).toNat) (by omega) (by omega) (by omega)
  refine sw ?_
  refine wl_or ((e % 4294967296) / (2:Int) ^ (d).toNat) ((e % 4294967296)*(2:Int) ^ ((32 - d)).toNat) wN rfl rfl (by kernel_rfl) (by omega) (by omega) (by omega) (by omega) ?_
  have Q:=orI_p (a:=((e % 4294967296) / (2:Int) ^ (d).toNat)) (b:=((e % 4294967296)*(2:Int) ^ ((32 - d)).toNat)) (by omega) (by omega)
  refine wl_and (orI ((e % 4294967296) / (2:Int) ^ (d).toNat) ((e % 4294967296)*(2:Int) ^ ((32 - d)).toNat)) 4294967295 4294967296 32 wN rfl rfl (by decide) (by decide) (by decide) (by kernel_rfl) ?_
  refine aw (vi ((orI ((e % 4294967296) / (2:Int) ^ (d).toNat) ((e % 4294967296)*(2:Int) ^ ((32 - d)).toNat)) % 4294967296)) ?_
  refine n3 ?_
  refine rt (vi ((orI ((e % 4294967296) / (2:Int) ^ (d).toNat) ((e % 4294967296)*(2:Int) ^ ((32 - d)).toNat)) % 4294967296)) ?_
  refine ⟨u.keep0,?_⟩
  have w:rot e d=((orI ((e % 4294967296) / (2:Int) ^ (d).toNat) ((e % 4294967296)*(2:Int) ^ ((32 - d)).toNat)) % 4294967296):=by first|rfl|(exfalso;omega)
  rw [w]
  exact rfl

theorem ciSchedule (i:World) (P:Value) (f:List UInt8) (ac:R_22 i P f) :Fn Try.prog 88 #[P] i (fun v r=>Keep i r∧O_24 r i.heap.size v (schedP f)):=by
 obtain ⟨A,B,rfl,Q,ad⟩:=ac
 refine fn_ofS (n:=79) [(vs A f.length B)] Try.func88 rfl rfl ?_
 refine sr ?_
 refine aw (vs none 0 0) ?_
 refine n4 ?_
 refine mw (vs A f.length B) ?_
 refine ln wN slTy_22 Q ?_
 refine pu (vb (!(decide ((f.length:Int)=64)))) wN ?_
 refine n2 ?_
 rcases bf (decide ((f.length:Int)=64)) with C|C
 ·have aJ:=dF C
  refine ct (cA not C) ?_
  refine sr ?_
  refine aw (vs none 0 0) ?_
  refine n1 ?_
  refine rt (vs none 0 0) ?_
  refine ⟨Ch.refl _ _,?_⟩
  have ae:schedP f=[]:=by first|exact schedP_f (by omega)|exact schedP_t (by omega) (by omega) (by omega)
  rw [ae]
  exact ⟨_,_,rfl,(by first|exact own_nil _ _ _ _|exact OLv.nil _ _ _ _),(by simp),⟨trivial,trivial⟩⟩
 have aK:=dT C
 refine cf (cA not C) ?_
 refine y1 ?_
 refine wl_makeI (64) wN rfl rfl rfl slTy_24 64 rfl (by omega) (by first|(simp only [List.length_append,List.length_cons,List.length_nil,List.length_replicate,List.length_take,List.length_drop];omega)|omega) (by first|(simp only [List.length_append,List.length_cons,List.length_nil,List.length_replicate,List.length_take,List.length_drop];omega)|omega) ?_
 intro g h H af D
 have ah:=(Ch.base i).extk af
 refine aw (vs g (List.replicate 64 (0:Int)).length h) ?_
 refine n4 ?_
 refine aw (vi 0) ?_
 refine wl_nil<|wq_then<|wc_block ?_
 have ai:((List.replicate 64 (0:Int)):List Int)=sched16 f 0++List.replicate (64 - 0) (0:Int):=by rfl
 refine wc_loopP [(0,(vs A f.length B)),(2,(vs none 0 0)),(3,(vs g (List.replicate 64 (0:Int)).length h)),(4,(vi ((0:Nat):Int)))] ⟨rfl,rfl,rfl,(cA (Value.int .i64) (show (0:Int)=((0:Nat):Int) by omega)),trivial⟩ (fun e' r=>∃ (k:Nat) (R:Env),e'=pt R [(0,(vs A f.length B)),(2,(vs none 0 0)),(3,(vs g (List.replicate 64 (0:Int)).length h)),(4,(vi ((k:Nat):Int)))]∧Ch (fun k=>i.heap.size≤k) i r∧Ch (fun k=>i.heap.size≤k) H r∧k≤16∧World.ownsRow r i.heap.size 3 1 (.slice g (List.replicate 64 (0:Int)).length h) (List.replicate 64 (0:Int)).length ((sched16 f k++List.replicate (64 - k) (0:Int)).map iV)) (fun e' _=>(16 - (intOf (e' 4))).toNat) ?_ ?_
 ·exact fun u=>⟨0,u,rfl,ah,(Ch.refl (fun k=>i.heap.size≤k) H),(by omega),(by rw [← ai];exact D)⟩
 ·rintro _ E ⟨k,R,rfl,I,aj,aL,S⟩
  have hsl:=sched16_len f k
  refine wc_seq<|sr ?_
  refine mw (vi ((k:Nat):Int)) ?_
  refine pu (vb (decide (((k:Nat):Int) < 16))) wN ?_
  refine n2 ?_
  rcases bt (decide (((k:Nat):Int) < 16)) with F|F
  ·have aM:=dT F
   refine ct F ?_
   refine wc_skip<|wq_then<|wc_seq<|wc_block<|wc_region ?_
   refine mw (vs g (List.replicate 64 (0:Int)).length h) ?_
   refine mw (vi ((k:Nat):Int)) ?_
   refine mw (vs A f.length B) ?_
   refine mw (vi ((k:Nat):Int)) ?_
   refine ar (4*((k:Nat):Int)) wN ?_
   refine cl wN (ciGetN E _ f (mR_22 (Q.from0 I) ad) (4*((k:Nat):Int)) 4) ?_
   rintro _ T ⟨J,rfl⟩
   refine mw (.tuple #[(vi ((getN3 f (4*((k:Nat):Int)) 4).1)),(vi ((getN3 f (4*((k:Nat):Int)) 4).2.1)),(vb ((getN3 f (4*((k:Nat):Int)) 4).2.2))]) ?_
   refine pu (vi ((getN3 f (4*((k:Nat):Int)) 4).1)) wN ?_
   refine pu (vi ((getN3 f (4*((k:Nat):Int)) 4).2.1)) wN ?_
   refine pu (vb ((getN3 f (4*((k:Nat):Int)) 4).2.2)) wN ?_
   have V:=(own_kp S J)
   refine ix wN ((k:Nat):Int) slTy_24 (Rd.of_own V) ?_
   refine wl_storeI (sched16 f k++List.replicate (64 - k) (0:Int)) (k) ((getN3 f (4*((k:Nat):Int)) 4).1) wN rfl rfl rfl (by simp) rfl sizeOf_3 V (by first|omega|(simp only [List.length_append,List.length_replicate,List.length_take,List.length_set,List.length_map];omega)) ?_
   intro p W ak
   have am:=(I.extk J).ext W (fun k hk=>nT (Nat.le_refl i.heap.size) (own_lt D k hk).1)
   refine wl_nil<|wq_blk_normal<|wq_then<|wc_region ?_
   refine mw (vi ((k:Nat):Int)) ?_
   refine ar (((k:Nat):Int)+1) wN ?_
   refine aw (vi (((k:Nat):Int)+1)) ?_
   refine wl_nil ?_
   have an:(((sched16 f k++List.replicate (64 - k) (0:Int)).set k ((getN3 f (4*((k:Nat):Int)) 4).1)):List Int)=sched16 f (k+1)++List.replicate (64 - (k+1)) (0:Int):=by exact sched16_next (by omega) (by omega)
   refine wq_loopP (w0:=E) [(0,(vs A f.length B)),(2,(vs none 0 0)),(3,(vs g (List.replicate 64 (0:Int)).length h)),(4,(vi (((k+1):Nat):Int)))] ?_ ?_ ?_
   · exact ⟨rfl,rfl,rfl,(cA (Value.int .i64) (show ((((k:Nat):Int)+1):Int)=(((k+1):Nat):Int) by omega)),trivial⟩
   · exact fun u=>⟨(k+1),u,rfl,am,((((Ch.refl (fun k=>i.heap.size≤k) H).ext aj (fun k hk=>hk)).extk J).ext W (fun k hk=>nT (Nat.le_refl i.heap.size) (own_lt D k hk).1)),(by omega),(by rw [← an];exact ak)⟩
   · show (16 - (((k+1):Nat):Int)).toNat < (16 - ((k:Nat):Int)).toNat;omega
  have aN:=dF F
  refine cf F ?_
  refine wc_exit<|wq_then_exit ?_
  obtain rfl:k=16:=by omega
  refine wq_then_exit<|wq_blk_exit<|wq_then<|wc_seq<|sr ?_
  refine aw (vi 16) ?_
  refine wl_nil<|wq_then<|wc_block ?_
  have ao:((sched16 f 16++List.replicate (64 - 16) (0:Int)):List Int)=schedN f 0++List.replicate (48 - 0) (0:Int):=by rfl
  refine wc_loopP [(2,(vs none 0 0)),(3,(vs g (List.replicate 64 (0:Int)).length h)),(5,(vi (16+((0:Nat):Int))))] ⟨rfl,rfl,(cA (Value.int .i64) (show (16:Int)=(16+((0:Nat):Int)) by omega)),trivial⟩ (fun e' r=>∃ (m:Nat) (X:Env),e'=pt X [(2,(vs none 0 0)),(3,(vs g (List.replicate 64 (0:Int)).length h)),(5,(vi (16+((m:Nat):Int))))]∧Ch (fun k=>i.heap.size≤k) i r∧Ch (fun k=>i.heap.size≤k) E r∧m≤48∧World.ownsRow r i.heap.size 3 1 (.slice g (List.replicate 64 (0:Int)).length h) (List.replicate 64 (0:Int)).length ((schedN f m++List.replicate (48 - m) (0:Int)).map iV)) (fun e' _=>(64 - (intOf (e' 5))).toNat) ?_ ?_
  ·exact fun u=>⟨0,u,rfl,I,(Ch.refl (fun k=>i.heap.size≤k) E),(by omega),(by rw [← ao];exact S)⟩
  ·rintro _ T ⟨m,X,rfl,Y,ap,aO,q⟩
   have hsl:=schedN_len f m
   obtain ⟨l,K⟩:∃ z,(schedN f m++List.replicate (48 - m) (0:Int)).getD (((16+((m:Nat):Int)) - 7)).toNat 0=z:=⟨_,rfl⟩
   have aP:0≤l∧l < 4294967296:=K ▸ wget (schedL_w f m) (((16+((m:Nat):Int)) - 7)).toNat
   obtain ⟨o,L⟩:∃ z,(schedN f m++List.replicate (48 - m) (0:Int)).getD (((16+((m:Nat):Int)) - 16)).toNat 0=z:=⟨_,rfl⟩
   have aQ:0≤o∧o < 4294967296:=L ▸ wget (schedL_w f m) (((16+((m:Nat):Int)) - 16)).toNat
   obtain ⟨d,M⟩:∃ z,(schedN f m++List.replicate (48 - m) (0:Int)).getD (((16+((m:Nat):Int)) - 15)).toNat 0=z:=⟨_,rfl⟩
   have aR:0≤d∧d < 4294967296:=M ▸ wget (schedL_w f m) (((16+((m:Nat):Int)) - 15)).toNat
   obtain ⟨e,N⟩:∃ z,(schedN f m++List.replicate (48 - m) (0:Int)).getD (((16+((m:Nat):Int)) - 2)).toNat 0=z:=⟨_,rfl⟩
   have aS:0≤e∧e < 4294967296:=N ▸ wget (schedL_w f m) (((16+((m:Nat):Int)) - 2)).toNat
   refine wc_seq<|sr ?_
   refine mw (vi (16+((m:Nat):Int))) ?_
   refine pu (vb (decide ((16+((m:Nat):Int)) < 64))) wN ?_
   refine n2 ?_
   rcases bf (decide ((16+((m:Nat):Int)) < 64)) with G|G
   ·have aT:=dF G
    refine cf G ?_
    refine wc_exit<|wq_then_exit<|wq_then_exit<|wq_blk_exit<|wq_then<|sr ?_
    refine mw (vs g (List.replicate 64 (0:Int)).length h) ?_
    refine aw (vs g (List.replicate 64 (0:Int)).length h) ?_
    refine n3 ?_
    refine rt (vs g (List.replicate 64 (0:Int)).length h) ?_
    refine ⟨Y.keep0,?_⟩
    have aq:schedP f=(schedN f m++List.replicate (48 - m) (0:Int)):=by first|exact schedP_f (by omega)|exact schedP_t (by omega) (by omega) (by omega)
    rw [aq]
    have Z:(List.replicate 64 (0:Int)).length=((schedN f m++List.replicate (48 - m) (0:Int))).length:=by first|(simp only [List.length_append,List.length_take,List.length_replicate,List.length_set,List.length_map];done)|(simp only [List.length_append,List.length_take,List.length_replicate,List.length_set,List.length_map];omega)
    rw [Z] at q ⊢
    exact ⟨_,_,rfl,q,(by rw [← Z];rw [List.length_replicate];first|assumption|omega),⟨trivial,trivial⟩⟩
   have aU:=dT G
   refine ct G ?_
   refine wc_skip<|wq_then<|wc_seq<|wc_block<|wc_seq ?_
   refine wc_draw ([(33,[],[],(fun _ v _=>v=(vs g (List.replicate 64 (0:Int)).length h))),(34,[],[],(fun _ v _=>v=(vi (16+((m:Nat):Int))))),(35,[],[1],(fun _ v _=>v=(vi ((16+((m:Nat):Int)) - 15)))),(36,[],[0,1,2],(fun _ v _=>v=(ve (vs g (List.replicate 64 (0:Int)).length h) ((((16+((m:Nat):Int)) - 15)).toNat*1)))),(37,[],[0,1,2,3],(fun _ v _=>v=(vi d))),(38,[],[],(fun _ v _=>v=(vs g (List.replicate 64 (0:Int)).length h))),(39,[],[],(fun _ v _=>v=(vi (16+((m:Nat):Int))))),(40,[],[6],(fun _ v _=>v=(vi ((16+((m:Nat):Int)) - 2)))),(41,[],[5,6,7],(fun _ v _=>v=(ve (vs g (List.replicate 64 (0:Int)).length h) ((((16+((m:Nat):Int)) - 2)).toNat*1)))),(42,[],[5,6,7,8],(fun _ v _=>v=(vi e))),(6,[],[0,1,2,3,4],(fun _ v _=>v=(vi d)))]:GV) mixed rfl (by kernel_rfl) (by kernel_rfl) ?_ ?_ ?_
   ·exact ⟨hV,hE,⟨hV,hE,⟨hV,hE,⟨hV,hE,⟨hV,hE,⟨hV,hE,⟨hV,hE,⟨hV,hE,⟨hV,hE,⟨hV,hE,⟨hV,hE,trivial⟩⟩⟩⟩⟩⟩⟩⟩⟩⟩⟩
   ·refine ⟨?_,⟨?_,⟨?_,⟨?_,⟨?_,⟨?_,⟨?_,⟨?_,⟨?_,⟨?_,⟨?_,trivial⟩⟩⟩⟩⟩⟩⟩⟩⟩⟩⟩
    ·intro p aV
     rintro _ _ _ _ _ _ _ _ _ _ _
     refine sw ?_
     refine mw (vs g (List.replicate 64 (0:Int)).length h) ?_
     exact f2
    ·intro p aW
     rintro _ _ _ _ _ _ _ _ _ _ _
     refine sw ?_
     refine mw (vi (16+((m:Nat):Int))) ?_
     exact f2
    ·intro p aX
     rintro _ _ rfl _ _ _ _ _ _ _ _ _
     refine sw ?_
     refine ar ((16+((m:Nat):Int)) - 15) wN ?_
     exact f2
    ·intro p au
     rintro _ rfl _ rfl _ rfl _ _ _ _ _ _ _ _
     refine sw ?_
     have av:=(own_kp q au)
     refine ix wN ((16+((m:Nat):Int)) - 15) slTy_24 (Rd.of_own av) ?_
     exact f2
    ·intro p ax
     rintro _ rfl _ rfl _ rfl _ rfl _ _ _ _ _ _ _
     refine sw ?_
     have ay:=(own_kp q ax)
     refine wl_loadE (iV d) wN rfl rfl rfl rfl isAgg_3 (Rd.of_own ay) (by rw [← M];exact iget (by simp) (by first|omega|(simp <;> omega))) ?_
     exact f2
    ·intro p aY
     rintro _ _ _ _ _ _ _ _ _ _ _
     refine sw ?_
     refine mw (vs g (List.replicate 64 (0:Int)).length h) ?_
     exact f2
    ·intro p aZ
     rintro _ _ _ _ _ _ _ _ _ _ _
     refine sw ?_
     refine mw (vi (16+((m:Nat):Int))) ?_
     exact f2
    ·intro p ba
     rintro _ _ _ _ _ _ _ rfl _ _ _ _
     refine sw ?_
     refine ar ((16+((m:Nat):Int)) - 2) wN ?_
     exact f2
    ·intro p az
     rintro _ _ _ _ _ _ rfl _ rfl _ rfl _ _ _
     refine sw ?_
     have a0:=(own_kp q az)
     refine ix wN ((16+((m:Nat):Int)) - 2) slTy_24 (Rd.of_own a0) ?_
     exact f2
    ·intro p a1
     rintro _ _ _ _ _ _ rfl _ rfl _ rfl _ rfl _ _
     refine sw ?_
     have a2:=(own_kp q a1)
     refine wl_loadE (iV e) wN rfl rfl rfl rfl isAgg_3 (Rd.of_own a2) (by rw [← N];exact iget (by simp) (by first|omega|(simp <;> omega))) ?_
     exact f2
    ·intro p bb
     rintro _ rfl _ rfl _ rfl _ rfl _ rfl _ _ _ _ _ _
     refine sw ?_
     refine aw (vi d) ?_
     exact f2
   ·intro p s
    rintro _ rfl _ rfl _ rfl _ rfl _ rfl _ rfl _ rfl _ rfl _ rfl _ rfl _ rfl
    refine sw ?_
    refine aw (vi e) ?_
    refine nx ?_
    refine mw (vi d) ?_
    refine cl wN (ciRot p d 7 (by omega) (by omega)) ?_
    rintro _ a3 ⟨t,rfl⟩
    have a4:=(Y.extk s).extk t
    have bc:=rot_b d 7
    refine mw (vi d) ?_
    refine cl wN (ciRot a3 d 18 (by omega) (by omega)) ?_
    rintro _ a5 ⟨w,rfl⟩
    have bd:=rot_b d 18
    refine wl_xor (rot d 7) (rot d 18) wN rfl rfl (by kernel_rfl) (by omega) (by omega) (by omega) (by omega) ?_
    have be:=xorI_b (a:=(rot d 7)) (b:=(rot d 18)) (by omega) (by omega)
    refine mw (vi d) ?_
    refine wl_shrU d (3:Int) wN rfl rfl rfl rfl rfl (by omega) (by omega) ?_
    have bg:=shr_b (a:=d) (by omega) ((3:Int)).toNat
    refine wl_xor (xorI (rot d 7) (rot d 18)) (d / (2:Int) ^ ((3:Int)).toNat) wN rfl rfl (by kernel_rfl) (by omega) (by omega) (by omega) (by omega) ?_
    have bh:=xorI_b (a:=(xorI (rot d 7) (rot d 18))) (b:=(d / (2:Int) ^ ((3:Int)).toNat)) (by omega) (by omega)
    refine aw (vi (xorI (xorI (rot d 7) (rot d 18)) (d / (2:Int) ^ ((3:Int)).toNat))) ?_
    refine nx ?_
    refine mw (vi e) ?_
    refine cl wN (ciRot a5 e 17 (by omega) (by omega)) ?_
    rintro _ a6 ⟨x,rfl⟩
    have bi:=rot_b e 17
    refine mw (vi e) ?_
    refine cl wN (ciRot a6 e 19 (by omega) (by omega)) ?_
    rintro _ bj ⟨y,rfl⟩
    have a7:=((a4.extk w).extk x).extk y
    have bk:=rot_b e 19
    refine wl_xor (rot e 17) (rot e 19) wN rfl rfl (by kernel_rfl) (by omega) (by omega) (by omega) (by omega) ?_
    have bl:=xorI_b (a:=(rot e 17)) (b:=(rot e 19)) (by omega) (by omega)
    refine mw (vi e) ?_
    refine wl_shrU e (10:Int) wN rfl rfl rfl rfl rfl (by omega) (by omega) ?_
    have bm:=shr_b (a:=e) (by omega) ((10:Int)).toNat
    refine wl_xor (xorI (rot e 17) (rot e 19)) (e / (2:Int) ^ ((10:Int)).toNat) wN rfl rfl (by kernel_rfl) (by omega) (by omega) (by omega) (by omega) ?_
    have bn:=xorI_b (a:=(xorI (rot e 17) (rot e 19))) (b:=(e / (2:Int) ^ ((10:Int)).toNat)) (by omega) (by omega)
    refine aw (vi (xorI (xorI (rot e 17) (rot e 19)) (e / (2:Int) ^ ((10:Int)).toNat))) ?_
    refine n2 ?_
    refine wc_draw ([(59,[],[],(fun _ v _=>v=(vs g (List.replicate 64 (0:Int)).length h))),(60,[],[],(fun _ v _=>v=(vi (16+((m:Nat):Int))))),(61,[],[],(fun _ v _=>v=(vs g (List.replicate 64 (0:Int)).length h))),(62,[],[],(fun _ v _=>v=(vi (16+((m:Nat):Int))))),(63,[],[3],(fun _ v _=>v=(vi ((16+((m:Nat):Int)) - 7)))),(64,[],[2,3,4],(fun _ v _=>v=(ve (vs g (List.replicate 64 (0:Int)).length h) ((((16+((m:Nat):Int)) - 7)).toNat*1)))),(65,[],[2,3,4,5],(fun _ v _=>v=(vi l))),(66,[],[],(fun _ v _=>v=(vs g (List.replicate 64 (0:Int)).length h))),(67,[],[],(fun _ v _=>v=(vi (16+((m:Nat):Int))))),(68,[],[8],(fun _ v _=>v=(vi ((16+((m:Nat):Int)) - 16)))),(69,[],[7,8,9],(fun _ v _=>v=(ve (vs g (List.replicate 64 (0:Int)).length h) ((((16+((m:Nat):Int)) - 16)).toNat*1)))),(70,[],[7,8,9,10],(fun _ v _=>v=(vi o))),(71,[],[2,3,4,5,6,7,8,9,10,11],(fun _ v _=>v=(vi (l+o)))),(72,[],[],(fun _ v _=>v=(vi (xorI (xorI (rot d 7) (rot d 18)) (d / (2:Int) ^ ((3:Int)).toNat))))),(73,[],[2,3,4,5,6,7,8,9,10,11,12,13],(fun _ v _=>v=(vi ((l+o)+(xorI (xorI (rot d 7) (rot d 18)) (d / (2:Int) ^ ((3:Int)).toNat)))))),(74,[],[],(fun _ v _=>v=(vi (xorI (xorI (rot e 17) (rot e 19)) (e / (2:Int) ^ ((10:Int)).toNat))))),(75,[],[2,3,4,5,6,7,8,9,10,11,12,13,14,15],(fun _ v _=>v=(vi (((l+o)+(xorI (xorI (rot d 7) (rot d 18)) (d / (2:Int) ^ ((3:Int)).toNat)))+(xorI (xorI (rot e 17) (rot e 19)) (e / (2:Int) ^ ((10:Int)).toNat)))))),(76,[],[2,3,4,5,6,7,8,9,10,11,12,13,14,15,16],(fun _ v _=>v=(vi ((((l+o)+(xorI (xorI (rot d 7) (rot d 18)) (d / (2:Int) ^ ((3:Int)).toNat)))+(xorI (xorI (rot e 17) (rot e 19)) (e / (2:Int) ^ ((10:Int)).toNat))) % 4294967296))))]:GV) mixed rfl (by kernel_rfl) (by kernel_rfl) ?_ ?_ ?_
    ·exact ⟨hV,hE,⟨hV,hE,⟨hV,hE,⟨hV,hE,⟨hV,hE,⟨hV,hE,⟨hV,hE,⟨hV,hE,⟨hV,hE,⟨hV,hE,⟨hV,hE,⟨hV,hE,⟨hV,hE,⟨hV,hE,⟨hV,hE,⟨hV,hE,⟨hV,hE,⟨hV,hE,trivial⟩⟩⟩⟩⟩⟩⟩⟩⟩⟩⟩⟩⟩⟩⟩⟩⟩⟩
    ·refine ⟨?_,⟨?_,⟨?_,⟨?_,⟨?_,⟨?_,⟨?_,⟨?_,⟨?_,⟨?_,⟨?_,⟨?_,⟨?_,⟨?_,⟨?_,⟨?_,⟨?_,⟨?_,trivial⟩⟩⟩⟩⟩⟩⟩⟩⟩⟩⟩⟩⟩⟩⟩⟩⟩⟩
     ·intro j bo
      rintro _ _ _ _ _ _ _ _ _ _ _ _ _ _ _ _ _ _
      refine sw ?_
      refine mw (vs g (List.replicate 64 (0:Int)).length h) ?_
      exact f2
     ·intro j bp
      rintro _ _ _ _ _ _ _ _ _ _ _ _ _ _ _ _ _ _
      refine sw ?_
      refine mw (vi (16+((m:Nat):Int))) ?_
      exact f2
     ·intro j bq
      rintro _ _ _ _ _ _ _ _ _ _ _ _ _ _ _ _ _ _
      refine sw ?_
      refine mw (vs g (List.replicate 64 (0:Int)).length h) ?_
      exact f2
     ·intro j br
      rintro _ _ _ _ _ _ _ _ _ _ _ _ _ _ _ _ _ _
      refine sw ?_
      refine mw (vi (16+((m:Nat):Int))) ?_
      exact f2
     ·intro j bu
      rintro _ _ _ _ rfl _ _ _ _ _ _ _ _ _ _ _ _ _ _
      refine sw ?_
      refine ar ((16+((m:Nat):Int)) - 7) wN ?_
      exact f2
     ·intro j a8
      rintro _ _ _ rfl _ rfl _ rfl _ _ _ _ _ _ _ _ _ _ _ _ _
      refine sw ?_
      have a9:=(own_kp (own_kp (own_kp (own_kp (own_kp (own_kp q s) t) w) x) y) a8)
      refine ix wN ((16+((m:Nat):Int)) - 7) slTy_24 (Rd.of_own a9) ?_
      exact f2
     ·intro j aA
      rintro _ _ _ rfl _ rfl _ rfl _ rfl _ _ _ _ _ _ _ _ _ _ _ _
      refine sw ?_
      have aB:=(own_kp (own_kp (own_kp (own_kp (own_kp (own_kp q s) t) w) x) y) aA)
      refine wl_loadE (iV l) wN rfl rfl rfl rfl isAgg_3 (Rd.of_own aB) (by rw [← K];exact iget (by simp) (by first|omega|(simp <;> omega))) ?_
      exact f2
     ·intro j bv
      rintro _ _ _ _ _ _ _ _ _ _ _ _ _ _ _ _ _ _
      refine sw ?_
      refine mw (vs g (List.replicate 64 (0:Int)).length h) ?_
      exact f2
     ·intro j bw
      rintro _ _ _ _ _ _ _ _ _ _ _ _ _ _ _ _ _ _
      refine sw ?_
      refine mw (vi (16+((m:Nat):Int))) ?_
      exact f2
     ·intro j bz
      rintro _ _ _ _ _ _ _ _ _ rfl _ _ _ _ _ _ _ _ _
      refine sw ?_
      refine ar ((16+((m:Nat):Int)) - 16) wN ?_
      exact f2
     ·intro j aC
      rintro _ _ _ _ _ _ _ _ rfl _ rfl _ rfl _ _ _ _ _ _ _ _
      refine sw ?_
      have aD:=(own_kp (own_kp (own_kp (own_kp (own_kp (own_kp q s) t) w) x) y) aC)
      refine ix wN ((16+((m:Nat):Int)) - 16) slTy_24 (Rd.of_own aD) ?_
      exact f2
     ·intro j aE
      rintro _ _ _ _ _ _ _ _ rfl _ rfl _ rfl _ rfl _ _ _ _ _ _ _
      refine sw ?_
      have aF:=(own_kp (own_kp (own_kp (own_kp (own_kp (own_kp q s) t) w) x) y) aE)
      refine wl_loadE (iV o) wN rfl rfl rfl rfl isAgg_3 (Rd.of_own aF) (by rw [← L];exact iget (by simp) (by first|omega|(simp <;> omega))) ?_
      exact f2
     ·intro j b0
      rintro _ _ _ rfl _ rfl _ rfl _ rfl _ rfl _ rfl _ rfl _ rfl _ rfl _ rfl _ _ _ _ _ _
      refine sw ?_
      refine ar (l+o) wN ?_
      exact f2
     ·intro j b1
      rintro _ _ _ _ _ _ _ _ _ _ _ _ _ _ _ _ _ _
      refine sw ?_
      refine mw (vi (xorI (xorI (rot d 7) (rot d 18)) (d / (2:Int) ^ ((3:Int)).toNat))) ?_
      exact f2
     ·intro j b2
      rintro _ _ _ rfl _ rfl _ rfl _ rfl _ rfl _ rfl _ rfl _ rfl _ rfl _ rfl _ rfl _ rfl _ _ _ _
      refine sw ?_
      refine ar ((l+o)+(xorI (xorI (rot d 7) (rot d 18)) (d / (2:Int) ^ ((3:Int)).toNat))) wN ?_
      exact f2
     ·intro j b3
      rintro _ _ _ _ _ _ _ _ _ _ _ _ _ _ _ _ _ _
      refine sw ?_
      refine mw (vi (xorI (xorI (rot e 17) (rot e 19)) (e / (2:Int) ^ ((10:Int)).toNat))) ?_
      exact f2
     ·intro j b4
      rintro _ _ _ rfl _ rfl _ rfl _ rfl _ rfl _ rfl _ rfl _ rfl _ rfl _ rfl _ rfl _ rfl _ rfl _ rfl _ _
      refine sw ?_
      refine ar (((l+o)+(xorI (xorI (rot d 7) (rot d 18)) (d / (2:Int) ^ ((3:Int)).toNat)))+(xorI (xorI (rot e 17) (rot e 19)) (e / (2:Int) ^ ((10:Int)).toNat))) wN ?_
      exact f2
     ·intro j b5
      rintro _ _ _ rfl _ rfl _ rfl _ rfl _ rfl _ rfl _ rfl _ rfl _ rfl _ rfl _ rfl _ rfl _ rfl _ rfl _ rfl _
      refine sw ?_
      refine wl_and (((l+o)+(xorI (xorI (rot d 7) (rot d 18)) (d / (2:Int) ^ ((3:Int)).toNat)))+(xorI (xorI (rot e 17) (rot e 19)) (e / (2:Int) ^ ((10:Int)).toNat))) 4294967295 4294967296 32 wN rfl rfl (by decide) (by decide) (by decide) (by kernel_rfl) ?_
      exact f2
    ·intro j O
     rintro _ rfl _ rfl _ rfl _ rfl _ rfl _ rfl _ rfl _ rfl _ rfl _ rfl _ rfl _ rfl _ rfl _ rfl _ rfl _ rfl _ rfl _ rfl
     refine sw ?_
     have aa:=(own_kp (own_kp (own_kp (own_kp (own_kp (own_kp q s) t) w) x) y) O)
     refine ix wN (16+((m:Nat):Int)) slTy_24 (Rd.of_own aa) ?_
     refine wl_storeI (schedN f m++List.replicate (48 - m) (0:Int)) (((16+((m:Nat):Int))).toNat) (((((l+o)+(xorI (xorI (rot d 7) (rot d 18)) (d / (2:Int) ^ ((3:Int)).toNat)))+(xorI (xorI (rot e 17) (rot e 19)) (e / (2:Int) ^ ((10:Int)).toNat))) % 4294967296)) wN rfl rfl rfl (by simp) rfl sizeOf_3 aa (by first|omega|(simp only [List.length_append,List.length_replicate,List.length_take,List.length_set,List.length_map];omega)) ?_
     intro b6 ab aG
     have aH:=(a7.extk O).ext ab (fun k hk=>nT (Nat.le_refl i.heap.size) (own_lt D k hk).1)
     refine wl_nil<|wq_blk_normal<|wq_then<|wc_region ?_
     refine mw (vi (16+((m:Nat):Int))) ?_
     refine ar ((16+((m:Nat):Int))+1) wN ?_
     refine aw (vi ((16+((m:Nat):Int))+1)) ?_
     refine wl_nil ?_
     have aI:(((schedN f m++List.replicate (48 - m) (0:Int)).set (((16+((m:Nat):Int))).toNat) ((((l+o)+(xorI (xorI (rot d 7) (rot d 18)) (d / (2:Int) ^ ((3:Int)).toNat)))+(xorI (xorI (rot e 17) (rot e 19)) (e / (2:Int) ^ ((10:Int)).toNat))) % 4294967296)):List Int)=schedN f (m+1)++List.replicate (48 - (m+1)) (0:Int):=by subst K L M N;exact schedN_next (by omega)
     refine wq_loopP (w0:=T) [(2,(vs none 0 0)),(3,(vs g (List.replicate 64 (0:Int)).length h)),(5,(vi (16+(((m+1):Nat):Int))))] ?_ ?_ ?_
     · exact ⟨rfl,rfl,(cA (Value.int .i64) (show (((16+((m:Nat):Int))+1):Int)=(16+(((m+1):Nat):Int)) by omega)),trivial⟩
     · exact fun u=>⟨(m+1),u,rfl,aH,(((((((((Ch.refl (fun k=>i.heap.size≤k) E).ext ap (fun k hk=>hk)).extk s).extk t).extk w).extk x).extk y).extk O).ext ab (fun k hk=>nT (Nat.le_refl i.heap.size) (own_lt D k hk).1)),(by omega),(by rw [← aI];exact aG)⟩
     · show (64 - (16+(((m+1):Nat):Int))).toNat < (64 - (16+((m:Nat):Int))).toNat;omega

theorem zero_122:∀ w,(zeroValue 122).run Try.prog w=.ok (va [(vi 0),(vi 0),(vi 0),(vi 0),(vi 0),(vi 0),(vi 0),(vi 0),(vi 0),(vi 0),(vi 0),(vi 0),(vi 0),(vi 0),(vi 0),(vi 0),(vi 0),(vi 0),(vi 0),(vi 0),(vi 0),(vi 0),(vi 0),(vi 0),(vi 0),(vi 0),(vi 0),(vi 0),(vi 0),(vi 0),(vi 0),(vi 0),(vi 0),(vi 0),(vi 0),(vi 0),(vi 0),(vi 0),(vi 0),(vi 0),(vi 0),(vi 0),(vi 0),(vi 0),(vi 0),(vi 0),(vi 0),(vi 0),(vi 0),(vi 0),(vi 0),(vi 0),(vi 0),(vi 0),(vi 0),(vi 0),(vi 0),(vi 0),(vi 0),(vi 0),(vi 0),(vi 0),(vi 0),(vi 0)]) w:=fun w=>by kernel_rfl
theorem sizeOf_122:∀ w,(sizeOf 122).run Try.prog w=.ok 64 w:=fun w=>by kernel_rfl
theorem ciRoundWord (e:World) (a:Int) :Fn Try.prog 90 #[(vi a)] e (fun v f=>Keep e f∧O_3 f e.heap.size v (rw64 a)):=by
 refine fn_ofS (n:=14) [(vi a)] Try.func90 rfl rfl ?_
 refine sr ?_
 refine aw (vi 0) ?_
 refine n4 ?_
 refine jT1 [(0,(vi a)),(2,(vi 0))] (rw64 a=0) ?_ fun g=>?_
 ·intro h i j A
  have l:=(Ch.base e).extk j
  refine sr ?_
  refine aw (vi 0) ?_
  refine n1 ?_
  refine rt (vi 0) ?_
  refine ⟨l.keep0,?_⟩
  rw [h]
  exact rfl
 refine mw (vi a) ?_
 refine pu (vb (decide (a < 0))) wN ?_
 refine mw (vb (decide (a < 0))) ?_
 rcases bt (decide (a < 0)) with b|b
 ·have B:=dT b
  iterate 2 refine sk b ?_
  refine pk (vb true) wN b ?_
  refine n2 ?_
  refine ct (Eq.refl true) ?_
  have m:rw64 a=0:=by simp only [rw64,b,cond_true,cond_false];try rfl
  exact wj (g m _ (Ch.refl _ _))
 have C:=dF b
 refine mv (vi a) (wS b) ?_
 refine pu (vb (decide (63 < a))) (wS b) ?_
 refine pf (vb (decide (63 < a))) wN b ?_
 refine n2 ?_
 rcases bt (decide (63 < a)) with d|d
 ·have D:=dT d
  refine ct d ?_
  have o:rw64 a=0:=by simp only [rw64,b,d,cond_true,cond_false];try rfl
  exact wj (g o _ (Ch.refl _ _))
 have E:=dF d
 refine cf d ?_
 refine y1 ?_
 refine pu (va [(vi 1116352408),(vi 1899447441),(vi 3049323471),(vi 3921009573),(vi 961987163),(vi 1508970993),(vi 2453635748),(vi 2870763221),(vi 3624381080),(vi 310598401),(vi 607225278),(vi 1426881987),(vi 1925078388),(vi 2162078206),(vi 2614888103),(vi 3248222580),(vi 3835390401),(vi 4022224774),(vi 264347078),(vi 604807628),(vi 770255983),(vi 1249150122),(vi 1555081692),(vi 1996064986),(vi 2554220882),(vi 2821834349),(vi 2952996808),(vi 3210313671),(vi 3336571891),(vi 3584528711),(vi 113926993),(vi 338241895),(vi 666307205),(vi 773529912),(vi 1294757372),(vi 1396182291),(vi 1695183700),(vi 1986661051),(vi 2177026350),(vi 2456956037),(vi 2730485921),(vi 2820302411),(vi 3259730800),(vi 3345764771),(vi 3516065817),(vi 3600352804),(vi 4094571909),(vi 275423344),(vi 430227734),(vi 506948616),(vi 659060556),(vi 883997877),(vi 958139571),(vi 1322822218),(vi 1537002063),(vi 1747873779),(vi 1955562222),(vi 2024104815),(vi 2227730452),(vi 2361852424),(vi 2428436474),(vi 2756734187),(vi 3204031479),(vi 3329325298)]) wN ?_
 refine al [(vi 0),(vi 0),(vi 0),(vi 0),(vi 0),(vi 0),(vi 0),(vi 0),(vi 0),(vi 0),(vi 0),(vi 0),(vi 0),(vi 0),(vi 0),(vi 0),(vi 0),(vi 0),(vi 0),(vi 0),(vi 0),(vi 0),(vi 0),(vi 0),(vi 0),(vi 0),(vi 0),(vi 0),(vi 0),(vi 0),(vi 0),(vi 0),(vi 0),(vi 0),(vi 0),(vi 0),(vi 0),(vi 0),(vi 0),(vi 0),(vi 0),(vi 0),(vi 0),(vi 0),(vi 0),(vi 0),(vi 0),(vi 0),(vi 0),(vi 0),(vi 0),(vi 0),(vi 0),(vi 0),(vi 0),(vi 0),(vi 0),(vi 0),(vi 0),(vi 0),(vi 0),(vi 0),(vi 0),(vi 0)] wN zero_122 ?_
 intro p i q F r s
 refine sv [(vi 1116352408),(vi 1899447441),(vi 3049323471),(vi 3921009573),(vi 961987163),(vi 1508970993),(vi 2453635748),(vi 2870763221),(vi 3624381080),(vi 310598401),(vi 607225278),(vi 1426881987),(vi 1925078388),(vi 2162078206),(vi 2614888103),(vi 3248222580),(vi 3835390401),(vi 4022224774),(vi 264347078),(vi 604807628),(vi 770255983),(vi 1249150122),(vi 1555081692),(vi 1996064986),(vi 2554220882),(vi 2821834349),(vi 2952996808),(vi 3210313671),(vi 3336571891),(vi 3584528711),(vi 113926993),(vi 338241895),(vi 666307205),(vi 773529912),(vi 1294757372),(vi 1396182291),(vi 1695183700),(vi 1986661051),(vi 2177026350),(vi 2456956037),(vi 2730485921),(vi 2820302411),(vi 3259730800),(vi 3345764771),(vi 3516065817),(vi 3600352804),(vi 4094571909),(vi 275423344),(vi 430227734),(vi 506948616),(vi 659060556),(vi 883997877),(vi 958139571),(vi 1322822218),(vi 1537002063),(vi 1747873779),(vi 1955562222),(vi 2024104815),(vi 2227730452),(vi 2361852424),(vi 2428436474),(vi 2756734187),(vi 3204031479),(vi 3329325298)] wN sizeOf_122 s ?_
 intro t u w G
 have x:=((Ch.base e).extk r).ext u (fun k hk=>by subst hk;exact q)
 refine nx ?_
 refine mw (vi a) ?_
 refine wl_indexA a wN rfl rfl rfl Try.underlying122 sizeOf_3 rfl rfl (by omega) (by omega) ?_
 refine ld (iV (([1116352408,1899447441,3049323471,3921009573,961987163,1508970993,2453635748,2870763221,3624381080,310598401,607225278,1426881987,1925078388,2162078206,2614888103,3248222580,3835390401,4022224774,264347078,604807628,770255983,1249150122,1555081692,1996064986,2554220882,2821834349,2952996808,3210313671,3336571891,3584528711,113926993,338241895,666307205,773529912,1294757372,1396182291,1695183700,1986661051,2177026350,2456956037,2730485921,2820302411,3259730800,3345764771,3516065817,3600352804,4094571909,275423344,430227734,506948616,659060556,883997877,958139571,1322822218,1537002063,1747873779,1955562222,2024104815,2227730452,2361852424,2428436474,2756734187,3204031479,3329325298]:List Int).getD (a).toNat 0)) wN isAgg_3 (show Blk t p 122 (([1116352408,1899447441,3049323471,3921009573,961987163,1508970993,2453635748,2870763221,3624381080,310598401,607225278,1426881987,1925078388,2162078206,2614888103,3248222580,3835390401,4022224774,264347078,604807628,770255983,1249150122,1555081692,1996064986,2554220882,2821834349,2952996808,3210313671,3336571891,3584528711,113926993,338241895,666307205,773529912,1294757372,1396182291,1695183700,1986661051,2177026350,2456956037,2730485921,2820302411,3259730800,3345764771,3516065817,3600352804,4094571909,275423344,430227734,506948616,659060556,883997877,958139571,1322822218,1537002063,1747873779,1955562222,2024104815,2227730452,2361852424,2428436474,2756734187,3204031479,3329325298]:List Int).map iV) from w) ?_ rfl rfl rfl rfl (iget rfl (by show (a).toNat < 64;omega))
 refine aw (vi (([1116352408,1899447441,3049323471,3921009573,961987163,1508970993,2453635748,2870763221,3624381080,310598401,607225278,1426881987,1925078388,2162078206,2614888103,3248222580,3835390401,4022224774,264347078,604807628,770255983,1249150122,1555081692,1996064986,2554220882,2821834349,2952996808,3210313671,3336571891,3584528711,113926993,338241895,666307205,773529912,1294757372,1396182291,1695183700,1986661051,2177026350,2456956037,2730485921,2820302411,3259730800,3345764771,3516065817,3600352804,4094571909,275423344,430227734,506948616,659060556,883997877,958139571,1322822218,1537002063,1747873779,1955562222,2024104815,2227730452,2361852424,2428436474,2756734187,3204031479,3329325298]:List Int).getD (a).toNat 0)) ?_
 refine n3 ?_
 refine rt (vi (([1116352408,1899447441,3049323471,3921009573,961987163,1508970993,2453635748,2870763221,3624381080,310598401,607225278,1426881987,1925078388,2162078206,2614888103,3248222580,3835390401,4022224774,264347078,604807628,770255983,1249150122,1555081692,1996064986,2554220882,2821834349,2952996808,3210313671,3336571891,3584528711,113926993,338241895,666307205,773529912,1294757372,1396182291,1695183700,1986661051,2177026350,2456956037,2730485921,2820302411,3259730800,3345764771,3516065817,3600352804,4094571909,275423344,430227734,506948616,659060556,883997877,958139571,1322822218,1537002063,1747873779,1955562222,2024104815,2227730452,2361852424,2428436474,2756734187,3204031479,3329325298]:List Int).getD (a).toNat 0)) ?_
 refine ⟨x.keep0,?_⟩
 have y:rw64 a=(([1116352408,1899447441,3049323471,3921009573,961987163,1508970993,2453635748,2870763221,3624381080,310598401,607225278,1426881987,1925078388,2162078206,2614888103,3248222580,3835390401,4022224774,264347078,604807628,770255983,1249150122,1555081692,1996064986,2554220882,2821834349,2952996808,3210313671,3336571891,3584528711,113926993,338241895,666307205,773529912,1294757372,1396182291,1695183700,1986661051,2177026350,2456956037,2730485921,2820302411,3259730800,3345764771,3516065817,3600352804,4094571909,275423344,430227734,506948616,659060556,883997877,958139571,1322822218,1537002063,1747873779,1955562222,2024104815,2227730452,2361852424,2428436474,2756734187,3204031479,3329325298]:List Int).getD (a).toNat 0):=by simp only [rw64,b,d,cond_true,cond_false];try rfl
 rw [y]
 exact rfl

def i_Add32 (a:Int) (b:Int):(Int):=((a+b) % 4294967296)
theorem ciAdd32 (d:World) (a:Int) (b:Int) (g:0≤a) (h:a≤1099511627776) (i:0≤b) (j:b≤1099511627776):Fn Try.prog 91 #[(vi a),(vi b)] d (fun v e=>Keep d e∧O_3 e d.heap.size v (i_Add32 a b)):=by
 refine fn_ofS (n:=9) [(vi a),(vi b)] Try.func91 rfl rfl ?_
 refine sr ?_
 refine aw (vi 0) ?_
 refine nx ?_
 refine mw (vi a) ?_
 refine mw (vi b) ?_
 refine ar (a+b) wN ?_
 refine wl_and (a+b) 4294967295 4294967296 32 wN rfl rfl (by decide) (by decide) (by decide) (by kernel_rfl) ?_
 refine aw (vi ((a+b) % 4294967296)) ?_
 refine n3 ?_
 refine rt (vi ((a+b) % 4294967296)) ?_
 refine ⟨Ch.refl _ _,?_⟩
 have f:i_Add32 a b=((a+b) % 4294967296):=by rfl
 rw [f]
 exact rfl

theorem ciCompress (G:World) (av:Value) (i:List Int) (aK:R_24 G av i) (ax:Value) (p:List UInt8) (aL:R_22 G ax p) :Fn Try.prog 87 #[av,ax] G (fun v K=>Keep G K∧O_24 K G.heap.size v (compress i p)):=by
 obtain ⟨B,C,rfl,F,af⟩:=aK
 obtain ⟨X,Y,rfl,ay,aM⟩:=aL
 refine fn_ofS (n:=151) [(vs B i.length C),(vs X p.length Y)] Try.func87 rfl rfl ?_
 refine sr ?_
 refine aw (vs none 0 0) ?_
 refine nx ?_
 refine wl_lit0 wN rfl rfl slTy_24 (fun w=>by kernel_rfl) ?_
 intro bT bU az aN
 have a0:=(Ch.base G).extk az
 refine mw (vs B i.length C) ?_
 refine ap0I i wN slTy_24 aN (F.from0 a0) az.size ?_
 intro I J a1 aO Q bW
 have ah:=a0.extk aO
 refine aw (vs I i.length J) ?_
 refine n4 ?_
 refine jT1 [(0,(vs B i.length C)),(1,(vs X p.length Y)),(4,(vs none 0 0)),(5,(vs I i.length J))] (compress i p=i) ?_ fun a2=>?_
 ·intro aP a3 a4 bX
  have aQ:=ah.extk a4
  refine sr ?_
  refine mw (vs I i.length J) ?_
  refine aw (vs I i.length J) ?_
  refine n1 ?_
  have aR:=(own_kp Q a4)
  refine rt (vs I i.length J) ?_
  refine ⟨aQ.keep0,?_⟩
  rw [aP]
  exact ⟨_,_,rfl,aR,af,⟨trivial,trivial⟩⟩
 refine mw (vs B i.length C) ?_
 refine cl wN (ciareWords a1 _ i (mR_24 (F.from0 ah) af) 8) ?_
 rintro _ a3 ⟨R,rfl⟩
 have ai:=ah.extk R
 refine pu (vb (!(areW i 8))) wN ?_
 refine mw (vb (!(areW i 8))) ?_
 rcases bf (areW i 8) with L|L
 ·iterate 3 refine sk (cA not L) ?_
  refine pk (vb true) wN (cA not L) ?_
  refine n2 ?_
  refine ct (Eq.refl true) ?_
  have aS:compress i p=i:=by first|exact compress_f (by first|assumption|exact ‹ws8 i=false›)|exact compress_g (by omega)|exact compress_t (by first|assumption|exact ‹ws8 i=true›) (by omega) (by omega)
  exact wj (a2 aS _ R)
 have bY:=areW_t L
 refine mv (vs X p.length Y) (wS (cA not L)) ?_
 refine ln (wS (cA not L)) slTy_22 (ay.from0 ai) ?_
 refine pu (vb (!(decide ((p.length:Int)=64)))) (wS (cA not L)) ?_
 refine pf (vb (!(decide ((p.length:Int)=64)))) wN (cA not L) ?_
 refine n2 ?_
 rcases bf (decide ((p.length:Int)=64)) with S|S
 ·have bZ:=dF S
  refine ct (cA not S) ?_
  have aT:compress i p=i:=by first|exact compress_f (by first|assumption|exact ‹ws8 i=false›)|exact compress_g (by omega)|exact compress_t (by first|assumption|exact ‹ws8 i=true›) (by omega) (by omega)
  exact wj (a2 aT _ R)
 have ca:=dT S
 refine cf (cA not S) ?_
 refine y1 ?_
 refine mw (vs X p.length Y) ?_
 refine cl wN (ciSchedule a3 _ p (mR_22 (ay.from0 ai) aM)) ?_
 rintro _ a5 ⟨Z,⟨O,P,rfl,aa,_⟩⟩
 have H:=ai.extk Z
 have cb:=schedP_len p
 refine aw (vs O (schedP p).length P) ?_
 refine wl_nil<|wq_then<|wc_seq ?_
 refine wc_draw ([(36,[],[],(fun _ v _=>v=(vs B i.length C))),(37,[],[0],(fun _ v _=>v=(ve (vs B i.length C) ((0:Int).toNat*1)))),(38,[],[0,1],(fun _ v _=>v=(vi (i.getD 0 0)))),(39,[],[],(fun _ v _=>v=(vs B i.length C))),(40,[],[3],(fun _ v _=>v=(ve (vs B i.length C) ((1:Int).toNat*1)))),(41,[],[3,4],(fun _ v _=>v=(vi (i.getD 1 0)))),(42,[],[],(fun _ v _=>v=(vs B i.length C))),(43,[],[6],(fun _ v _=>v=(ve (vs B i.length C) ((2:Int).toNat*1)))),(44,[],[6,7],(fun _ v _=>v=(vi (i.getD 2 0)))),(45,[],[],(fun _ v _=>v=(vs B i.length C))),(46,[],[9],(fun _ v _=>v=(ve (vs B i.length C) ((3:Int).toNat*1)))),(47,[],[9,10],(fun _ v _=>v=(vi (i.getD 3 0)))),(48,[],[],(fun _ v _=>v=(vs B i.length C))),(49,[],[12],(fun _ v _=>v=(ve (vs B i.length C) ((4:Int).toNat*1)))),(50,[],[12,13],(fun _ v _=>v=(vi (i.getD 4 0)))),(51,[],[],(fun _ v _=>v=(vs B i.length C))),(52,[],[15],(fun _ v _=>v=(ve (vs B i.length C) ((5:Int).toNat*1)))),(53,[],[15,16],(fun _ v _=>v=(vi (i.getD 5 0)))),(54,[],[],(fun _ v _=>v=(vs B i.length C))),(55,[],[18],(fun _ v _=>v=(ve (vs B i.length C) ((6:Int).toNat*1)))),(56,[],[18,19],(fun _ v _=>v=(vi (i.getD 6 0)))),(57,[],[],(fun _ v _=>v=(vs B i.length C))),(58,[],[21],(fun _ v _=>v=(ve (vs B i.length C) ((7:Int).toNat*1)))),(59,[],[21,22],(fun _ v _=>v=(vi (i.getD 7 0)))),(7,[],[0,1,2],(fun _ v _=>v=(vi (i.getD 0 0)))),(8,[],[0,1,2,3,4,5,24],(fun _ v _=>v=(vi (i.getD 1 0)))),(9,[],[0,1,2,3,4,5,6,7,8,24,25],(fun _ v _=>v=(vi (i.getD 2 0)))),(10,[],[0,1,2,3,4,5,6,7,8,9,10,11,24,25,26],(fun _ v _=>v=(vi (i.getD 3 0)))),(11,[],[0,1,2,3,4,5,6,7,8,9,10,11,12,13,14,24,25,26,27],(fun _ v _=>v=(vi (i.getD 4 0)))),(12,[],[0,1,2,3,4,5,6,7,8,9,10,11,12,13,14,15,16,17,24,25,26,27,28],(fun _ v _=>v=(vi (i.getD 5 0)))),(13,[],[0,1,2,3,4,5,6,7,8,9,10,11,12,13,14,15,16,17,18,19,20,24,25,26,27,28,29],(fun _ v _=>v=(vi (i.getD 6 0))))]:GV) mixed rfl (by kernel_rfl) (by kernel_rfl) ?_ ?_ ?_
 ·exact ⟨hV,hE,⟨hV,hE,⟨hV,hE,⟨hV,hE,⟨hV,hE,⟨hV,hE,⟨hV,hE,⟨hV,hE,⟨hV,hE,⟨hV,hE,⟨hV,hE,⟨hV,hE,⟨hV,hE,⟨hV,hE,⟨hV,hE,⟨hV,hE,⟨hV,hE,⟨hV,hE,⟨hV,hE,⟨hV,hE,⟨hV,hE,⟨hV,hE,⟨hV,hE,⟨hV,hE,⟨hV,hE,⟨hV,hE,⟨hV,hE,⟨hV,hE,⟨hV,hE,⟨hV,hE,⟨hV,hE,trivial⟩⟩⟩⟩⟩⟩⟩⟩⟩⟩⟩⟩⟩⟩⟩⟩⟩⟩⟩⟩⟩⟩⟩⟩⟩⟩⟩⟩⟩⟩⟩
 ·refine ⟨?_,⟨?_,⟨?_,⟨?_,⟨?_,⟨?_,⟨?_,⟨?_,⟨?_,⟨?_,⟨?_,⟨?_,⟨?_,⟨?_,⟨?_,⟨?_,⟨?_,⟨?_,⟨?_,⟨?_,⟨?_,⟨?_,⟨?_,⟨?_,⟨?_,⟨?_,⟨?_,⟨?_,⟨?_,⟨?_,⟨?_,trivial⟩⟩⟩⟩⟩⟩⟩⟩⟩⟩⟩⟩⟩⟩⟩⟩⟩⟩⟩⟩⟩⟩⟩⟩⟩⟩⟩⟩⟩⟩⟩
  ·intro A cc
   rintro _ _ _ _ _ _ _ _ _ _ _ _ _ _ _ _ _ _ _ _ _ _ _ _ _ _ _ _ _ _ _
   refine sw ?_
   refine mw (vs B i.length C) ?_
   exact f2
  ·intro A aU
   have aV:=H.extk aU
   rintro _ rfl _ _ _ _ _ _ _ _ _ _ _ _ _ _ _ _ _ _ _ _ _ _ _ _ _ _ _ _ _ _
   refine sw ?_
   refine ix wN 0 slTy_24 (F.from0 aV) ?_
   exact f2
  ·intro A aW
   have aX:=H.extk aW
   rintro _ rfl _ rfl _ _ _ _ _ _ _ _ _ _ _ _ _ _ _ _ _ _ _ _ _ _ _ _ _ _ _ _ _
   refine sw ?_
   refine ei (x:=i) 0 wN isAgg_3 (F.from0 aX) ?_
   exact f2
  ·intro A cd
   rintro _ _ _ _ _ _ _ _ _ _ _ _ _ _ _ _ _ _ _ _ _ _ _ _ _ _ _ _ _ _ _
   refine sw ?_
   refine mw (vs B i.length C) ?_
   exact f2
  ·intro A aY
   have aZ:=H.extk aY
   rintro _ _ _ _ rfl _ _ _ _ _ _ _ _ _ _ _ _ _ _ _ _ _ _ _ _ _ _ _ _ _ _ _
   refine sw ?_
   refine ix wN 1 slTy_24 (F.from0 aZ) ?_
   exact f2
  ·intro A ba
   have bb:=H.extk ba
   rintro _ _ _ _ rfl _ rfl _ _ _ _ _ _ _ _ _ _ _ _ _ _ _ _ _ _ _ _ _ _ _ _ _ _
   refine sw ?_
   refine ei (x:=i) 1 wN isAgg_3 (F.from0 bb) ?_
   exact f2
  ·intro A ce
   rintro _ _ _ _ _ _ _ _ _ _ _ _ _ _ _ _ _ _ _ _ _ _ _ _ _ _ _ _ _ _ _
   refine sw ?_
   refine mw (vs B i.length C) ?_
   exact f2
  ·intro A bc
   have bd:=H.extk bc
   rintro _ _ _ _ _ _ _ rfl _ _ _ _ _ _ _ _ _ _ _ _ _ _ _ _ _ _ _ _ _ _ _ _
   refine sw ?_
   refine ix wN 2 slTy_24 (F.from0 bd) ?_
   exact f2
  ·intro A be
   have bg:=H.extk be
   rintro _ _ _ _ _ _ _ rfl _ rfl _ _ _ _ _ _ _ _ _ _ _ _ _ _ _ _ _ _ _ _ _ _ _
   refine sw ?_
   refine ei (x:=i) 2 wN isAgg_3 (F.from0 bg) ?_
   exact f2
  ·intro A cg
   rintro _ _ _ _ _ _ _ _ _ _ _ _ _ _ _ _ _ _ _ _ _ _ _ _ _ _ _ _ _ _ _
   refine sw ?_
   refine mw (vs B i.length C) ?_
   exact f2
  ·intro A bh
   have bi:=H.extk bh
   rintro _ _ _ _ _ _ _ _ _ _ rfl _ _ _ _ _ _ _ _ _ _ _ _ _ _ _ _ _ _ _ _ _
   refine sw ?_
   refine ix wN 3 slTy_24 (F.from0 bi) ?_
   exact f2
  ·intro A bj
   have bk:=H.extk bj
   rintro _ _ _ _ _ _ _ _ _ _ rfl _ rfl _ _ _ _ _ _ _ _ _ _ _ _ _ _ _ _ _ _ _ _
   refine sw ?_
   refine ei (x:=i) 3 wN isAgg_3 (F.from0 bk) ?_
   exact f2
  ·intro A ci
   rintro _ _ _ _ _ _ _ _ _ _ _ _ _ _ _ _ _ _ _ _ _ _ _ _ _ _ _ _ _ _ _
   refine sw ?_
   refine mw (vs B i.length C) ?_
   exact f2
  ·intro A bl
   have bm:=H.extk bl
   rintro _ _ _ _ _ _ _ _ _ _ _ _ _ rfl _ _ _ _ _ _ _ _ _ _ _ _ _ _ _ _ _ _
   refine sw ?_
   refine ix wN 4 slTy_24 (F.from0 bm) ?_
   exact f2
  ·intro A bn
   have bo:=H.extk bn
   rintro _ _ _ _ _ _ _ _ _ _ _ _ _ rfl _ rfl _ _ _ _ _ _ _ _ _ _ _ _ _ _ _ _ _
   refine sw ?_
   refine ei (x:=i) 4 wN isAgg_3 (F.from0 bo) ?_
   exact f2
  ·intro A cj
   rintro _ _ _ _ _ _ _ _ _ _ _ _ _ _ _ _ _ _ _ _ _ _ _ _ _ _ _ _ _ _ _
   refine sw ?_
   refine mw (vs B i.length C) ?_
   exact f2
  ·intro A bp
   have bq:=H.extk bp
   rintro _ _ _ _ _ _ _ _ _ _ _ _ _ _ _ _ rfl _ _ _ _ _ _ _ _ _ _ _ _ _ _ _
   refine sw ?_
   refine ix wN 5 slTy_24 (F.from0 bq) ?_
   exact f2
  ·intro A br
   have bu:=H.extk br
   rintro _ _ _ _ _ _ _ _ _ _ _ _ _ _ _ _ rfl _ rfl _ _ _ _ _ _ _ _ _ _ _ _ _ _
   refine sw ?_
   refine ei (x:=i) 5 wN isAgg_3 (F.from0 bu) ?_
   exact f2
  ·intro A ck
   rintro _ _ _ _ _ _ _ _ _ _ _ _ _ _ _ _ _ _ _ _ _ _ _ _ _ _ _ _ _ _ _
   refine sw ?_
   refine mw (vs B i.length C) ?_
   exact f2
  ·intro A bv
   have bw:=H.extk bv
   rintro _ _ _ _ _ _ _ _ _ _ _ _ _ _ _ _ _ _ _ rfl _ _ _ _ _ _ _ _ _ _ _ _
   refine sw ?_
   refine ix wN 6 slTy_24 (F.from0 bw) ?_
   exact f2
  ·intro A bz
   have b0:=H.extk bz
   rintro _ _ _ _ _ _ _ _ _ _ _ _ _ _ _ _ _ _ _ rfl _ rfl _ _ _ _ _ _ _ _ _ _ _
   refine sw ?_
   refine ei (x:=i) 6 wN isAgg_3 (F.from0 b0) ?_
   exact f2
  ·intro A cm
   rintro _ _ _ _ _ _ _ _ _ _ _ _ _ _ _ _ _ _ _ _ _ _ _ _ _ _ _ _ _ _ _
   refine sw ?_
   refine mw (vs B i.length C) ?_
   exact f2
  ·intro A b1
   have b2:=H.extk b1
   rintro _ _ _ _ _ _ _ _ _ _ _ _ _ _ _ _ _ _ _ _ _ _ rfl _ _ _ _ _ _ _ _ _
   refine sw ?_
   refine ix wN 7 slTy_24 (F.from0 b2) ?_
   exact f2
  ·intro A b3
   have b4:=H.extk b3
   rintro _ _ _ _ _ _ _ _ _ _ _ _ _ _ _ _ _ _ _ _ _ _ rfl _ rfl _ _ _ _ _ _ _ _
   refine sw ?_
   refine ei (x:=i) 7 wN isAgg_3 (F.from0 b4) ?_
   exact f2
  ·intro A cn
   rintro _ rfl _ rfl _ rfl _ _ _ _ _ _ _ _ _ _ _ _ _ _ _ _ _ _ _ _ _ _ _ _ _ _ _ _
   refine sw ?_
   refine aw (vi (i.getD 0 0)) ?_
   exact f2
  ·intro A co
   rintro _ rfl _ rfl _ rfl _ rfl _ rfl _ rfl _ _ _ _ _ _ _ _ _ _ _ _ _ _ _ _ _ _ _ rfl _ _ _ _ _ _
   refine sw ?_
   refine aw (vi (i.getD 1 0)) ?_
   exact f2
  ·intro A cp
   rintro _ rfl _ rfl _ rfl _ rfl _ rfl _ rfl _ rfl _ rfl _ rfl _ _ _ _ _ _ _ _ _ _ _ _ _ _ _ _ rfl _ rfl _ _ _ _ _
   refine sw ?_
   refine aw (vi (i.getD 2 0)) ?_
   exact f2
  ·intro A cq
   rintro _ rfl _ rfl _ rfl _ rfl _ rfl _ rfl _ rfl _ rfl _ rfl _ rfl _ rfl _ rfl _ _ _ _ _ _ _ _ _ _ _ _ _ rfl _ rfl _ rfl _ _ _ _
   refine sw ?_
   refine aw (vi (i.getD 3 0)) ?_
   exact f2
  ·intro A cr
   rintro _ rfl _ rfl _ rfl _ rfl _ rfl _ rfl _ rfl _ rfl _ rfl _ rfl _ rfl _ rfl _ rfl _ rfl _ rfl _ _ _ _ _ _ _ _ _ _ rfl _ rfl _ rfl _ rfl _ _ _
   refine sw ?_
   refine aw (vi (i.getD 4 0)) ?_
   exact f2
  ·intro A cs
   rintro _ rfl _ rfl _ rfl _ rfl _ rfl _ rfl _ rfl _ rfl _ rfl _ rfl _ rfl _ rfl _ rfl _ rfl _ rfl _ rfl _ rfl _ rfl _ _ _ _ _ _ _ rfl _ rfl _ rfl _ rfl _ rfl _ _
   refine sw ?_
   refine aw (vi (i.getD 5 0)) ?_
   exact f2
  ·intro A cu
   rintro _ rfl _ rfl _ rfl _ rfl _ rfl _ rfl _ rfl _ rfl _ rfl _ rfl _ rfl _ rfl _ rfl _ rfl _ rfl _ rfl _ rfl _ rfl _ rfl _ rfl _ rfl _ _ _ _ rfl _ rfl _ rfl _ rfl _ rfl _ rfl _
   refine sw ?_
   refine aw (vi (i.getD 6 0)) ?_
   exact f2
 ·intro A M
  have b5:=H.extk M
  rintro _ rfl _ rfl _ rfl _ rfl _ rfl _ rfl _ rfl _ rfl _ rfl _ rfl _ rfl _ rfl _ rfl _ rfl _ rfl _ rfl _ rfl _ rfl _ rfl _ rfl _ rfl _ rfl _ rfl _ rfl _ rfl _ rfl _ rfl _ rfl _ rfl _ rfl _ rfl
  refine sw ?_
  refine aw (vi (i.getD 7 0)) ?_
  refine n4 ?_
  refine aw (vi 0) ?_
  refine wl_nil<|wq_then<|wc_block ?_
  refine wc_loopP [(0,(vs B i.length C)),(4,(vs none 0 0)),(5,(vs I i.length J)),(6,(vs O (schedP p).length P)),(7,(vi ((cmpN (schedP p) (s8of i) 0).a))),(8,(vi ((cmpN (schedP p) (s8of i) 0).b))),(9,(vi ((cmpN (schedP p) (s8of i) 0).c))),(10,(vi ((cmpN (schedP p) (s8of i) 0).d))),(11,(vi ((cmpN (schedP p) (s8of i) 0).e))),(12,(vi ((cmpN (schedP p) (s8of i) 0).f))),(13,(vi ((cmpN (schedP p) (s8of i) 0).g))),(14,(vi ((cmpN (schedP p) (s8of i) 0).z))),(15,(vi ((0:Nat):Int)))] ⟨rfl,rfl,rfl,rfl,(cA (Value.int .i64) (show ((i.getD 0 0):Int)=(cmpN (schedP p) (s8of i) 0).a by rfl)),(cA (Value.int .i64) (show ((i.getD 1 0):Int)=(cmpN (schedP p) (s8of i) 0).b by rfl)),(cA (Value.int .i64) (show ((i.getD 2 0):Int)=(cmpN (schedP p) (s8of i) 0).c by rfl)),(cA (Value.int .i64) (show ((i.getD 3 0):Int)=(cmpN (schedP p) (s8of i) 0).d by rfl)),(cA (Value.int .i64) (show ((i.getD 4 0):Int)=(cmpN (schedP p) (s8of i) 0).e by rfl)),(cA (Value.int .i64) (show ((i.getD 5 0):Int)=(cmpN (schedP p) (s8of i) 0).f by rfl)),(cA (Value.int .i64) (show ((i.getD 6 0):Int)=(cmpN (schedP p) (s8of i) 0).g by rfl)),(cA (Value.int .i64) (show ((i.getD 7 0):Int)=(cmpN (schedP p) (s8of i) 0).z by rfl)),(cA (Value.int .i64) (show (0:Int)=((0:Nat):Int) by omega)),trivial⟩ (fun e' K=>∃ (k:Nat) (o:Int) (q:Int) (r:Int) (D:Int) (j:Int) (s:Int) (t:Int) (y:Int) (a6:Env),e'=pt a6 [(0,(vs B i.length C)),(4,(vs none 0 0)),(5,(vs I i.length J)),(6,(vs O (schedP p).length P)),(7,(vi o)),(8,(vi q)),(9,(vi r)),(10,(vi D)),(11,(vi j)),(12,(vi s)),(13,(vi t)),(14,(vi y)),(15,(vi ((k:Nat):Int)))]∧Ch (fun k=>G.heap.size≤k) G K∧Ch (fun k=>A.heap.size≤k) A K∧k≤64∧o=(cmpN (schedP p) (s8of i) k).a∧q=(cmpN (schedP p) (s8of i) k).b∧r=(cmpN (schedP p) (s8of i) k).c∧D=(cmpN (schedP p) (s8of i) k).d∧j=(cmpN (schedP p) (s8of i) k).e∧s=(cmpN (schedP p) (s8of i) k).f∧t=(cmpN (schedP p) (s8of i) k).g∧y=(cmpN (schedP p) (s8of i) k).z) (fun e' _=>(64 - (intOf (e' 15))).toNat) ?_ ?_
  ·exact fun u=>⟨0,(cmpN (schedP p) (s8of i) 0).a,(cmpN (schedP p) (s8of i) 0).b,(cmpN (schedP p) (s8of i) 0).c,(cmpN (schedP p) (s8of i) 0).d,(cmpN (schedP p) (s8of i) 0).e,(cmpN (schedP p) (s8of i) 0).f,(cmpN (schedP p) (s8of i) 0).g,(cmpN (schedP p) (s8of i) 0).z,u,rfl,b5,(Ch.refl (fun k=>A.heap.size≤k) A),(by omega),(by first|rfl|assumption),(by first|rfl|assumption),(by first|rfl|assumption),(by first|rfl|assumption),(by first|rfl|assumption),(by first|rfl|assumption),(by first|rfl|assumption),(by first|rfl|assumption)⟩
  ·rintro _ aj ⟨k,o,q,r,D,j,s,t,y,a6,rfl,a7,T,cv,hi_a,hi_b,hi_c,hi_d,hi_e,hi_f,hi_g,hi_z⟩
   obtain ⟨zw,hzw⟩:∃ z,(schedP p).getD k 0=z:=⟨_,rfl⟩
   have hwd:0≤zw∧zw < 4294967296:=hzw ▸ wget (schedP_w p) k
   obtain ⟨zk,hzk⟩:∃ z,kw.getD k 0=z:=⟨_,rfl⟩
   have hkw:0≤zk∧zk < 4294967296:=hzk ▸ wget kw_w k
   have hkl:kw.length=64:=rfl
   have hok:=cmpN_ok (w:=schedP p) (s8of_ok (areW_t (by first|assumption|exact ‹ws8 i=true›)).1) k
   unfold S8.ok at hok
   rw [← hi_a,← hi_b,← hi_c,← hi_d,← hi_e,← hi_f,← hi_g,← hi_z] at hok
   refine wc_seq<|sr ?_
   refine mw (vi ((k:Nat):Int)) ?_
   refine pu (vb (decide (((k:Nat):Int) < 64))) wN ?_
   refine n2 ?_
   rcases bf (decide (((k:Nat):Int) < 64)) with V|V
   ·have cw:=dF V
    refine cf V ?_
    refine wc_exit<|wq_then_exit ?_
    obtain rfl:k=64:=by omega
    refine wq_then_exit<|wq_blk_exit<|wq_then<|wc_seq<|sr ?_
    refine mw (vi o) ?_
    refine mw (vi q) ?_
    refine mw (vi r) ?_
    refine mw (vi D) ?_
    refine mw (vi j) ?_
    refine mw (vi s) ?_
    refine mw (vi t) ?_
    refine mw (vi y) ?_
    refine ltI ([o,q,r,D,j,s,t,y]:List Int) wN slTy_24 ?_
    intro ab ac E a8 ak
    have b6:=a7.extk a8
    refine ln wN slTy_24 (Rd.of_own ak) ?_
    refine mw (vi 0) ?_
    refine wl_nil<|wq_then<|wc_block ?_
    have b7:=(own_kp (own_ch (own_kp (own_kp (own_kp Q R) Z) M) T (fun g hg hlt hk=>by have am:=(own_lt Q g hg).2;have an:a1.heap.size≤A.heap.size:=(z3 R Z M);have ao:A.heap.size≤g:=hk;omega)) a8)
    have b8:(i:List Int)=(addL i (S8.list (cmpN (schedP p) (s8of i) 64))).take 0++i.drop 0:=by first|rfl|simp
    have b9:(([o,q,r,D,j,s,t,y]:List Int):List Int)=([o,q,r,D,j,s,t,y]:List Int):=by first|rfl|simp
    refine wc_loopP [(0,(vs B i.length C)),(4,(vs none 0 0)),(5,(vs I i.length J)),(133,(vs ab ([o,q,r,D,j,s,t,y]:List Int).length ac)),(134,(vi (([o,q,r,D,j,s,t,y]:List Int).length:Int))),(135,(vi ((0:Nat):Int)))] ⟨rfl,rfl,rfl,rfl,rfl,(cA (Value.int .i64) (show (0:Int)=((0:Nat):Int) by omega)),trivial⟩ (fun e' K=>∃ (m:Nat) (a9:Env),e'=pt a9 [(0,(vs B i.length C)),(4,(vs none 0 0)),(5,(vs I i.length J)),(133,(vs ab ([o,q,r,D,j,s,t,y]:List Int).length ac)),(134,(vi (([o,q,r,D,j,s,t,y]:List Int).length:Int))),(135,(vi ((m:Nat):Int)))]∧Ch (fun k=>G.heap.size≤k) G K∧Ch (fun k=>G.heap.size≤k) E K∧m≤8∧World.ownsRow K G.heap.size 3 1 (.slice I i.length J) i.length (((addL i (S8.list (cmpN (schedP p) (s8of i) 64))).take m++i.drop m).map iV)∧World.ownsRow K aj.heap.size 3 1 (.slice ab ([o,q,r,D,j,s,t,y]:List Int).length ac) ([o,q,r,D,j,s,t,y]:List Int).length ((([o,q,r,D,j,s,t,y]:List Int)).map iV)) (fun e' _=>(8 - (intOf (e' 135))).toNat) ?_ ?_
    ·exact fun u=>⟨0,u,rfl,b6,(Ch.refl (fun k=>G.heap.size≤k) E),(by omega),(by rw [← b8];exact b7),(by rw [← b9];exact ak)⟩
    ·rintro _ N ⟨m,a9,rfl,ad,bA,cx,ap,aq⟩
     have hlL:([o,q,r,D,j,s,t,y]:List Int).length=8:=rfl
     have hll:(addL i (S8.list (cmpN (schedP p) (s8of i) 64))).length=8:=addL_len (by omega) rfl
     have cy:(i.length:Int)=8:=(areW_t (by first|assumption|exact ‹ws8 i=true›)).2
     have cz:=wget (areW_t (by first|assumption|exact ‹ws8 i=true›)).1 m
     have hle:([o,q,r,D,j,s,t,y]:List Int)=(S8.list (cmpN (schedP p) (s8of i) 64)):=by rw [hi_a,hi_b,hi_c,hi_d,hi_e,hi_f,hi_g,hi_z];rfl
     have c0:0≤([o,q,r,D,j,s,t,y]:List Int).getD m 0∧([o,q,r,D,j,s,t,y]:List Int).getD m 0 < 4294967296:=hle ▸ wget (s8l_w (cmpN_ok (w:=schedP p) (s8of_ok (areW_t (by first|assumption|exact ‹ws8 i=true›)).1) 64)) m
     refine sr ?_
     refine pu (vb (decide (((m:Nat):Int) < (([o,q,r,D,j,s,t,y]:List Int).length:Int)))) wN ?_
     refine wl_nil<|wq_then<|wc_seq ?_
     rcases bf (decide (((m:Nat):Int) < (([o,q,r,D,j,s,t,y]:List Int).length:Int))) with W|W
     ·have c1:=dF W
      refine cf W ?_
      refine wc_exit<|wq_then_exit<|wq_then_exit<|wq_blk_exit<|wq_then<|sr ?_
      refine mw (vs I i.length J) ?_
      refine aw (vs I i.length J) ?_
      refine n3 ?_
      refine rt (vs I i.length J) ?_
      refine ⟨ad.keep0,?_⟩
      have bB:compress i p=((addL i (S8.list (cmpN (schedP p) (s8of i) 64))).take m++i.drop m):=by first|exact compress_f (by first|assumption|exact ‹ws8 i=false›)|exact compress_g (by omega)|exact compress_t (by first|assumption|exact ‹ws8 i=true›) (by omega) (by omega)
      rw [bB]
      have aA:i.length=(((addL i (S8.list (cmpN (schedP p) (s8of i) 64))).take m++i.drop m)).length:=by simp only [List.length_append,List.length_take,List.length_drop];omega
      rw [aA] at ap ⊢
      exact ⟨_,_,rfl,ap,(by rw [← aA];exact af),⟨trivial,trivial⟩⟩
     have c2:=dT W
     refine ct W ?_
     refine wc_skip<|wq_then<|wc_seq<|wc_block<|sr ?_
     refine mw (vi ((m:Nat):Int)) ?_
     refine ix wN ((m:Nat):Int) slTy_24 (Rd.of_own aq) ?_
     refine ei (x:=(([o,q,r,D,j,s,t,y]:List Int))) m wN isAgg_3 (Rd.of_own aq) ?_
     refine aw (vi ((m:Nat):Int)) ?_
     refine aw (vi ((([o,q,r,D,j,s,t,y]:List Int)).getD m 0)) ?_
     refine wl_nil<|wq_then<|wc_region ?_
     refine mw (vs I i.length J) ?_
     refine mw (vi ((m:Nat):Int)) ?_
     refine mw (vs B i.length C) ?_
     refine mw (vi ((m:Nat):Int)) ?_
     refine ix wN ((m:Nat):Int) slTy_24 (F.from0 ad) ?_
     refine ei (x:=i) m wN isAgg_3 (F.from0 ad) ?_
     refine mw (vi ((([o,q,r,D,j,s,t,y]:List Int)).getD m 0)) ?_
     refine cl wN (ciAdd32 N (i.getD m 0) ((([o,q,r,D,j,s,t,y]:List Int)).getD m 0) (by omega) (by omega) (by omega) (by omega)) ?_
     rintro _ aB ⟨ae,rfl⟩
     have aC:=(own_kp ap ae)
     refine ix wN ((m:Nat):Int) slTy_24 (Rd.of_own aC) ?_
     refine wl_storeI ((addL i (S8.list (cmpN (schedP p) (s8of i) 64))).take m++i.drop m) (m) ((i_Add32 (i.getD m 0) ((([o,q,r,D,j,s,t,y]:List Int)).getD m 0))) wN rfl rfl rfl (by simp) rfl sizeOf_3 aC (by first|omega|(simp only [List.length_append,List.length_take,List.length_drop];omega)) ?_
     intro aD au bC
     have bD:=(ad.extk ae).ext au (fun k hk=>nT (Nat.le_refl G.heap.size) (own_lt Q k hk).1)
     refine wl_nil<|wq_blk_normal<|wq_then<|wc_region ?_
     refine ar (((m:Nat):Int)+1) wN ?_
     refine mw (vi (((m:Nat):Int)+1)) ?_
     refine wl_nil ?_
     have bE:((((addL i (S8.list (cmpN (schedP p) (s8of i) 64))).take m++i.drop m).set m (i_Add32 (i.getD m 0) ((([o,q,r,D,j,s,t,y]:List Int)).getD m 0))):List Int)=(addL i (S8.list (cmpN (schedP p) (s8of i) 64))).take (m+1)++i.drop (m+1):=by first|rfl|(rw [hle];exact addL_next (l:=(S8.list (cmpN (schedP p) (s8of i) 64))) (by omega) (by show i.length=8;omega))
     have bF:=(own_ch (own_kp aq ae) au (fun g hg hlt hk=>by have am:=(own_lt ak g hg).1;have an:=(own_lt Q g hk).2;have ao:=(z4 R Z M T);omega))
     have bG:((([o,q,r,D,j,s,t,y]:List Int)):List Int)=([o,q,r,D,j,s,t,y]:List Int):=by first|rfl|(rw [hle];exact addL_next (l:=(S8.list (cmpN (schedP p) (s8of i) 64))) (by omega) (by show i.length=8;omega))
     refine wq_loopP (w0:=N) [(0,(vs B i.length C)),(4,(vs none 0 0)),(5,(vs I i.length J)),(133,(vs ab ([o,q,r,D,j,s,t,y]:List Int).length ac)),(134,(vi (([o,q,r,D,j,s,t,y]:List Int).length:Int))),(135,(vi (((m+1):Nat):Int)))] ?_ ?_ ?_
     · exact ⟨rfl,rfl,rfl,rfl,rfl,(cA (Value.int .i64) (show ((((m:Nat):Int)+1):Int)=(((m+1):Nat):Int) by omega)),trivial⟩
     · exact fun u=>⟨(m+1),u,rfl,bD,((((Ch.refl (fun k=>G.heap.size≤k) E).ext bA (fun k hk=>hk)).extk ae).ext au (fun k hk=>nT (Nat.le_refl G.heap.size) (own_lt Q k hk).1)),(by omega),(by rw [← bE];exact bC),(by rw [← bG];exact bF)⟩
     · show (8 - (((m+1):Nat):Int)).toNat < (8 - ((m:Nat):Int)).toNat;omega
   have c3:=dT V
   refine ct V ?_
   refine wc_skip<|wq_then<|wc_seq<|wc_block<|sr ?_
   refine mw (vi j) ?_
   refine mw (vi s) ?_
   refine wl_andG j s wN rfl rfl (by kernel_rfl) (by omega) (by omega) (by omega) (by omega) ?_
   have c4:=andI_b (a:=j) (b:=s) (by omega)
   refine mw (vi j) ?_
   refine wl_xor 4294967295 j wN rfl rfl (by kernel_rfl) (by omega) (by omega) (by omega) (by omega) ?_
   have c5:=xorI_b (a:=4294967295) (b:=j) (by omega) (by omega)
   refine mw (vi t) ?_
   refine wl_andG (xorI 4294967295 j) t wN rfl rfl (by kernel_rfl) (by omega) (by omega) (by omega) (by omega) ?_
   have c6:=andI_b (a:=(xorI 4294967295 j)) (b:=t) (by omega)
   refine wl_xor (andI j s) (andI (xorI 4294967295 j) t) wN rfl rfl (by kernel_rfl) (by omega) (by omega) (by omega) (by omega) ?_
   have c7:=xorI_b (a:=(andI j s)) (b:=(andI (xorI 4294967295 j) t)) (by omega) (by omega)
   refine aw (vi (xorI (andI j s) (andI (xorI 4294967295 j) t))) ?_
   refine nx ?_
   refine mw (vi o) ?_
   refine mw (vi q) ?_
   refine wl_andG o q wN rfl rfl (by kernel_rfl) (by omega) (by omega) (by omega) (by omega) ?_
   have c8:=andI_b (a:=o) (b:=q) (by omega)
   refine mw (vi o) ?_
   refine mw (vi r) ?_
   refine wl_andG o r wN rfl rfl (by kernel_rfl) (by omega) (by omega) (by omega) (by omega) ?_
   have c9:=andI_b (a:=o) (b:=r) (by omega)
   refine wl_xor (andI o q) (andI o r) wN rfl rfl (by kernel_rfl) (by omega) (by omega) (by omega) (by omega) ?_
   have cC:=xorI_b (a:=(andI o q)) (b:=(andI o r)) (by omega) (by omega)
   refine mw (vi q) ?_
   refine mw (vi r) ?_
   refine wl_andG q r wN rfl rfl (by kernel_rfl) (by omega) (by omega) (by omega) (by omega) ?_
   have cD:=andI_b (a:=q) (b:=r) (by omega)
   refine wl_xor (xorI (andI o q) (andI o r)) (andI q r) wN rfl rfl (by kernel_rfl) (by omega) (by omega) (by omega) (by omega) ?_
   have cE:=xorI_b (a:=(xorI (andI o q) (andI o r))) (b:=(andI q r)) (by omega) (by omega)
   refine aw (vi (xorI (xorI (andI o q) (andI o r)) (andI q r))) ?_
   refine wl_nil<|wq_then<|wc_seq ?_
   refine wc_drawT ([(83,[],[],(fun _ v _=>v=(vi y))),(84,[],[],(fun _ v _=>v=(vi j))),(85,[],[1],(fun _ v w=>v=.int .i64 (rot j 6))),(86,[],[],(fun _ v _=>v=(vi j))),(87,[],[1,2,3],(fun _ v w=>v=.int .i64 (rot j 11))),(88,[],[1,2,3,4],(fun _ v _=>v=(vi (xorI (rot j 6) (rot j 11))))),(89,[],[],(fun _ v _=>v=(vi j))),(90,[],[1,2,3,4,6],(fun _ v w=>v=.int .i64 (rot j 25))),(91,[],[1,2,3,4,5,6,7],(fun _ v _=>v=(vi (xorI (xorI (rot j 6) (rot j 11)) (rot j 25))))),(92,[],[0,1,2,3,4,5,6,7,8],(fun _ v _=>v=(vi (y+(xorI (xorI (rot j 6) (rot j 11)) (rot j 25)))))),(93,[],[],(fun _ v _=>v=(vi (xorI (andI j s) (andI (xorI 4294967295 j) t))))),(94,[],[0,1,2,3,4,5,6,7,8,9,10],(fun _ v _=>v=(vi ((y+(xorI (xorI (rot j 6) (rot j 11)) (rot j 25)))+(xorI (andI j s) (andI (xorI 4294967295 j) t)))))),(95,[],[],(fun _ v _=>v=(vi ((k:Nat):Int)))),(96,[],[1,2,3,4,6,7,12],(fun _ v w=>v=.int .i64 (rw64 ((k:Nat):Int)))),(97,[],[0,1,2,3,4,5,6,7,8,9,10,11,12,13],(fun _ v _=>v=(vi (((y+(xorI (xorI (rot j 6) (rot j 11)) (rot j 25)))+(xorI (andI j s) (andI (xorI 4294967295 j) t)))+(rw64 ((k:Nat):Int)))))),(98,[],[],(fun _ v _=>v=(vs O (schedP p).length P))),(99,[],[],(fun _ v _=>v=(vi ((k:Nat):Int)))),(100,[],[15,16],(fun _ v _=>v=(ve (vs O (schedP p).length P) ((((k:Nat):Int)).toNat*1)))),(101,[],[15,16,17],(fun _ v _=>v=(vi zw)))]:GV) (fun _ K=>Keep aj K) [] mixed rfl (by kernel_rfl) (by kernel_rfl) ?_ (fun _ _ h=>h) (fun _ _ _ _ h _ k=>h.trans k) trivial ?_ ?_ ?_
   ·exact ⟨hV,hE,⟨hV,hE,⟨hV,hE,⟨hV,hE,⟨hV,hE,⟨hV,hE,⟨hV,hE,⟨hV,hE,⟨hV,hE,⟨hV,hE,⟨hV,hE,⟨hV,hE,⟨hV,hE,⟨hV,hE,⟨hV,hE,⟨hV,hE,⟨hV,hE,⟨hV,hE,⟨hV,hE,trivial⟩⟩⟩⟩⟩⟩⟩⟩⟩⟩⟩⟩⟩⟩⟩⟩⟩⟩⟩
   ·exact trivial
   ·refine ⟨?_,⟨?_,⟨?_,⟨?_,⟨?_,⟨?_,⟨?_,⟨?_,⟨?_,⟨?_,⟨?_,⟨?_,⟨?_,⟨?_,⟨?_,⟨?_,⟨?_,⟨?_,⟨?_,trivial⟩⟩⟩⟩⟩⟩⟩⟩⟩⟩⟩⟩⟩⟩⟩⟩⟩⟩⟩
    ·intro _ E cF _
     rintro _ _ _ _ _ _ _ _ _ _ _ _ _ _ _ _ _ _ _
     refine sw ?_
     refine mw (vi y) ?_
     exact f1
    ·intro _ E cG _
     rintro _ _ _ _ _ _ _ _ _ _ _ _ _ _ _ _ _ _ _
     refine sw ?_
     refine mw (vi j) ?_
     exact f1
    ·intro _ E cH _
     rintro _ _ rfl _ _ _ _ _ _ _ _ _ _ _ _ _ _ _ _ _
     refine sw ?_
     refine cl wN (ciRot E j 6 (by omega) (by omega)) ?_
     rintro _ N ⟨bH,rfl⟩
     have cI:=rot_b j 6
     exact wl_finT bH rfl
    ·intro _ E cJ _
     rintro _ _ _ _ _ _ _ _ _ _ _ _ _ _ _ _ _ _ _
     refine sw ?_
     refine mw (vi j) ?_
     exact f1
    ·intro _ E cK _
     rintro _ _ rfl _ rfl
     have cL:=rot_b j 6
     rintro _ rfl _ _ _ _ _ _ _ _ _ _ _ _ _ _ _
     refine sw ?_
     refine cl wN (ciRot E j 11 (by omega) (by omega)) ?_
     rintro _ N ⟨bI,rfl⟩
     have cM:=rot_b j 11
     exact wl_finT bI rfl
    ·intro _ E cN _
     rintro _ _ rfl _ rfl
     have cO:=rot_b j 6
     rintro _ rfl _ rfl
     have cP:=rot_b j 11
     rintro _ _ _ _ _ _ _ _ _ _ _ _ _ _
     refine sw ?_
     refine wl_xor (rot j 6) (rot j 11) wN rfl rfl (by kernel_rfl) (by omega) (by omega) (by omega) (by omega) ?_
     have cQ:=xorI_b (a:=(rot j 6)) (b:=(rot j 11)) (by omega) (by omega)
     exact f1
    ·intro _ E cR _
     rintro _ _ _ _ _ _ _ _ _ _ _ _ _ _ _ _ _ _ _
     refine sw ?_
     refine mw (vi j) ?_
     exact f1
    ·intro _ E cS _
     rintro _ _ rfl _ rfl
     have cT:=rot_b j 6
     rintro _ rfl _ rfl
     have cU:=rot_b j 11
     rintro _ _ rfl _ _ _ _ _ _ _ _ _ _ _ _
     refine sw ?_
     refine cl wN (ciRot E j 25 (by omega) (by omega)) ?_
     rintro _ N ⟨bJ,rfl⟩
     have cV:=rot_b j 25
     exact wl_finT bJ rfl
    ·intro _ E cW _
     rintro _ _ rfl _ rfl
     have cX:=rot_b j 6
     rintro _ rfl _ rfl
     have cY:=rot_b j 11
     rintro _ rfl
     have cZ:=xorI_b (a:=(rot j 6)) (b:=(rot j 11)) (by omega) (by omega)
     rintro _ rfl _ rfl
     have da:=rot_b j 25
     rintro _ _ _ _ _ _ _ _ _ _ _
     refine sw ?_
     refine wl_xor (xorI (rot j 6) (rot j 11)) (rot j 25) wN rfl rfl (by kernel_rfl) (by omega) (by omega) (by omega) (by omega) ?_
     have db:=xorI_b (a:=(xorI (rot j 6) (rot j 11))) (b:=(rot j 25)) (by omega) (by omega)
     exact f1
    ·intro _ E dc _
     rintro _ rfl _ rfl _ rfl
     have dd:=rot_b j 6
     rintro _ rfl _ rfl
     have de:=rot_b j 11
     rintro _ rfl
     have df:=xorI_b (a:=(rot j 6)) (b:=(rot j 11)) (by omega) (by omega)
     rintro _ rfl _ rfl
     have dg:=rot_b j 25
     rintro _ rfl
     have dh:=xorI_b (a:=(xorI (rot j 6) (rot j 11))) (b:=(rot j 25)) (by omega) (by omega)
     rintro _ _ _ _ _ _ _ _ _ _
     refine sw ?_
     refine ar (y+(xorI (xorI (rot j 6) (rot j 11)) (rot j 25))) wN ?_
     exact f1
    ·intro _ E di _
     rintro _ _ _ _ _ _ _ _ _ _ _ _ _ _ _ _ _ _ _
     refine sw ?_
     refine mw (vi (xorI (andI j s) (andI (xorI 4294967295 j) t))) ?_
     exact f1
    ·intro _ E dj _
     rintro _ rfl _ rfl _ rfl
     have dk:=rot_b j 6
     rintro _ rfl _ rfl
     have dl:=rot_b j 11
     rintro _ rfl
     have dm:=xorI_b (a:=(rot j 6)) (b:=(rot j 11)) (by omega) (by omega)
     rintro _ rfl _ rfl
     have dn:=rot_b j 25
     rintro _ rfl
     have dp:=xorI_b (a:=(xorI (rot j 6) (rot j 11))) (b:=(rot j 25)) (by omega) (by omega)
     rintro _ rfl _ rfl _ _ _ _ _ _ _ _
     refine sw ?_
     refine ar ((y+(xorI (xorI (rot j 6) (rot j 11)) (rot j 25)))+(xorI (andI j s) (andI (xorI 4294967295 j) t))) wN ?_
     exact f1
    ·intro _ E dq _
     rintro _ _ _ _ _ _ _ _ _ _ _ _ _ _ _ _ _ _ _
     refine sw ?_
     refine mw (vi ((k:Nat):Int)) ?_
     exact f1
    ·intro _ E dr _
     rintro _ _ rfl _ rfl
     have ds:=rot_b j 6
     rintro _ rfl _ rfl
     have dt:=rot_b j 11
     rintro _ _ rfl _ rfl
     have du:=rot_b j 25
     rintro _ _ _ _ _ rfl _ _ _ _ _ _
     refine sw ?_
     refine cl wN (ciRoundWord E ((k:Nat):Int)) ?_
     rintro _ N ⟨bK,rfl⟩
     have dv:=rw64_b ((k:Nat):Int)
     exact wl_finT bK rfl
    ·intro _ E dw _
     rintro _ rfl _ rfl _ rfl
     have dx:=rot_b j 6
     rintro _ rfl _ rfl
     have dy:=rot_b j 11
     rintro _ rfl
     have dz:=xorI_b (a:=(rot j 6)) (b:=(rot j 11)) (by omega) (by omega)
     rintro _ rfl _ rfl
     have d0:=rot_b j 25
     rintro _ rfl
     have d1:=xorI_b (a:=(xorI (rot j 6) (rot j 11))) (b:=(rot j 25)) (by omega) (by omega)
     rintro _ rfl _ rfl _ rfl _ rfl _ rfl
     have d2:=rw64_b ((k:Nat):Int)
     rintro _ _ _ _ _
     refine sw ?_
     refine ar (((y+(xorI (xorI (rot j 6) (rot j 11)) (rot j 25)))+(xorI (andI j s) (andI (xorI 4294967295 j) t)))+(rw64 ((k:Nat):Int))) wN ?_
     exact f1
    ·intro _ E d3 _
     rintro _ _ _ _ _ _ _ _ _ _ _ _ _ _ _ _ _ _ _
     refine sw ?_
     refine mw (vs O (schedP p).length P) ?_
     exact f1
    ·intro _ E d4 _
     rintro _ _ _ _ _ _ _ _ _ _ _ _ _ _ _ _ _ _ _
     refine sw ?_
     refine mw (vi ((k:Nat):Int)) ?_
     exact f1
    ·intro _ E bL _
     rintro _ _ _ _ _ _ _ _ _ _ _ _ _ _ _ _ rfl _ rfl _ _
     refine sw ?_
     have bM:=(own_kp (own_ch (own_kp aa M) T (fun g hg hlt hk=>by have am:=(own_lt aa g hg).2;have an:a5.heap.size≤A.heap.size:=M.size;have ao:A.heap.size≤g:=hk;omega)) bL)
     refine ix wN ((k:Nat):Int) slTy_24 (Rd.of_own bM) ?_
     exact f1
    ·intro _ E bN _
     rintro _ _ _ _ _ _ _ _ _ _ _ _ _ _ _ _ rfl _ rfl _ rfl _
     refine sw ?_
     have bO:=(own_kp (own_ch (own_kp aa M) T (fun g hg hlt hk=>by have am:=(own_lt aa g hg).2;have an:a5.heap.size≤A.heap.size:=M.size;have ao:A.heap.size≤g:=hk;omega)) bN)
     refine wl_loadE (iV zw) wN rfl rfl rfl rfl isAgg_3 (Rd.of_own bO) (by rw [← hzw];exact iget (by simp) (by first|omega|(simp <;> omega))) ?_
     exact f1
   ·intro _ E aE
    rintro _ rfl _ rfl _ rfl
    have d5:=rot_b j 6
    rintro _ rfl _ rfl
    have d6:=rot_b j 11
    rintro _ rfl
    have d7:=xorI_b (a:=(rot j 6)) (b:=(rot j 11)) (by omega) (by omega)
    rintro _ rfl _ rfl
    have d8:=rot_b j 25
    rintro _ rfl
    have d9:=xorI_b (a:=(xorI (rot j 6) (rot j 11))) (b:=(rot j 25)) (by omega) (by omega)
    rintro _ rfl _ rfl _ rfl _ rfl _ rfl
    have dA:=rw64_b ((k:Nat):Int)
    rintro _ rfl _ rfl _ rfl _ rfl _ rfl
    refine sw ?_
    refine ar ((((y+(xorI (xorI (rot j 6) (rot j 11)) (rot j 25)))+(xorI (andI j s) (andI (xorI 4294967295 j) t)))+(rw64 ((k:Nat):Int)))+zw) wN ?_
    refine aw (vi ((((y+(xorI (xorI (rot j 6) (rot j 11)) (rot j 25)))+(xorI (andI j s) (andI (xorI 4294967295 j) t)))+(rw64 ((k:Nat):Int)))+zw)) ?_
    refine nx ?_
    refine mw (vi o) ?_
    refine cl wN (ciRot E o 2 (by omega) (by omega)) ?_
    rintro _ N ⟨aF,rfl⟩
    have bP:=(a7.extk aE).extk aF
    have dB:=rot_b o 2
    refine mw (vi o) ?_
    refine cl wN (ciRot N o 13 (by omega) (by omega)) ?_
    rintro _ aB ⟨aG,rfl⟩
    have dC:=rot_b o 13
    refine wl_xor (rot o 2) (rot o 13) wN rfl rfl (by kernel_rfl) (by omega) (by omega) (by omega) (by omega) ?_
    have dD:=xorI_b (a:=(rot o 2)) (b:=(rot o 13)) (by omega) (by omega)
    refine mw (vi o) ?_
    refine cl wN (ciRot aB o 22 (by omega) (by omega)) ?_
    rintro _ aD ⟨aH,rfl⟩
    have bQ:=(bP.extk aG).extk aH
    have dE:=rot_b o 22
    refine wl_xor (xorI (rot o 2) (rot o 13)) (rot o 22) wN rfl rfl (by kernel_rfl) (by omega) (by omega) (by omega) (by omega) ?_
    have dG:=xorI_b (a:=(xorI (rot o 2) (rot o 13))) (b:=(rot o 22)) (by omega) (by omega)
    refine mw (vi (xorI (xorI (andI o q) (andI o r)) (andI q r))) ?_
    refine ar ((xorI (xorI (rot o 2) (rot o 13)) (rot o 22))+(xorI (xorI (andI o q) (andI o r)) (andI q r))) wN ?_
    refine aw (vi ((xorI (xorI (rot o 2) (rot o 13)) (rot o 22))+(xorI (xorI (andI o q) (andI o r)) (andI q r)))) ?_
    refine nx ?_
    refine mw (vi t) ?_
    refine mw (vi s) ?_
    refine mw (vi j) ?_
    refine mw (vi D) ?_
    refine mw (vi ((((y+(xorI (xorI (rot j 6) (rot j 11)) (rot j 25)))+(xorI (andI j s) (andI (xorI 4294967295 j) t)))+(rw64 ((k:Nat):Int)))+zw)) ?_
    refine cl wN (ciAdd32 aD D ((((y+(xorI (xorI (rot j 6) (rot j 11)) (rot j 25)))+(xorI (andI j s) (andI (xorI 4294967295 j) t)))+(rw64 ((k:Nat):Int)))+zw) (by omega) (by omega) (by omega) (by omega)) ?_
    rintro _ bR ⟨aI,rfl⟩
    refine aw (vi t) ?_
    refine aw (vi s) ?_
    refine aw (vi j) ?_
    refine aw (vi (i_Add32 D ((((y+(xorI (xorI (rot j 6) (rot j 11)) (rot j 25)))+(xorI (andI j s) (andI (xorI 4294967295 j) t)))+(rw64 ((k:Nat):Int)))+zw))) ?_
    refine wl_nil<|wq_then<|wc_region ?_
    refine mw (vi r) ?_
    refine mw (vi q) ?_
    refine mw (vi o) ?_
    refine mw (vi ((((y+(xorI (xorI (rot j 6) (rot j 11)) (rot j 25)))+(xorI (andI j s) (andI (xorI 4294967295 j) t)))+(rw64 ((k:Nat):Int)))+zw)) ?_
    refine mw (vi ((xorI (xorI (rot o 2) (rot o 13)) (rot o 22))+(xorI (xorI (andI o q) (andI o r)) (andI q r)))) ?_
    refine cl wN (ciAdd32 bR ((((y+(xorI (xorI (rot j 6) (rot j 11)) (rot j 25)))+(xorI (andI j s) (andI (xorI 4294967295 j) t)))+(rw64 ((k:Nat):Int)))+zw) ((xorI (xorI (rot o 2) (rot o 13)) (rot o 22))+(xorI (xorI (andI o q) (andI o r)) (andI q r))) (by omega) (by omega) (by omega) (by omega)) ?_
    rintro _ dH ⟨aJ,rfl⟩
    have bS:=(bQ.extk aI).extk aJ
    refine aw (vi r) ?_
    refine aw (vi q) ?_
    refine aw (vi o) ?_
    refine aw (vi (i_Add32 ((((y+(xorI (xorI (rot j 6) (rot j 11)) (rot j 25)))+(xorI (andI j s) (andI (xorI 4294967295 j) t)))+(rw64 ((k:Nat):Int)))+zw) ((xorI (xorI (rot o 2) (rot o 13)) (rot o 22))+(xorI (xorI (andI o q) (andI o r)) (andI q r))))) ?_
    refine wl_nil<|wq_blk_normal<|wq_then<|wc_region ?_
    refine mw (vi ((k:Nat):Int)) ?_
    refine ar (((k:Nat):Int)+1) wN ?_
    refine aw (vi (((k:Nat):Int)+1)) ?_
    refine wl_nil ?_
    refine wq_loopP (w0:=aj) [(0,(vs B i.length C)),(4,(vs none 0 0)),(5,(vs I i.length J)),(6,(vs O (schedP p).length P)),(7,(vi ((cmpN (schedP p) (s8of i) (k+1)).a))),(8,(vi ((cmpN (schedP p) (s8of i) (k+1)).b))),(9,(vi ((cmpN (schedP p) (s8of i) (k+1)).c))),(10,(vi ((cmpN (schedP p) (s8of i) (k+1)).d))),(11,(vi ((cmpN (schedP p) (s8of i) (k+1)).e))),(12,(vi ((cmpN (schedP p) (s8of i) (k+1)).f))),(13,(vi ((cmpN (schedP p) (s8of i) (k+1)).g))),(14,(vi ((cmpN (schedP p) (s8of i) (k+1)).z))),(15,(vi (((k+1):Nat):Int)))] ?_ ?_ ?_
    · exact ⟨rfl,rfl,rfl,rfl,(cA (Value.int .i64) (show ((i_Add32 ((((y+(xorI (xorI (rot j 6) (rot j 11)) (rot j 25)))+(xorI (andI j s) (andI (xorI 4294967295 j) t)))+(rw64 ((k:Nat):Int)))+zw) ((xorI (xorI (rot o 2) (rot o 13)) (rot o 22))+(xorI (xorI (andI o q) (andI o r)) (andI q r)))):Int)=(cmpN (schedP p) (s8of i) (k+1)).a by subst hzw hzk hi_a hi_b hi_c hi_d hi_e hi_f hi_g hi_z;exact cmp_ia (by omega) rfl)),(cA (Value.int .i64) (show (o:Int)=(cmpN (schedP p) (s8of i) (k+1)).b by rw [hi_a];rfl)),(cA (Value.int .i64) (show (q:Int)=(cmpN (schedP p) (s8of i) (k+1)).c by rw [hi_b];rfl)),(cA (Value.int .i64) (show (r:Int)=(cmpN (schedP p) (s8of i) (k+1)).d by rw [hi_c];rfl)),(cA (Value.int .i64) (show ((i_Add32 D ((((y+(xorI (xorI (rot j 6) (rot j 11)) (rot j 25)))+(xorI (andI j s) (andI (xorI 4294967295 j) t)))+(rw64 ((k:Nat):Int)))+zw)):Int)=(cmpN (schedP p) (s8of i) (k+1)).e by subst hzw hzk hi_a hi_b hi_c hi_d hi_e hi_f hi_g hi_z;exact cmp_ie (by omega) rfl)),(cA (Value.int .i64) (show (j:Int)=(cmpN (schedP p) (s8of i) (k+1)).f by rw [hi_e];rfl)),(cA (Value.int .i64) (show (s:Int)=(cmpN (schedP p) (s8of i) (k+1)).g by rw [hi_f];rfl)),(cA (Value.int .i64) (show (t:Int)=(cmpN (schedP p) (s8of i) (k+1)).z by rw [hi_g];rfl)),(cA (Value.int .i64) (show ((((k:Nat):Int)+1):Int)=(((k+1):Nat):Int) by omega)),trivial⟩
    · exact fun u=>⟨(k+1),(cmpN (schedP p) (s8of i) (k+1)).a,(cmpN (schedP p) (s8of i) (k+1)).b,(cmpN (schedP p) (s8of i) (k+1)).c,(cmpN (schedP p) (s8of i) (k+1)).d,(cmpN (schedP p) (s8of i) (k+1)).e,(cmpN (schedP p) (s8of i) (k+1)).f,(cmpN (schedP p) (s8of i) (k+1)).g,(cmpN (schedP p) (s8of i) (k+1)).z,u,rfl,bS,((((((((Ch.refl (fun k=>A.heap.size≤k) A).ext T (fun k hk=>hk)).extk aE).extk aF).extk aG).extk aH).extk aI).extk aJ),(by omega),(by first|rfl|assumption),(by first|rfl|assumption),(by first|rfl|assumption),(by first|rfl|assumption),(by first|rfl|assumption),(by first|rfl|assumption),(by first|rfl|assumption),(by first|rfl|assumption)⟩
    · show (64 - (((k+1):Nat):Int)).toNat < (64 - ((k:Nat):Int)).toNat;omega

def R_24_22 (w:World) (v:Value) (x:(List Int)×(List UInt8)):Prop:=∃ (a:Option Addr) (b:Nat) (d:Option Addr) (e:Nat),v=.tuple #[.slice a x.1.length b,.slice d x.2.length e]∧Rd w 1 (.slice a x.1.length b) x.1.length (x.1.map iV)∧x.1.length≤1073741824∧Rd w 1 (.slice d x.2.length e) x.2.length (x.2.map bV)∧x.2.length≤1073741824
theorem cicompressAll (e:World) (y:Value) (b:List Int) (L:R_24 e y b) (A:Value) (a:List UInt8) (M:R_22 e A a) :Fn Try.prog 74 #[y,A] e (fun v g=>Keep e g∧R_24_22 g v (compAll b a)):=by
 obtain ⟨o,p,rfl,N,O⟩:=L
 obtain ⟨q,r,rfl,P,Q⟩:=M
 refine fn_ofS (n:=17) [(vs o b.length p),(vs q a.length r)] Try.func74 rfl rfl ?_
 refine sr ?_
 refine aw (vs none 0 0) ?_
 refine aw (vs none 0 0) ?_
 refine wl_nil<|wq_then<|wc_seq<|wc_block ?_
 have B:(b:List Int)=foldK b a 0:=by rfl
 have C:(a:List UInt8)=a.drop (64*0):=by rfl
 refine wc_loopP [(0,(.slice o (foldK b a 0).length p)),(1,(.slice q (a.drop (64*0)).length r)),(4,(vs none 0 0)),(5,(vs none 0 0))] ⟨(cA (fun l:List Int=>Value.slice o l.length p) B),(cA (fun l:List UInt8=>Value.slice q l.length r) C),rfl,rfl,trivial⟩ (fun e' g=>∃ (k:Nat) (D:Env) (h:Option Addr) (i:Nat) (f:Option Addr) (d:Nat),e'=pt D [(0,(.slice h (foldK b a k).length i)),(1,(.slice f (a.drop (64*k)).length d)),(4,(vs none 0 0)),(5,(vs none 0 0))]∧Ch (fun k=>e.heap.size≤k) e g∧Ch (fun k=>e.heap.size≤k) e g∧64*k≤a.length∧(Rd g 1 (.slice h (foldK b a k).length i) (foldK b a k).length ((foldK b a k).map iV)∧(foldK b a k).length≤1073741824)∧(Rd g 1 (.slice f (a.drop (64*k)).length d) (a.drop (64*k)).length ((a.drop (64*k)).map bV)∧(a.drop (64*k)).length≤1073741824)) (fun e' _=>(lenOf (e' 1))) ?_ ?_
 ·exact fun u=>⟨0,u,o,p,q,r,rfl,(Ch.base e),(Ch.refl (fun k=>e.heap.size≤k) e),(by omega),(B ▸ ⟨N,O⟩),(C ▸ ⟨P,Q⟩)⟩
 ·rintro _ E ⟨k,D,h,i,f,d,rfl,F,R,ab,⟨G,H⟩,⟨j,w⟩⟩
  have hdl:(a.drop (64*k)).length=a.length - 64*k:=List.length_drop
  refine wc_seq<|sr ?_
  refine mw (vs f (a.drop (64*k)).length d) ?_
  refine ln wN slTy_22 j ?_
  refine pu (vb (decide (64≤((a.drop (64*k)).length:Int)))) wN ?_
  refine n2 ?_
  rcases bf (decide (64≤((a.drop (64*k)).length:Int))) with m|m
  ·have ac:=dF m
   refine cf m ?_
   refine wc_exit<|wq_then_exit<|wq_then_exit<|wq_blk_exit<|wq_then<|sr ?_
   refine mw (vs h (foldK b a k).length i) ?_
   refine mw (vs f (a.drop (64*k)).length d) ?_
   refine aw (vs h (foldK b a k).length i) ?_
   refine aw (vs f (a.drop (64*k)).length d) ?_
   refine n3 ?_
   refine ret_2 (.inl rfl) (vs h (foldK b a k).length i) (vs f (a.drop (64*k)).length d) rfl rfl rfl ?_
   refine ⟨F.keep0,?_⟩
   have S:compAll b a=((foldK b a k),(a.drop (64*k))):=by exact compAll_t (by omega) (by omega)
   rw [S]
   exact ⟨_,_,_,_,rfl,G,H,j,w⟩
  have ad:=dT m
  refine ct m ?_
  refine wc_skip<|wq_then<|wc_block<|sr ?_
  refine mw (vs h (foldK b a k).length i) ?_
  refine mw (vs f (a.drop (64*k)).length d) ?_
  refine slv ((a.drop (64*k)).take 64) 0 64 wN slTy_22 j (by first|omega|(simp <;> omega)) (by first|omega|(simp <;> omega)) (by first|rfl|(simp;done)|(rw [List.take_of_length_le (by first|(simp;done)|(simp;omega))])) rfl rfl rfl rfl (.inl ⟨rfl,rfl⟩) (.inr ⟨_,_,_,rfl,rfl,by omega⟩) ?_
  have T:0≤64:=(by first|omega|(simp <;> omega))
  have V:64≤(a.drop (64*k)).length:=(by first|omega|(simp <;> omega))
  refine cl wN (ciCompress E _ (foldK b a k) (mR_24 G H) _ ((a.drop (64*k)).take 64) (mR_22 (Rd.subV (x':=((a.drop (64*k)).take 64)) j T V (by first|rfl|(simp;done)|(rw [List.take_of_length_le (by first|(simp;done)|(simp;omega))]))) (nT (by simp only [List.length_take,List.length_drop];omega) w))) ?_
  rintro _ ae ⟨x,⟨s,t,rfl,W,X,af⟩⟩
  have Y:=F.extk x
  refine aw (vs s (compress (foldK b a k) ((a.drop (64*k)).take 64)).length t) ?_
  refine wl_nil<|wq_then<|wc_region ?_
  refine mw (vs f (a.drop (64*k)).length d) ?_
  have I:=(j.kp x)
  refine slv ((a.drop (64*k)).drop 64) 64 ((a.drop (64*k)).length) wN slTy_22 I (by first|omega|(simp <;> omega)) (by first|omega|(simp <;> omega)) (by first|rfl|(simp;done)|(rw [List.take_of_length_le (by first|(simp;done)|(simp;omega))])) rfl rfl rfl rfl (.inr ⟨_,_,_,rfl,rfl,by omega⟩) (.inl ⟨rfl,rfl⟩) ?_
  have Z:64≤((a.drop (64*k)).length):=(by first|omega|(simp <;> omega))
  have aa:((a.drop (64*k)).length)≤(a.drop (64*k)).length:=(by first|omega|(simp <;> omega))
  refine aw (vs (subA f d 64 1) ((a.drop (64*k)).drop 64).length (d - 64)) ?_
  refine wl_nil<|wq_blk_normal ?_
  have J:((compress (foldK b a k) ((a.drop (64*k)).take 64)):List Int)=foldK b a (k+1):=by rfl
  have K:(((a.drop (64*k)).drop 64):List UInt8)=a.drop (64*(k+1)):=by rw [List.drop_drop];congr 1
  refine wq_loopP (w0:=E) [(0,(.slice s (foldK b a (k+1)).length t)),(1,(.slice (subA f d 64 1) (a.drop (64*(k+1))).length (d - 64))),(4,(vs none 0 0)),(5,(vs none 0 0))] ?_ ?_ ?_
  · exact ⟨(cA (fun l:List Int=>Value.slice s l.length t) J),(cA (fun l:List UInt8=>Value.slice (subA f d 64 1) l.length (d - 64)) K),rfl,rfl,trivial⟩
  · exact fun u=>⟨(k+1),u,s,t,(subA f d 64 1),(d - 64),rfl,Y,(((Ch.refl (fun k=>e.heap.size≤k) e).ext R (fun k hk=>hk)).extk x),(by omega),(J ▸ ⟨(Rd.of_own W),X⟩),(K ▸ ⟨(Rd.subV (x':=((a.drop (64*k)).drop 64)) I Z aa (by first|rfl|(simp;done)|(rw [List.take_of_length_le (by first|(simp;done)|(simp;omega))]))),(nT (by simp only [List.length_take,List.length_drop];omega) w)⟩)⟩
  · show (a.drop (64*(k+1))).length < (a.drop (64*k)).length;simp only [List.length_drop];omega

theorem mR_91 {w:World} {x:PHash} {a:Option Addr} {b:Nat} {d:Option Addr} {e:Nat} (f:Rd w 1 (.slice a x.H.length b) x.H.length (x.H.map iV)) (g:x.H.length≤1073741824) (h:Rd w 1 (.slice d x.Held.length e) x.Held.length (x.Held.map bV)) (i:x.Held.length≤1073741824):R_91 w (va (L_91 x a b d e)) x:=⟨_,_,_,_,rfl,f,g,h,i⟩
def KO_22 (w:World) (lo:Nat) (v:Value) (x:(List UInt8)) (k:Option Addr×Nat→Prop):Prop:=∃ (a:Option Addr) (b:Nat),v=.slice a x.length b∧w.ownsRow lo 5 1 (.slice a x.length b) x.length (x.map bV)∧x.length≤1073741824∧Aps [(a,b)]∧k (a,b)
theorem mR_56 {w:World} {x:List (List UInt8)} {a:Option Addr} {b:Nat} (d:RLv LT_22 w 1073741824 a x.length b x) (e:x.length≤1073741824):R_56 w (vs a x.length b) x:=⟨_,_,rfl,d,e⟩
def i_HashAdd (a:PHash) (b:List UInt8):(PHash):=bif (i_HashOk a) then (bif (decide ((1048576 - a.N) < (b.length:Int))) then (a) else ({H:=(compAll a.H (joinB [a.Held,b])).1,Held:=(((compAll a.H (joinB [a.Held,b])).2)),N:=(a.N+(b.length:Int)):PHash})) else (a)
theorem ciHashAdd (K:World) (av:Value) (a:PHash) (aM:R_91 K av a) (ax:Value) (b:List UInt8) (aN:R_22 K ax b) :Fn Try.prog 59 #[av,ax] K (fun v M=>Keep K M∧O_91 M K.heap.size v (i_HashAdd a b)):=by
 obtain ⟨f,s,t,u,rfl,ae,af,ah,ai⟩:=aM
 obtain ⟨x,y,rfl,aj,aO⟩:=aN
 refine fn_ofS (n:=50) [(va (L_91 a f s t u)),(vs x b.length y)] Try.func59 rfl rfl ?_
 refine sr ?_
 refine bx (L_91 a f s t u) wN ?_
 intro l A c6 c7 E Q
 refine al [(vs none 0 0),(vs none 0 0),(vi 0)] wN zero_91 ?_
 intro aP aQ ay R B az
 have S:=((Ch.base K).extk E).extk B
 refine n4 ?_
 refine jT1 [(1,(vs x b.length y)),(2,(vp l 0)),(4,(vp aP 0))] (i_HashAdd a b=a) ?_ fun a1=>?_
 ·intro aR F C c8
  have ak:=S.extk C
  refine wc_seq ?_
  refine wc_drawT ([(18,[],[],(fun _ v w=>∃ a0:Addr,v=.slice (some a0) 0 0∧w.ownsRow F.heap.size 3 1 (.slice (some a0) 0 0) 0 [])),(19,[],[],(fun _ v _=>v=(vp l 0))),(20,[],[1],(fun _ v _=>v=(vs f a.H.length s))),(21,[],[0,1,2],(fun _ v w=>∃ (f:Option Addr) (p:Nat),v=.slice f a.H.length p∧w.ownsRow F.heap.size 3 1 (.slice f a.H.length p) a.H.length (a.H.map iV)∧a.H.length≤1073741824∧Aps [(f,p)])),(22,[],[],(fun _ v _=>v=(vp l 1))),(23,[],[4],(fun _ v _=>v=(vs t a.Held.length u))),(24,[21],[0,1,2,3,4,5],(fun e v w=>KO_22 w F.heap.size v a.Held (fun am=>Ap (sp (e 21)) am))),(25,[],[],(fun _ v _=>v=(vp l 2))),(26,[],[7],(fun _ v _=>v=(vi a.N)))]:GV) (fun _ M=>Keep F M) [] mixed rfl (by kernel_rfl) (by kernel_rfl) ?_ (fun _ _ h=>h) (fun _ _ _ _ h _ k=>h.trans k) trivial ?_ ?_ ?_
  ·exact ⟨(fun e v w A h hk=>by obtain ⟨i,he,j⟩:=h;exact ⟨i,he,own_kp j hk⟩),hE,⟨hV,hE,⟨hV,hE,⟨(fun e v w A h hk=>by obtain ⟨i,q,he,j,r,hap⟩:=h;exact ⟨i,q,he,own_kp j hk,r,hap⟩),hE,⟨hV,hE,⟨hV,hE,⟨(fun e v w A h hk=>by obtain ⟨i,q,he,j,r,hap,hx⟩:=h;exact ⟨i,q,he,own_kp j hk,r,hap,hx⟩),(fun O P v w hx h=>by have aS:=hx 21 (by simp);simp only [aS] at h;exact h),⟨hV,hE,⟨hV,hE,trivial⟩⟩⟩⟩⟩⟩⟩⟩⟩
  ·exact trivial
  ·refine ⟨?_,⟨?_,⟨?_,⟨?_,⟨?_,⟨?_,⟨?_,⟨?_,⟨?_,trivial⟩⟩⟩⟩⟩⟩⟩⟩⟩
   ·intro _ d aT _
    rintro _ _ _ _ _ _ _ _ _
    refine sw ?_
    refine wl_lit0 wN rfl rfl slTy_24 (fun w=>by kernel_rfl) ?_
    intro c9 g aU aV
    exact wl_finT aU ⟨_,rfl,own_lo aV aT.size⟩
   ·intro _ d cC _
    rintro _ _ _ _ _ _ _ _ _
    refine sw ?_
    refine pu (vp l 0) wN ?_
    exact f1
   ·intro _ d aW _
    rintro _ _ rfl _ _ _ _ _ _ _
    refine sw ?_
    have aX:=(((Q.kp B).kp C).kp aW)
    refine ld (vs f a.H.length s) wN isAgg_24 aX ?_
    exact f1
   ·intro _ d a2 _
    have aY:=ak.extk a2
    rintro _ ⟨cD,rfl,aZ⟩ _ rfl _ rfl _ _ _ _ _ _
    refine sw ?_
    refine ap0I a.H wN slTy_24 aZ (ae.from0 aY) a2.size ?_
    intro cE cF g ba bb cG
    exact wl_finT ba ⟨_,_,rfl,bb,af,⟨trivial,trivial⟩⟩
   ·intro _ d cH _
    rintro _ _ _ _ _ _ _ _ _
    refine sw ?_
    refine pu (vp l 1) wN ?_
    exact f1
   ·intro _ d bc _
    rintro _ _ _ _ _ rfl _ _ _ _
    refine sw ?_
    have bd:=(((Q.kp B).kp C).kp bc)
    refine ld (vs t a.Held.length u) wN isAgg_22 bd ?_
    exact f1
   ·intro _ d a3 _
    have be:=ak.extk a3
    rintro _ ⟨cI,rfl,cJ⟩ _ rfl _ rfl _ ⟨cK,cL,rfl,bg,cM,-⟩ _ rfl _ rfl _ _ _
    refine sw ?_
    refine cl wN (ciclone d _ a.Held (mR_22 (ah.from0 be) ai)) ?_
    rintro _ g ⟨bh,⟨cN,cO,rfl,a4,bi,bj⟩⟩
    exact wl_finT bh ⟨_,_,rfl,(own_lo a4 a3.size),bi,bj,(Ap.lt bg a4 (Nat.le_refl _))⟩
   ·intro _ d cP _
    rintro _ _ _ _ _ _ _ _ _
    refine sw ?_
    refine pu (vp l 2) wN ?_
    exact f1
   ·intro _ d bk _
    rintro _ _ _ _ _ _ _ _ rfl _
    refine sw ?_
    have bl:=(((Q.kp B).kp C).kp bk)
    refine ld (vi a.N) wN isAgg_3 bl ?_
    exact f1
  ·intro _ d a5
   rintro _ ⟨cQ,rfl,cR⟩ _ rfl _ rfl _ ⟨T,V,rfl,a6,bm,-⟩ _ rfl _ rfl _ ⟨W,X,rfl,a7,bn,cS,bo⟩ _ rfl _ rfl
   refine sw ?_
   refine pu (va (L_91 a T V W X)) wN ?_
   have bp:=((az.kp C).kp a5)
   refine sv (L_91 a T V W X) wN sizeOf_91 bp ?_
   intro g an bq cT
   have br:=(ak.extk a5).ext an (fun k hk=>by subst hk;exact nT E.size ay)
   refine n1 ?_
   have bu:=(own_ch a6 an (ne1 a6 (nL R C.size)))
   have bv:=(own_ch a7 an (ne1 a7 (nL R C.size)))
   refine ret_1 (.inl rfl) (va (L_91 a T V W X)) rfl (rv_c (L_91 a T V W X) rfl bq isAgg_91 sizeOf_91) ?_
   refine ⟨br.keep0,?_⟩
   rw [aR]
   exact ⟨_,_,_,_,rfl,(own_lo bu (z3 E B C)),bm,(own_lo bv (z3 E B C)),bn,⟨⟨bo,trivial⟩,⟨trivial,trivial⟩⟩⟩
 have a8:=(Q.kp B)
 refine lN (L_91 a f s t u) wN isAgg_91 sizeOf_91 a8 ?_
 refine cl wN (ciHashOk aQ _ a (mR_91 (ae.from0 S) af (ah.from0 S) ai)) ?_
 rintro _ F ⟨D,rfl⟩
 have Y:=S.extk D
 refine pu (vb (!(i_HashOk a))) wN ?_
 refine mw (vb (!(i_HashOk a))) ?_
 rcases bf (i_HashOk a) with o|o
 ·iterate 6 refine sk (cA not o) ?_
  refine pk (vb true) wN (cA not o) ?_
  refine n2 ?_
  refine ct (Eq.refl true) ?_
  have bw:i_HashAdd a b=a:=by simp only [i_HashAdd,o,cond_true,cond_false]
  exact wj (a1 bw _ D)
 have cU:=hashOk_t o
 refine mv (vs x b.length y) (wS (cA not o)) ?_
 refine ln (wS (cA not o)) slTy_22 (aj.from0 Y) ?_
 refine pu (vp l 2) (wS (cA not o)) ?_
 have Z:=(a8.kp D)
 refine ld (vi a.N) (wS (cA not o)) isAgg_3 Z ?_
 refine ar (1048576 - a.N) (wS (cA not o)) ?_
 refine pu (vb (decide ((1048576 - a.N) < (b.length:Int)))) (wS (cA not o)) ?_
 refine pf (vb (decide ((1048576 - a.N) < (b.length:Int)))) wN (cA not o) ?_
 refine n2 ?_
 rcases bt (decide ((1048576 - a.N) < (b.length:Int))) with G|G
 ·have cV:=dT G
  refine ct G ?_
  have bz:i_HashAdd a b=a:=by simp only [i_HashAdd,o,G,cond_true,cond_false]
  exact wj (a1 bz _ D)
 have cW:=dF G
 refine cf G ?_
 refine wc_skip<|wq_then<|wc_seq ?_
 refine wc_draw ([(29,[],[],(fun _ v _=>v=(vp l 0))),(30,[],[0],(fun _ v _=>v=(vs f a.H.length s))),(31,[],[],(fun _ v _=>v=(vp l 1))),(32,[],[2],(fun _ v _=>v=(vs t a.Held.length u))),(33,[],[],(fun _ v _=>v=(vs x b.length y))),(34,[],[2,3,4],(fun _ v w=>∃ (f:Option Addr) (p:Nat),v=.slice f 2 p∧w.ownsRow F.heap.size 22 1 (.slice f 2 p) 2 [(vs t a.Held.length u),(vs x b.length y)])),(35,[],[2,3,4,5],(fun _ v w=>O_22 w F.heap.size v (joinB [a.Held,b]))),(36,[],[0,1,2,3,4,5,6],(fun _ v w=>∃ (f:Option Addr) (p:Nat) (a9:Option Addr) (s:Nat),v=.tuple #[.slice f ((compAll a.H (joinB [a.Held,b])).1).length p,.slice a9 ((compAll a.H (joinB [a.Held,b])).2).length s]∧Rd w 1 (.slice f ((compAll a.H (joinB [a.Held,b])).1).length p) ((compAll a.H (joinB [a.Held,b])).1).length (((compAll a.H (joinB [a.Held,b])).1).map iV)∧((compAll a.H (joinB [a.Held,b])).1).length≤1073741824∧Rd w 1 (.slice a9 ((compAll a.H (joinB [a.Held,b])).2).length s) ((compAll a.H (joinB [a.Held,b])).2).length (((compAll a.H (joinB [a.Held,b])).2).map bV)∧((compAll a.H (joinB [a.Held,b])).2).length≤1073741824)),(28,[36],[0,1,2,3,4,5,6,7],(fun e v _=>v=(.tuple #[(tupAt (e 36) 0),(tupAt (e 36) 1)]))),(37,[36],[0,1,2,3,4,5,6,7,8],(fun e v _=>v=(tupAt (e 36) 0))),(38,[36],[0,1,2,3,4,5,6,7,8],(fun e v _=>v=(tupAt (e 36) 1))),(5,[36],[0,1,2,3,4,5,6,7,8,9],(fun e v _=>v=(tupAt (e 36) 0)))]:GV) mixed rfl (by kernel_rfl) (by kernel_rfl) ?_ ?_ ?_
 ·exact ⟨hV,hE,⟨hV,hE,⟨hV,hE,⟨hV,hE,⟨hV,hE,⟨(fun e v w A h hk=>by obtain ⟨i,q,he,j⟩:=h;exact ⟨i,q,he,own_kp j hk⟩),hE,⟨(fun e v w A h hk=>by obtain ⟨i,q,he,j,r,hap⟩:=h;exact ⟨i,q,he,own_kp j hk,r,hap⟩),hE,⟨(fun e v w A h hk=>by obtain ⟨i,q,b0,b1,he,j,r,b2,b3⟩:=h;exact ⟨i,q,b0,b1,he,Rd.kp j hk,r,Rd.kp b2 hk,b3⟩),hE,⟨hV,(fun O P v w hx h=>by have I:=hx 36 (by simp);simp only [I] at h;exact h),⟨hV,(fun O P v w hx h=>by have I:=hx 36 (by simp);simp only [I] at h;exact h),⟨hV,(fun O P v w hx h=>by have I:=hx 36 (by simp);simp only [I] at h;exact h),⟨hV,(fun O P v w hx h=>by have I:=hx 36 (by simp);simp only [I] at h;exact h),trivial⟩⟩⟩⟩⟩⟩⟩⟩⟩⟩⟩⟩
 ·refine ⟨?_,⟨?_,⟨?_,⟨?_,⟨?_,⟨?_,⟨?_,⟨?_,⟨?_,⟨?_,⟨?_,⟨?_,trivial⟩⟩⟩⟩⟩⟩⟩⟩⟩⟩⟩⟩
  ·intro d cX
   rintro _ _ _ _ _ _ _ _ _ _ _ _
   refine sw ?_
   refine pu (vp l 0) wN ?_
   exact f2
  ·intro d b4
   rintro _ rfl _ _ _ _ _ _ _ _ _ _ _
   refine sw ?_
   have b5:=(Z.kp b4)
   refine ld (vs f a.H.length s) wN isAgg_24 b5 ?_
   exact f2
  ·intro d cY
   rintro _ _ _ _ _ _ _ _ _ _ _ _
   refine sw ?_
   refine pu (vp l 1) wN ?_
   exact f2
  ·intro d b6
   rintro _ _ _ rfl _ _ _ _ _ _ _ _ _
   refine sw ?_
   have b7:=(Z.kp b6)
   refine ld (vs t a.Held.length u) wN isAgg_22 b7 ?_
   exact f2
  ·intro d cZ
   rintro _ _ _ _ _ _ _ _ _ _ _ _
   refine sw ?_
   refine mw (vs x b.length y) ?_
   exact f2
  ·intro d b8
   rintro _ _ _ rfl _ rfl _ rfl _ _ _ _ _ _ _
   refine sw ?_
   refine wl_lit [(vs t a.Held.length u),(vs x b.length y)] wN rfl rfl slTy_56 (m:=2) rfl (by simp only [maxLen];omega) (fun w=>by kernel_rfl) ?_
   intro da g b9 aA
   obtain ⟨db,dc,rfl⟩:=own_form aA
   exact wl_fin b9 ⟨_,_,rfl,own_lo aA b8.size⟩
  ·intro d aB
   have aC:=Y.extk aB
   rintro _ _ _ rfl _ rfl _ rfl _ ⟨dd,de,rfl,bA⟩ _ _ _ _ _ _
   refine sw ?_
   refine cl wN (cijoined d _ [a.Held,b] (mR_56 (RLv.mk (L:=LT_22) [(a.Held,[(t,u)]),(b,[(x,y)])] (Rd.of_own bA) rfl ⟨⟨⟨(ah.from0 aC),ai⟩,trivial⟩,⟨⟨⟨(aj.from0 aC),aO⟩,trivial⟩,trivial⟩⟩ (by first|decide|exact Nat.le_of_ble_eq_true rfl)) (by first|decide|exact Nat.le_of_ble_eq_true rfl)) (by first|omega|(rw [joinB_l2];omega)|(rw [joinB_l2];simp only [List.length_cons,List.length_nil,maskB_len];omega)|(rw [joinB_l3];simp only [List.length_cons,List.length_nil,maskB_len];omega)|(simp only [joinB,List.flatten_cons,List.flatten_nil,List.length_append,List.length_cons,List.length_nil,maskB_len];omega))) ?_
   rintro _ g ⟨bB,⟨df,dg,rfl,bC,bD,bE⟩⟩
   have dh:=(show (joinB [a.Held,b]).length=a.Held.length+b.length by simp only [joinB,List.flatten_cons,List.flatten_nil,List.length_append,List.length_cons,List.length_nil];omega)
   exact wl_fin bB ⟨_,_,rfl,(own_lo bC aB.size),bD,bE⟩
  ·intro d bF
   have bG:=Y.extk bF
   rintro _ rfl _ rfl _ rfl _ rfl _ rfl _ ⟨di,dj,rfl,dk⟩ _ ⟨dl,dm,rfl,bH,bI,dn⟩
   have dp:=(show (joinB [a.Held,b]).length=a.Held.length+b.length by simp only [joinB,List.flatten_cons,List.flatten_nil,List.length_append,List.length_cons,List.length_nil];omega)
   rintro _ _ _ _ _
   refine sw ?_
   refine cl wN (cicompressAll d _ a.H (mR_24 (ae.from0 bG) af) _ (joinB [a.Held,b]) (mR_22 (Rd.of_own bH) bI)) ?_
   rintro _ g ⟨bJ,⟨dq,dr,ds,dt,rfl,bK,bL,bM,bN⟩⟩
   exact wl_fin bJ ⟨_,_,_,_,rfl,bK,bL,bM,bN⟩
  ·intro d du
   rintro _ rfl _ rfl _ rfl _ rfl _ rfl _ ⟨dv,dw,rfl,dx⟩ _ ⟨dy,dz,rfl,_⟩
   have d0:=(show (joinB [a.Held,b]).length=a.Held.length+b.length by simp only [joinB,List.flatten_cons,List.flatten_nil,List.length_append,List.length_cons,List.length_nil];omega)
   rintro _ ⟨bO,bP,bQ,bR,rfl,_⟩ _ _ _ _
   refine sw ?_
   refine mw (.tuple #[(vs bO ((compAll a.H (joinB [a.Held,b])).1).length bP),(vs bQ ((compAll a.H (joinB [a.Held,b])).2).length bR)]) ?_
   exact f2
  ·intro d d1
   rintro _ rfl _ rfl _ rfl _ rfl _ rfl _ ⟨d2,d3,rfl,d4⟩ _ ⟨d5,d6,rfl,_⟩
   have d7:=(show (joinB [a.Held,b]).length=a.Held.length+b.length by simp only [joinB,List.flatten_cons,List.flatten_nil,List.length_append,List.length_cons,List.length_nil];omega)
   rintro _ ⟨bS,bT,d8,d9,rfl,_⟩ _ rfl _ _ _
   refine sw ?_
   refine pu (vs bS ((compAll a.H (joinB [a.Held,b])).1).length bT) wN ?_
   exact f2
  ·intro d dA
   rintro _ rfl _ rfl _ rfl _ rfl _ rfl _ ⟨dB,dC,rfl,dD⟩ _ ⟨dE,dG,rfl,_⟩
   have dH:=(show (joinB [a.Held,b]).length=a.Held.length+b.length by simp only [joinB,List.flatten_cons,List.flatten_nil,List.length_append,List.length_cons,List.length_nil];omega)
   rintro _ ⟨dI,dJ,bU,bW,rfl,_⟩ _ rfl _ _ _
   refine sw ?_
   refine pu (vs bU ((compAll a.H (joinB [a.Held,b])).2).length bW) wN ?_
   exact f2
  ·intro d dK
   rintro _ rfl _ rfl _ rfl _ rfl _ rfl _ ⟨dL,dM,rfl,dN⟩ _ ⟨dO,dP,rfl,_⟩
   have dQ:=(show (joinB [a.Held,b]).length=a.Held.length+b.length by simp only [joinB,List.flatten_cons,List.flatten_nil,List.length_append,List.length_cons,List.length_nil];omega)
   rintro _ ⟨bX,bY,dR,dS,rfl,_⟩ _ rfl _ rfl _ _
   refine sw ?_
   refine aw (vs bX ((compAll a.H (joinB [a.Held,b])).1).length bY) ?_
   exact f2
 ·intro d J
  have aD:=Y.extk J
  rintro _ rfl _ rfl _ rfl _ rfl _ rfl _ ⟨dU,dV,rfl,dW⟩ _ ⟨dX,dY,rfl,_⟩
  have dZ:=(show (joinB [a.Held,b]).length=a.Held.length+b.length by simp only [joinB,List.flatten_cons,List.flatten_nil,List.length_append,List.length_cons,List.length_nil];omega)
  rintro _ ⟨aE,aF,ao,ap,rfl,bZ,ca,cb,cc⟩ _ rfl _ rfl _ rfl _ rfl
  refine sw ?_
  refine aw (vs ao ((compAll a.H (joinB [a.Held,b])).2).length ap) ?_
  refine wl_nil<|wq_then<|wc_seq ?_
  refine wc_drawT ([(39,[],[],(fun _ v w=>∃ a0:Addr,v=.slice (some a0) 0 0∧w.ownsRow d.heap.size 3 1 (.slice (some a0) 0 0) 0 [])),(40,[],[],(fun _ v _=>v=(vs aE ((compAll a.H (joinB [a.Held,b])).1).length aF))),(41,[],[0,1],(fun _ v w=>∃ (f:Option Addr) (p:Nat),v=.slice f ((compAll a.H (joinB [a.Held,b])).1).length p∧w.ownsRow d.heap.size 3 1 (.slice f ((compAll a.H (joinB [a.Held,b])).1).length p) ((compAll a.H (joinB [a.Held,b])).1).length (((compAll a.H (joinB [a.Held,b])).1).map iV)∧((compAll a.H (joinB [a.Held,b])).1).length≤1073741824∧Aps [(f,p)])),(42,[],[],(fun _ v _=>v=(vs ao ((compAll a.H (joinB [a.Held,b])).2).length ap))),(43,[41],[0,1,2,3],(fun e v w=>KO_22 w d.heap.size v ((compAll a.H (joinB [a.Held,b])).2) (fun am=>Ap (sp (e 41)) am))),(44,[],[],(fun _ v _=>v=(vp l 2))),(45,[],[5],(fun _ v _=>v=(vi a.N))),(46,[],[],(fun _ v _=>v=(vs x b.length y))),(47,[],[7],(fun _ v _=>v=(vi (b.length:Int)))),(48,[],[5,6,7,8],(fun _ v _=>v=(vi (a.N+(b.length:Int)))))]:GV) (fun _ M=>Keep d M) [] mixed rfl (by kernel_rfl) (by kernel_rfl) ?_ (fun _ _ h=>h) (fun _ _ _ _ h _ k=>h.trans k) trivial ?_ ?_ ?_
  ·exact ⟨(fun e v w A h hk=>by obtain ⟨i,he,j⟩:=h;exact ⟨i,he,own_kp j hk⟩),hE,⟨hV,hE,⟨(fun e v w A h hk=>by obtain ⟨i,q,he,j,r,hap⟩:=h;exact ⟨i,q,he,own_kp j hk,r,hap⟩),hE,⟨hV,hE,⟨(fun e v w A h hk=>by obtain ⟨i,q,he,j,r,hap,hx⟩:=h;exact ⟨i,q,he,own_kp j hk,r,hap,hx⟩),(fun O P v w hx h=>by have cd:=hx 41 (by simp);simp only [cd] at h;exact h),⟨hV,hE,⟨hV,hE,⟨hV,hE,⟨hV,hE,⟨hV,hE,trivial⟩⟩⟩⟩⟩⟩⟩⟩⟩⟩
  ·exact trivial
  ·refine ⟨?_,⟨?_,⟨?_,⟨?_,⟨?_,⟨?_,⟨?_,⟨?_,⟨?_,⟨?_,trivial⟩⟩⟩⟩⟩⟩⟩⟩⟩⟩
   ·intro _ g ce _
    rintro _ _ _ _ _ _ _ _ _ _
    refine sw ?_
    refine wl_lit0 wN rfl rfl slTy_24 (fun w=>by kernel_rfl) ?_
    intro ea aq cg ci
    exact wl_finT cg ⟨_,rfl,own_lo ci ce.size⟩
   ·intro _ g ec _
    rintro _ _ _ _ _ _ _ _ _ _
    refine sw ?_
    refine mw (vs aE ((compAll a.H (joinB [a.Held,b])).1).length aF) ?_
    exact f1
   ·intro _ g aG _
    rintro _ ⟨ed,rfl,cj⟩ _ rfl _ _ _ _ _ _ _ _
    refine sw ?_
    have ck:=(bZ.kp aG)
    refine ap0I ((compAll a.H (joinB [a.Held,b])).1) wN slTy_24 cj ck aG.size ?_
    intro ee ef aq cm cn eg
    exact wl_finT cm ⟨_,_,rfl,cn,ca,⟨trivial,trivial⟩⟩
   ·intro _ g eh _
    rintro _ _ _ _ _ _ _ _ _ _
    refine sw ?_
    refine mw (vs ao ((compAll a.H (joinB [a.Held,b])).2).length ap) ?_
    exact f1
   ·intro _ g aH _
    rintro _ ⟨ej,rfl,ek⟩ _ rfl _ ⟨em,en,rfl,co,eo,-⟩ _ rfl _ _ _ _ _ _
    refine sw ?_
    have cp:=(cb.kp aH)
    refine cl wN (ciclone g _ ((compAll a.H (joinB [a.Held,b])).2) (mR_22 cp cc)) ?_
    rintro _ aq ⟨cq,⟨ep,er,rfl,aI,cr,cs⟩⟩
    exact wl_finT cq ⟨_,_,rfl,(own_lo aI aH.size),cr,cs,(Ap.lt co aI (Nat.le_refl _))⟩
   ·intro _ g es _
    rintro _ _ _ _ _ _ _ _ _ _
    refine sw ?_
    refine pu (vp l 2) wN ?_
    exact f1
   ·intro _ g cu _
    rintro _ _ _ _ _ _ rfl _ _ _ _
    refine sw ?_
    have cv:=((Z.kp J).kp cu)
    refine ld (vi a.N) wN isAgg_3 cv ?_
    exact f1
   ·intro _ g et _
    rintro _ _ _ _ _ _ _ _ _ _
    refine sw ?_
    refine mw (vs x b.length y) ?_
    exact f1
   ·intro _ g cw _
    have cx:=aD.extk cw
    rintro _ _ _ _ _ _ _ _ rfl _ _
    refine sw ?_
    refine ln wN slTy_22 (aj.from0 cx) ?_
    exact f1
   ·intro _ g eu _
    rintro _ _ _ _ _ _ rfl _ rfl _ rfl _ rfl _
    refine sw ?_
    refine ar (a.N+(b.length:Int)) wN ?_
    exact f1
  ·intro _ g aJ
   rintro _ ⟨ew,rfl,ex⟩ _ rfl _ ⟨aa,ab,rfl,aK,cy,-⟩ _ rfl _ ⟨ac,ad,rfl,aL,cz,ey,c0⟩ _ rfl _ rfl _ rfl _ rfl _ rfl
   refine sw ?_
   refine pu (va [(vs aa ((compAll a.H (joinB [a.Held,b])).1).length ab),(vs ac (((compAll a.H (joinB [a.Held,b])).2)).length ad),(vi (a.N+(b.length:Int)))]) wN ?_
   have c1:=(((az.kp D).kp J).kp aJ)
   refine sv [(vs aa ((compAll a.H (joinB [a.Held,b])).1).length ab),(vs ac (((compAll a.H (joinB [a.Held,b])).2)).length ad),(vi (a.N+(b.length:Int)))] wN sizeOf_91 c1 ?_
   intro aq au c2 ez
   have c3:=(aD.extk aJ).ext au (fun k hk=>by subst hk;exact nT E.size ay)
   refine n3 ?_
   have c4:=(own_ch aK au (ne1 aK (nL R (z2 D J))))
   have c5:=(own_ch aL au (ne1 aL (nL R (z2 D J))))
   refine ret_1 (.inl rfl) (va [(vs aa ((compAll a.H (joinB [a.Held,b])).1).length ab),(vs ac (((compAll a.H (joinB [a.Held,b])).2)).length ad),(vi (a.N+(b.length:Int)))]) rfl (rv_c [(vs aa ((compAll a.H (joinB [a.Held,b])).1).length ab),(vs ac (((compAll a.H (joinB [a.Held,b])).2)).length ad),(vi (a.N+(b.length:Int)))] rfl c2 isAgg_91 sizeOf_91) ?_
   refine ⟨c3.keep0,?_⟩
   simp only [i_HashAdd,o,G,cond_true,cond_false]
   exact ⟨_,_,_,_,rfl,(own_lo c4 (z4 E B D J)),cy,(own_lo c5 (z4 E B D J)),cz,⟨⟨c0,trivial⟩,⟨trivial,trivial⟩⟩⟩

theorem ciPutN (e:World) (B:Value) (d:List UInt8) (S:R_22 e B d) (b:Int) (a:Int) (aj:d.length≤1000000):Fn Try.prog 39 #[B,(vi b),(vi a)] e (fun v o=>Keep e o∧O_22 o e.heap.size v (putN d b a)):=by
 obtain ⟨C,D,rfl,T,E⟩:=S
 refine fn_ofS (n:=35) [(vs C d.length D),(vi b),(vi a)] Try.func39 rfl rfl ?_
 refine sr ?_
 refine aw (vs none 0 0) ?_
 refine nx ?_
 refine wl_lit0 wN rfl rfl slTy_22 (fun w=>by kernel_rfl) ?_
 intro ak am y V
 have F:=(Ch.base e).extk y
 refine mw (vs C d.length D) ?_
 refine ap0 d wN slTy_22 V (T.from0 F) y.size ?_
 intro f g A G H an
 have I:=F.extk G
 refine aw (vs f d.length g) ?_
 refine n4 ?_
 refine jT1 [(1,(vi b)),(2,(vi a)),(6,(vs none 0 0)),(7,(vs f d.length g))] (putN d b a=d) ?_ fun J=>?_
 ·intro W K L ao
  have X:=I.extk L
  refine sr ?_
  refine mw (vs f d.length g) ?_
  refine aw (vs f d.length g) ?_
  refine n1 ?_
  have Y:=(own_kp H L)
  refine rt (vs f d.length g) ?_
  refine ⟨X.keep0,?_⟩
  rw [W]
  exact ⟨_,_,rfl,Y,E,⟨trivial,trivial⟩⟩
 refine mw (vi a) ?_
 refine pu (vb (decide (a < 1))) wN ?_
 refine mw (vb (decide (a < 1))) ?_
 rcases bt (decide (a < 1)) with h|h
 ·have ap:=dT h
  iterate 2 refine sk h ?_
  refine pk (vb true) wN h ?_
  refine n2 ?_
  refine ct (Eq.refl true) ?_
  have Z:putN d b a=d:=by first|exact putN_out (by omega)|exact putN_end (by omega) (by omega) (by omega)
  exact wj (J Z _ (Ch.refl _ _))
 have aq:=dF h
 refine mv (vi a) (wS h) ?_
 refine pu (vb (decide (6 < a))) (wS h) ?_
 refine pf (vb (decide (6 < a))) wN h ?_
 refine n2 ?_
 rcases bt (decide (6 < a)) with p|p
 ·have au:=dT p
  refine ct p ?_
  have aa:putN d b a=d:=by first|exact putN_out (by omega)|exact putN_end (by omega) (by omega) (by omega)
  exact wj (J aa _ (Ch.refl _ _))
 have av:=dF p
 refine cf p ?_
 refine y2 ?_
 refine mw (vi a) ?_
 refine ar (a - 1) wN ?_
 refine aw (vi (a - 1)) ?_
 refine wl_nil<|wq_then<|wc_block ?_
 have M:(d:List UInt8)=d++putK b a 0:=by simp [putK]
 refine wc_loopP [(1,(vi b)),(6,(vs none 0 0)),(7,(.slice f (d++putK b a 0).length g)),(8,(vi (a - 1 - ((0:Nat):Int))))] ⟨rfl,rfl,(cA (fun l:List UInt8=>Value.slice f l.length g) M),(cA (Value.int .i64) (show ((a - 1):Int)=(a - 1 - ((0:Nat):Int)) by omega)),trivial⟩ (fun e' o=>∃ (j:Nat) (N:Env) (i:Option Addr) (m:Nat),e'=pt N [(1,(vi b)),(6,(vs none 0 0)),(7,(.slice i (d++putK b a j).length m)),(8,(vi (a - 1 - ((j:Nat):Int))))]∧Ch (fun k=>e.heap.size≤k) e o∧Ch (fun k=>e.heap.size≤k) A o∧((j:Nat):Int)≤a∧(World.ownsRow o e.heap.size 5 1 (.slice i (d++putK b a j).length m) (d++putK b a j).length ((d++putK b a j).map bV)∧(d++putK b a j).length≤1073741824)) (fun e' _=>((intOf (e' 8))+1).toNat) ?_ ?_
 ·exact fun u=>⟨0,u,f,g,rfl,I,(Ch.refl (fun k=>e.heap.size≤k) A),(by omega),(M ▸ ⟨H,E⟩)⟩
 ·rintro _ K ⟨j,N,i,m,rfl,O,P,ax,⟨r,ab⟩⟩
  have hpl:=putK_len b a j
  refine wc_seq<|sr ?_
  refine mw (vi (a - 1 - ((j:Nat):Int))) ?_
  refine pu (vb (decide (0≤(a - 1 - ((j:Nat):Int))))) wN ?_
  refine n2 ?_
  rcases bf (decide (0≤(a - 1 - ((j:Nat):Int)))) with q|q
  ·have ay:=dF q
   refine cf q ?_
   refine wc_exit<|wq_then_exit<|wq_then_exit<|wq_blk_exit<|wq_then<|sr ?_
   refine mw (vs i (d++putK b a j).length m) ?_
   refine aw (vs i (d++putK b a j).length m) ?_
   refine n3 ?_
   refine rt (vs i (d++putK b a j).length m) ?_
   refine ⟨O.keep0,?_⟩
   have ac:putN d b a=(d++putK b a j):=by first|exact putN_out (by omega)|exact putN_end (by omega) (by omega) (by omega)
   rw [ac]
   exact ⟨_,_,rfl,r,ab,⟨trivial,trivial⟩⟩
  have az:=dT q
  refine ct q ?_
  refine wc_skip<|wq_then<|wc_seq<|wc_block<|wc_region ?_
  refine mw (vs i (d++putK b a j).length m) ?_
  refine mw (vi b) ?_
  refine mw (vi (a - 1 - ((j:Nat):Int))) ?_
  refine ar (8*(a - 1 - ((j:Nat):Int))) wN ?_
  refine wl_shr b (8*(a - 1 - ((j:Nat):Int))) wN rfl rfl rfl rfl rfl (by omega) (by omega) ?_
  refine wl_and (b / (2:Int) ^ ((8*(a - 1 - ((j:Nat):Int)))).toNat) 255 256 8 wN rfl rfl (by decide) (by decide) (by decide) (by kernel_rfl) ?_
  refine wl_conv8 ((b / (2:Int) ^ ((8*(a - 1 - ((j:Nat):Int)))).toNat) % 256) wN rfl rfl (by kernel_rfl) ?_
  refine ltB ([(by8 ((b / (2:Int) ^ ((8*(a - 1 - ((j:Nat):Int)))).toNat) % 256))]:List UInt8) wN slTy_22 ?_
  intro a0 a1 a2 s ad
  have ae:=(own_kp r s)
  refine apB (d++putK b a j) ([(by8 ((b / (2:Int) ^ ((8*(a - 1 - ((j:Nat):Int)))).toNat) % 256))]:List UInt8) wN slTy_22 ae (Rd.of_own ad) (z4 y G P s) ?_
  intro t x a3 Q af a4 ah
  have ai:=(O.extk s).ext Q (fun k hk=>nT (Nat.le_refl e.heap.size) (own_lt r k hk).1)
  refine aw (vs t ((d++putK b a j)++([(by8 ((b / (2:Int) ^ ((8*(a - 1 - ((j:Nat):Int)))).toNat) % 256))]:List UInt8)).length x) ?_
  refine wl_nil<|wq_blk_normal<|wq_then<|wc_region ?_
  refine mw (vi (a - 1 - ((j:Nat):Int))) ?_
  refine ar ((a - 1 - ((j:Nat):Int)) - 1) wN ?_
  refine aw (vi ((a - 1 - ((j:Nat):Int)) - 1)) ?_
  refine wl_nil ?_
  have R:(((d++putK b a j)++([(by8 ((b / (2:Int) ^ ((8*(a - 1 - ((j:Nat):Int)))).toNat) % 256))]:List UInt8)):List UInt8)=d++putK b a (j+1):=by simp [putK]
  refine wq_loopP (w0:=K) [(1,(vi b)),(6,(vs none 0 0)),(7,(.slice t (d++putK b a (j+1)).length x)),(8,(vi (a - 1 - (((j+1):Nat):Int))))] ?_ ?_ ?_
  · exact ⟨rfl,rfl,(cA (fun l:List UInt8=>Value.slice t l.length x) R),(cA (Value.int .i64) (show (((a - 1 - ((j:Nat):Int)) - 1):Int)=(a - 1 - (((j+1):Nat):Int)) by omega)),trivial⟩
  · exact fun u=>⟨(j+1),u,t,x,rfl,ai,((((Ch.refl (fun k=>e.heap.size≤k) A).ext P (fun k hk=>hk)).extk s).ext Q (fun k hk=>nT (Nat.le_refl e.heap.size) (own_lt r k hk).1)),(by omega),(R ▸ ⟨af,ah⟩)⟩
  · show ((a - 1 - (((j+1):Nat):Int))+1).toNat < ((a - 1 - ((j:Nat):Int))+1).toNat;omega

theorem ciPad (b:World) (a:Int) :Fn Try.prog 75 #[(vi a)] b (fun v d=>Keep b d∧O_22 d b.heap.size v (padP a)):=by
 refine fn_ofS (n:=25) [(vi a)] Try.func75 rfl rfl ?_
 refine sr ?_
 refine aw (vs none 0 0) ?_
 refine n4 ?_
 refine mw (vi a) ?_
 refine cl wN (ciwithin b a 0 1048576) ?_
 rintro _ h ⟨o,rfl⟩
 have B:=(Ch.base b).extk o
 refine pu (vb (!(i_within a 0 1048576))) wN ?_
 refine n2 ?_
 rcases bf (i_within a 0 1048576) with i|i
 ·have aj:=impl_within_f i
  refine ct (cA not i) ?_
  refine sr ?_
  refine aw (vs none 0 0) ?_
  refine n1 ?_
  refine rt (vs none 0 0) ?_
  refine ⟨B.keep0,?_⟩
  have N:padP a=[]:=by first|exact padP_f (by omega)|exact padP_i (by omega) (by omega) (by omega) (by omega)
  rw [N]
  exact ⟨_,_,rfl,(by first|exact own_nil _ _ _ _|exact OLv.nil _ _ _ _),(by simp),⟨trivial,trivial⟩⟩
 have ak:=impl_within_t i
 refine cf (cA not i) ?_
 refine y1 ?_
 refine ltB ([128]:List UInt8) wN slTy_22 ?_
 intro p q A r O
 have P:=B.extk r
 refine aw (vs p ([128]:List UInt8).length q) ?_
 refine wl_nil<|wq_then<|wc_seq<|wc_block ?_
 have C:(([128]:List UInt8):List UInt8)=[(128:UInt8)]++List.replicate 0 (0:UInt8):=by first|rfl|(rw [List.replicate_succ',List.append_assoc])
 refine wc_loopP [(0,(vi a)),(2,(vs none 0 0)),(3,(.slice p ([(128:UInt8)]++List.replicate 0 (0:UInt8)).length q))] ⟨rfl,rfl,(cA (fun l:List UInt8=>Value.slice p l.length q) C),trivial⟩ (fun e' d=>∃ (j:Nat) (D:Env) (e:Option Addr) (f:Nat),e'=pt D [(0,(vi a)),(2,(vs none 0 0)),(3,(.slice e ([(128:UInt8)]++List.replicate j (0:UInt8)).length f))]∧Ch (fun k=>b.heap.size≤k) b d∧Ch (fun k=>h.heap.size≤k) A d∧((j:Nat):Int)≤(64 - (a+9) % 64) % 64∧(World.ownsRow d h.heap.size 5 1 (.slice e ([(128:UInt8)]++List.replicate j (0:UInt8)).length f) ([(128:UInt8)]++List.replicate j (0:UInt8)).length (([(128:UInt8)]++List.replicate j (0:UInt8)).map bV)∧([(128:UInt8)]++List.replicate j (0:UInt8)).length≤1073741824)) (fun e' _=>100 - (lenOf (e' 3))) ?_ ?_
 ·exact fun u=>⟨0,u,p,q,rfl,P,(Ch.refl (fun k=>h.heap.size≤k) A),(by omega),(C ▸ ⟨O,(by simp)⟩)⟩
 ·rintro _ Q ⟨j,D,e,f,rfl,E,s,am,⟨g,an⟩⟩
  have hpl:([(128:UInt8)]++List.replicate j (0:UInt8)).length=1+j:=by rw [List.length_append,List.length_replicate];rfl
  refine wc_seq<|sr ?_
  refine mw (vi a) ?_
  refine mw (vs e ([(128:UInt8)]++List.replicate j (0:UInt8)).length f) ?_
  refine ln wN slTy_22 (Rd.of_own g) ?_
  refine ar (a+(([(128:UInt8)]++List.replicate j (0:UInt8)).length:Int)) wN ?_
  refine ar ((a+(([(128:UInt8)]++List.replicate j (0:UInt8)).length:Int))+8) wN ?_
  refine wl_rem ((a+(([(128:UInt8)]++List.replicate j (0:UInt8)).length:Int))+8) 64 wN rfl rfl (by kernel_rfl) (by first|omega|assumption) ?_
  refine pu (vb (!(decide ((((a+(([(128:UInt8)]++List.replicate j (0:UInt8)).length:Int))+8) % 64)=0)))) wN ?_
  refine n2 ?_
  rcases bf (decide ((((a+(([(128:UInt8)]++List.replicate j (0:UInt8)).length:Int))+8) % 64)=0)) with m|m
  ·have ao:=dF m
   refine ct (cA not m) ?_
   refine wc_skip<|wq_then<|wc_block<|wc_region ?_
   refine mw (vs e ([(128:UInt8)]++List.replicate j (0:UInt8)).length f) ?_
   refine ltB ([0]:List UInt8) wN slTy_22 ?_
   intro ap aq R t S
   have T:=(own_kp g t)
   refine apB ([(128:UInt8)]++List.replicate j (0:UInt8)) ([0]:List UInt8) wN slTy_22 T (Rd.of_own S) (z3 r s t) ?_
   intro w x F G V au W
   have X:=(E.extk t).ext G (fun k hk=>nT o.size (own_lt g k hk).1)
   refine aw (vs w (([(128:UInt8)]++List.replicate j (0:UInt8))++([0]:List UInt8)).length x) ?_
   refine wl_nil<|wq_blk_normal ?_
   have H:((([(128:UInt8)]++List.replicate j (0:UInt8))++([0]:List UInt8)):List UInt8)=[(128:UInt8)]++List.replicate (j+1) (0:UInt8):=by first|rfl|(rw [List.replicate_succ',List.append_assoc])
   refine wq_loopP (w0:=Q) [(0,(vi a)),(2,(vs none 0 0)),(3,(.slice w ([(128:UInt8)]++List.replicate (j+1) (0:UInt8)).length x))] ?_ ?_ ?_
   · exact ⟨rfl,rfl,(cA (fun l:List UInt8=>Value.slice w l.length x) H),trivial⟩
   · exact fun u=>⟨(j+1),u,w,x,rfl,X,((((Ch.refl (fun k=>h.heap.size≤k) A).ext s (fun k hk=>hk)).extk t).ext G (fun k hk=>nT (Nat.le_refl h.heap.size) (own_lt g k hk).1)),(by omega),(H ▸ ⟨V,W⟩)⟩
   · show 100 - ([(128:UInt8)]++List.replicate (j+1) (0:UInt8)).length < 100 - ([(128:UInt8)]++List.replicate j (0:UInt8)).length;simp only [List.length_append,List.length_cons,List.length_nil,List.length_replicate];omega
  have av:=dT m
  refine cf (cA not m) ?_
  refine wc_exit<|wq_then_exit<|wq_then_exit<|wq_blk_exit<|wq_then<|sr ?_
  refine mw (vs e ([(128:UInt8)]++List.replicate j (0:UInt8)).length f) ?_
  refine ltB ([0,0]:List UInt8) wN slTy_22 ?_
  intro ax ay R y Y
  have Z:=(own_kp g y)
  refine apB ([(128:UInt8)]++List.replicate j (0:UInt8)) ([0,0]:List UInt8) wN slTy_22 Z (Rd.of_own Y) (z3 r s y) ?_
  intro I J F K aa az ab
  have ac:=(E.extk y).ext K (fun k hk=>nT o.size (own_lt g k hk).1)
  refine aw (vs I (([(128:UInt8)]++List.replicate j (0:UInt8))++([0,0]:List UInt8)).length J) ?_
  refine nx ?_
  refine mw (vs I (([(128:UInt8)]++List.replicate j (0:UInt8))++([0,0]:List UInt8)).length J) ?_
  refine mw (vi a) ?_
  refine ar (8*a) wN ?_
  refine cl wN (ciPutN F _ (([(128:UInt8)]++List.replicate j (0:UInt8))++([0,0]:List UInt8)) (mR_22 (Rd.of_own aa) ab) (8*a) 6 (by first|omega|(simp;done)|(simp;omega)|(simp only [List.length_append,List.length_cons,List.length_nil] at *;omega))) ?_
  rintro _ a0 ⟨ad,⟨L,M,rfl,ae,af,a1⟩⟩
  have ah:=ac.extk ad
  have a2:=putN_len (([(128:UInt8)]++List.replicate j (0:UInt8))++([0,0]:List UInt8)) (8*a) 6
  refine aw (vs L (putN (([(128:UInt8)]++List.replicate j (0:UInt8))++([0,0]:List UInt8)) (8*a) 6).length M) ?_
  refine n3 ?_
  refine rt (vs L (putN (([(128:UInt8)]++List.replicate j (0:UInt8))++([0,0]:List UInt8)) (8*a) 6).length M) ?_
  refine ⟨ah.keep0,?_⟩
  have ai:padP a=(putN (([(128:UInt8)]++List.replicate j (0:UInt8))++([0,0]:List UInt8)) (8*a) 6):=by first|exact padP_f (by omega)|exact padP_i (by omega) (by omega) (by omega) (by omega)
  rw [ai]
  exact ⟨_,_,rfl,(own_lo ae (z5 o r s y K)),af,⟨trivial,trivial⟩⟩

theorem ciwordBytes (b:World) (s:Value) (a:List Int) (J:R_24 b s a) (P:a.length=8):Fn Try.prog 76 #[s] b (fun v f=>Keep b f∧O_22 f b.heap.size v (wordB a)):=by
 obtain ⟨g,h,rfl,p,Q⟩:=J
 refine fn_ofS (n:=18) [(vs g a.length h)] Try.func76 rfl rfl ?_
 refine sr ?_
 refine aw (vs none 0 0) ?_
 refine nx ?_
 refine wl_lit0 wN rfl rfl slTy_22 (fun w=>by kernel_rfl) ?_
 intro q r t K
 have y:=(Ch.base b).extk t
 refine aw (vs (some q) 0 0) ?_
 refine n4 ?_
 refine mw (vs g a.length h) ?_
 refine ln wN slTy_24 (p.from0 y) ?_
 refine mw (vi 0) ?_
 refine wl_nil<|wq_then<|wc_block ?_
 have A:([]:List UInt8)=wordB (a.take 0):=by rfl
 have B:0=(wordB (a.take 0)).length:=by rw [← A];try (first|rfl|simp only [List.length_set]|simp)
 refine wc_loopP [(2,(vs none 0 0)),(3,(.slice (some q) (wordB (a.take 0)).length 0)),(7,(vs g a.length h)),(8,(vi (a.length:Int))),(9,(vi ((0:Nat):Int)))] ⟨rfl,rfl,rfl,rfl,(cA (Value.int .i64) (show (0:Int)=((0:Nat):Int) by omega)),trivial⟩ (fun e' f=>∃ (k:Nat) (C:Env) (d:Option Addr) (e:Nat),e'=pt C [(2,(vs none 0 0)),(3,(.slice d (wordB (a.take k)).length e)),(7,(vs g a.length h)),(8,(vi (a.length:Int))),(9,(vi ((k:Nat):Int)))]∧Ch (fun k=>b.heap.size≤k) b f∧Ch (fun k=>b.heap.size≤k) r f∧k≤a.length∧(World.ownsRow f b.heap.size 5 1 (.slice d (wordB (a.take k)).length e) (wordB (a.take k)).length ((wordB (a.take k)).map bV)∧(wordB (a.take k)).length≤1073741824)) (fun e' _=>a.length - ((intOf (e' 9))).toNat) ?_ ?_
 ·exact fun u=>⟨0,u,(some q),0,rfl,y,(Ch.refl (fun k=>b.heap.size≤k) r),(by omega),⟨(by rw [← B,← A];exact K),(by rw [← B];first|exact (by simp)|(simp only [List.length_append,List.length_take,List.length_replicate];omega))⟩⟩
 ·rintro _ D ⟨k,C,d,e,rfl,j,E,R,⟨F,G⟩⟩
  have hwl:=wordB_len (a.take k)
  have htl:(a.take k).length=min k a.length:=List.length_take
  refine sr ?_
  refine pu (vb (decide (((k:Nat):Int) < (a.length:Int)))) wN ?_
  refine wl_nil<|wq_then<|wc_seq ?_
  rcases bf (decide (((k:Nat):Int) < (a.length:Int))) with i|i
  ·have S:=dF i
   refine cf i ?_
   refine wc_exit<|wq_then_exit<|wq_then_exit<|wq_blk_exit<|wq_then<|sr ?_
   refine mw (vs d (wordB (a.take k)).length e) ?_
   refine aw (vs d (wordB (a.take k)).length e) ?_
   refine n3 ?_
   refine rt (vs d (wordB (a.take k)).length e) ?_
   refine ⟨j.keep0,?_⟩
   have L:wordB a=(wordB (a.take k)):=by exact wordB_end (by omega)
   rw [L]
   exact ⟨_,_,rfl,F,G,⟨trivial,trivial⟩⟩
  have T:=dT i
  refine ct i ?_
  refine wc_skip<|wq_then<|wc_seq<|wc_block<|sr ?_
  refine ix wN ((k:Nat):Int) slTy_24 (p.from0 j) ?_
  refine ei (x:=a) k wN isAgg_3 (p.from0 j) ?_
  refine aw (vi (a.getD k 0)) ?_
  refine wl_nil<|wq_then<|wc_region ?_
  refine mw (vs d (wordB (a.take k)).length e) ?_
  refine mw (vi (a.getD k 0)) ?_
  refine cl wN (ciPutN D _ (wordB (a.take k)) (mR_22 (Rd.of_own F) G) (a.getD k 0) 4 (by first|omega|(simp;done)|(simp;omega)|(simp only [List.length_append,List.length_cons,List.length_nil] at *;omega))) ?_
  rintro _ V ⟨H,⟨m,o,rfl,M,N,W⟩⟩
  have O:=j.extk H
  have X:=putN_len (wordB (a.take k)) (a.getD k 0) 4
  refine aw (vs m (putN (wordB (a.take k)) (a.getD k 0) 4).length o) ?_
  refine wl_nil<|wq_blk_normal<|wq_then<|wc_region ?_
  refine ar (((k:Nat):Int)+1) wN ?_
  refine mw (vi (((k:Nat):Int)+1)) ?_
  refine wl_nil ?_
  have I:((putN (wordB (a.take k)) (a.getD k 0) 4):List UInt8)=wordB (a.take (k+1)):=by exact wordB_next (by omega)
  refine wq_loopP (w0:=D) [(2,(vs none 0 0)),(3,(.slice m (wordB (a.take (k+1))).length o)),(7,(vs g a.length h)),(8,(vi (a.length:Int))),(9,(vi (((k+1):Nat):Int)))] ?_ ?_ ?_
  · exact ⟨rfl,(cA (fun l:List UInt8=>Value.slice m l.length o) I),rfl,rfl,(cA (Value.int .i64) (show ((((k:Nat):Int)+1):Int)=(((k+1):Nat):Int) by omega)),trivial⟩
  · exact fun u=>⟨(k+1),u,m,o,rfl,O,(((Ch.refl (fun k=>b.heap.size≤k) r).ext E (fun k hk=>hk)).extk H),(by omega),(I ▸ ⟨(own_lo M (z2 t E)),N⟩)⟩
  · show a.length - ((((k+1):Nat):Int)).toNat < a.length - (((k:Nat):Int)).toNat;omega

def i_HashEnd (a:PHash):(List UInt8):=bif (i_HashOk a) then ((wordB ((compAll a.H (joinB [a.Held,(padP a.N)])).1))) else ([])
theorem ciHashEnd (r:World) (I:Value) (a:PHash) (aa:R_91 r I a) :Fn Try.prog 58 #[I] r (fun v J=>Keep r J∧O_22 J r.heap.size v (i_HashEnd a)):=by
 obtain ⟨d,f,g,i,rfl,K,M,O,P⟩:=aa
 refine fn_ofS (n:=23) [(va (L_91 a d f g i))] Try.func58 rfl rfl ?_
 refine sr ?_
 refine bx (L_91 a d f g i) wN ?_
 intro p s bc bd Q B
 have E:=(Ch.base r).extk Q
 refine aw (vs none 0 0) ?_
 refine n4 ?_
 refine lN (L_91 a d f g i) wN isAgg_91 sizeOf_91 B ?_
 refine cl wN (ciHashOk s _ a (mR_91 (K.from0 E) M (O.from0 E) P)) ?_
 rintro _ F ⟨t,rfl⟩
 have C:=E.extk t
 refine pu (vb (!(i_HashOk a))) wN ?_
 refine n2 ?_
 rcases bf (i_HashOk a) with q|q
 ·refine ct (cA not q) ?_
  refine sr ?_
  refine aw (vs none 0 0) ?_
  refine n1 ?_
  refine rt (vs none 0 0) ?_
  refine ⟨C.keep0,?_⟩
  simp only [i_HashEnd,q,cond_true,cond_false]
  exact ⟨_,_,rfl,(by first|exact own_nil _ _ _ _|exact OLv.nil _ _ _ _),(by simp),⟨trivial,trivial⟩⟩
 have be:=hashOk_t q
 refine cf (cA not q) ?_
 refine wc_skip<|wq_then<|wc_seq ?_
 refine wc_draw ([(9,[],[],(fun _ v _=>v=(vp p 0))),(10,[],[0],(fun _ v _=>v=(vs d a.H.length f))),(11,[],[],(fun _ v _=>v=(vp p 1))),(12,[],[2],(fun _ v _=>v=(vs g a.Held.length i))),(13,[],[],(fun _ v _=>v=(vp p 2))),(14,[],[4],(fun _ v _=>v=(vi a.N))),(15,[],[4,5],(fun _ v w=>O_22 w F.heap.size v (padP a.N))),(16,[15],[2,3,4,5,6],(fun e v w=>∃ (d:Option Addr) (u:Nat),v=.slice d 2 u∧w.ownsRow F.heap.size 22 1 (.slice d 2 u) 2 [(vs g a.Held.length i),(e 15)])),(17,[15],[2,3,4,5,6,7],(fun e v w=>KO_22 w F.heap.size v (joinB [a.Held,(padP a.N)]) (fun ab=>Ap (sp (e 15)) ab))),(18,[],[0,1,2,3,4,5,6,7,8],(fun _ v w=>∃ (d:Option Addr) (u:Nat) (R:Option Addr) (f:Nat),v=.tuple #[.slice d ((compAll a.H (joinB [a.Held,(padP a.N)])).1).length u,.slice R ((compAll a.H (joinB [a.Held,(padP a.N)])).2).length f]∧Rd w 1 (.slice d ((compAll a.H (joinB [a.Held,(padP a.N)])).1).length u) ((compAll a.H (joinB [a.Held,(padP a.N)])).1).length (((compAll a.H (joinB [a.Held,(padP a.N)])).1).map iV)∧((compAll a.H (joinB [a.Held,(padP a.N)])).1).length≤1073741824∧Rd w 1 (.slice R ((compAll a.H (joinB [a.Held,(padP a.N)])).2).length f) ((compAll a.H (joinB [a.Held,(padP a.N)])).2).length (((compAll a.H (joinB [a.Held,(padP a.N)])).2).map bV)∧((compAll a.H (joinB [a.Held,(padP a.N)])).2).length≤1073741824)),(8,[18],[0,1,2,3,4,5,6,7,8,9],(fun e v _=>v=(.tuple #[(tupAt (e 18) 0),(tupAt (e 18) 1)]))),(19,[18],[0,1,2,3,4,5,6,7,8,9,10],(fun e v _=>v=(tupAt (e 18) 0))),(20,[18],[0,1,2,3,4,5,6,7,8,9,10],(fun e v _=>v=(tupAt (e 18) 1))),(3,[18],[0,1,2,3,4,5,6,7,8,9,10,11],(fun e v _=>v=(tupAt (e 18) 0)))]:GV) mixed rfl (by kernel_rfl) (by kernel_rfl) ?_ ?_ ?_
 ·exact ⟨hV,hE,⟨hV,hE,⟨hV,hE,⟨hV,hE,⟨hV,hE,⟨hV,hE,⟨(fun e v w s h hk=>by obtain ⟨j,k,he,l,x,hap⟩:=h;exact ⟨j,k,he,own_kp l hk,x,hap⟩),hE,⟨(fun e v w s h hk=>by obtain ⟨j,k,he,l⟩:=h;exact ⟨j,k,he,own_kp l hk⟩),(fun y A v w hx h=>by have G:=hx 15 (by simp);simp only [G] at h;exact h),⟨(fun e v w s h hk=>by obtain ⟨j,k,he,l,x,hap,hx⟩:=h;exact ⟨j,k,he,own_kp l hk,x,hap,hx⟩),(fun y A v w hx h=>by have G:=hx 15 (by simp);simp only [G] at h;exact h),⟨(fun e v w s h hk=>by obtain ⟨j,k,ac,ad,he,l,x,ae,af⟩:=h;exact ⟨j,k,ac,ad,he,Rd.kp l hk,x,Rd.kp ae hk,af⟩),hE,⟨hV,(fun y A v w hx h=>by have o:=hx 18 (by simp);simp only [o] at h;exact h),⟨hV,(fun y A v w hx h=>by have o:=hx 18 (by simp);simp only [o] at h;exact h),⟨hV,(fun y A v w hx h=>by have o:=hx 18 (by simp);simp only [o] at h;exact h),⟨hV,(fun y A v w hx h=>by have o:=hx 18 (by simp);simp only [o] at h;exact h),trivial⟩⟩⟩⟩⟩⟩⟩⟩⟩⟩⟩⟩⟩⟩
 ·refine ⟨?_,⟨?_,⟨?_,⟨?_,⟨?_,⟨?_,⟨?_,⟨?_,⟨?_,⟨?_,⟨?_,⟨?_,⟨?_,⟨?_,trivial⟩⟩⟩⟩⟩⟩⟩⟩⟩⟩⟩⟩⟩⟩
  ·intro b bg
   rintro _ _ _ _ _ _ _ _ _ _ _ _ _ _
   refine sw ?_
   refine pu (vp p 0) wN ?_
   exact f2
  ·intro b ah
   rintro _ rfl _ _ _ _ _ _ _ _ _ _ _ _ _
   refine sw ?_
   have ai:=((B.kp t).kp ah)
   refine ld (vs d a.H.length f) wN isAgg_24 ai ?_
   exact f2
  ·intro b bh
   rintro _ _ _ _ _ _ _ _ _ _ _ _ _ _
   refine sw ?_
   refine pu (vp p 1) wN ?_
   exact f2
  ·intro b aj
   rintro _ _ _ rfl _ _ _ _ _ _ _ _ _ _ _
   refine sw ?_
   have ak:=((B.kp t).kp aj)
   refine ld (vs g a.Held.length i) wN isAgg_22 ak ?_
   exact f2
  ·intro b bi
   rintro _ _ _ _ _ _ _ _ _ _ _ _ _ _
   refine sw ?_
   refine pu (vp p 2) wN ?_
   exact f2
  ·intro b am
   rintro _ _ _ _ _ rfl _ _ _ _ _ _ _ _ _
   refine sw ?_
   have an:=((B.kp t).kp am)
   refine ld (vi a.N) wN isAgg_3 an ?_
   exact f2
  ·intro b ao
   rintro _ _ _ _ _ rfl _ rfl _ _ _ _ _ _ _ _
   refine sw ?_
   refine cl wN (ciPad b a.N) ?_
   rintro _ D ⟨ap,⟨bj,bk,rfl,aq,au,av⟩⟩
   have bl:=padP_len a.N
   exact wl_fin ap ⟨_,_,rfl,(own_lo aq ao.size),au,av⟩
  ·intro b ax
   rintro _ _ _ rfl _ rfl _ rfl _ rfl _ ⟨ay,az,rfl,_⟩
   have bm:=padP_len a.N
   rintro _ _ _ _ _ _ _
   refine sw ?_
   refine wl_lit [(vs g a.Held.length i),(vs ay (padP a.N).length az)] wN rfl rfl slTy_56 (m:=2) rfl (by simp only [maxLen];omega) (fun w=>by kernel_rfl) ?_
   intro bn D a0 S
   obtain ⟨bo,bp,rfl⟩:=own_form S
   exact wl_fin a0 ⟨_,_,rfl,own_lo S ax.size⟩
  ·intro b T
   have a1:=C.extk T
   rintro _ _ _ rfl _ rfl _ rfl _ rfl _ ⟨a2,a3,rfl,V,a4,bq⟩
   have br:=padP_len a.N
   rintro _ ⟨bu,bv,rfl,a5⟩ _ _ _ _ _ _
   refine sw ?_
   refine cl wN (cijoined b _ [a.Held,(padP a.N)] (mR_56 (RLv.mk (L:=LT_22) [(a.Held,[(g,i)]),((padP a.N),[(a2,a3)])] (Rd.of_own a5) rfl ⟨⟨⟨(O.from0 a1),P⟩,trivial⟩,⟨⟨⟨(Rd.of_own V),a4⟩,trivial⟩,trivial⟩⟩ (by first|decide|exact Nat.le_of_ble_eq_true rfl)) (by first|decide|exact Nat.le_of_ble_eq_true rfl)) (by first|omega|(rw [joinB_l2];omega)|(rw [joinB_l2];simp only [List.length_cons,List.length_nil,maskB_len];omega)|(rw [joinB_l3];simp only [List.length_cons,List.length_nil,maskB_len];omega)|(simp only [joinB,List.flatten_cons,List.flatten_nil,List.length_append,List.length_cons,List.length_nil,maskB_len];omega))) ?_
   rintro _ D ⟨a6,⟨bw,bz,rfl,W,a7,a8⟩⟩
   have b0:=(show (joinB [a.Held,(padP a.N)]).length=a.Held.length+(padP a.N).length by simp only [joinB,List.flatten_cons,List.flatten_nil,List.length_append,List.length_cons,List.length_nil];omega)
   exact wl_fin a6 ⟨_,_,rfl,(own_lo W T.size),a7,a8,(Ap.lt V W (Nat.le_refl _))⟩
  ·intro b a9
   have aA:=C.extk a9
   rintro _ rfl _ rfl _ rfl _ rfl _ rfl _ rfl _ ⟨b1,b2,rfl,_⟩
   have b3:=padP_len a.N
   rintro _ ⟨b4,b5,rfl,b6⟩ _ ⟨b7,b8,rfl,aB,aC,_⟩
   have b9:=(show (joinB [a.Held,(padP a.N)]).length=a.Held.length+(padP a.N).length by simp only [joinB,List.flatten_cons,List.flatten_nil,List.length_append,List.length_cons,List.length_nil];omega)
   rintro _ _ _ _ _
   refine sw ?_
   refine cl wN (cicompressAll b _ a.H (mR_24 (K.from0 aA) M) _ (joinB [a.Held,(padP a.N)]) (mR_22 (Rd.of_own aB) aC)) ?_
   rintro _ D ⟨aD,⟨bA,bB,bC,bD,rfl,aE,aF,aG,aH⟩⟩
   exact wl_fin aD ⟨_,_,_,_,rfl,aE,aF,aG,aH⟩
  ·intro b bE
   rintro _ rfl _ rfl _ rfl _ rfl _ rfl _ rfl _ ⟨bF,bG,rfl,_⟩
   have bH:=padP_len a.N
   rintro _ ⟨bI,bJ,rfl,bK⟩ _ ⟨bL,bM,rfl,_⟩
   have bN:=(show (joinB [a.Held,(padP a.N)]).length=a.Held.length+(padP a.N).length by simp only [joinB,List.flatten_cons,List.flatten_nil,List.length_append,List.length_cons,List.length_nil];omega)
   rintro _ ⟨aI,aJ,aK,aL,rfl,_⟩ _ _ _ _
   refine sw ?_
   refine mw (.tuple #[(vs aI ((compAll a.H (joinB [a.Held,(padP a.N)])).1).length aJ),(vs aK ((compAll a.H (joinB [a.Held,(padP a.N)])).2).length aL)]) ?_
   exact f2
  ·intro b bO
   rintro _ rfl _ rfl _ rfl _ rfl _ rfl _ rfl _ ⟨bP,bQ,rfl,_⟩
   have bR:=padP_len a.N
   rintro _ ⟨bS,bT,rfl,bU⟩ _ ⟨bW,bX,rfl,_⟩
   have bY:=(show (joinB [a.Held,(padP a.N)]).length=a.Held.length+(padP a.N).length by simp only [joinB,List.flatten_cons,List.flatten_nil,List.length_append,List.length_cons,List.length_nil];omega)
   rintro _ ⟨aM,aN,bZ,ca,rfl,_⟩ _ rfl _ _ _
   refine sw ?_
   refine pu (vs aM ((compAll a.H (joinB [a.Held,(padP a.N)])).1).length aN) wN ?_
   exact f2
  ·intro b cb
   rintro _ rfl _ rfl _ rfl _ rfl _ rfl _ rfl _ ⟨cc,cd,rfl,_⟩
   have ce:=padP_len a.N
   rintro _ ⟨cg,ci,rfl,cj⟩ _ ⟨ck,cm,rfl,_⟩
   have cn:=(show (joinB [a.Held,(padP a.N)]).length=a.Held.length+(padP a.N).length by simp only [joinB,List.flatten_cons,List.flatten_nil,List.length_append,List.length_cons,List.length_nil];omega)
   rintro _ ⟨co,cp,aO,aP,rfl,_⟩ _ rfl _ _ _
   refine sw ?_
   refine pu (vs aO ((compAll a.H (joinB [a.Held,(padP a.N)])).2).length aP) wN ?_
   exact f2
  ·intro b cq
   rintro _ rfl _ rfl _ rfl _ rfl _ rfl _ rfl _ ⟨cr,cs,rfl,_⟩
   have cu:=padP_len a.N
   rintro _ ⟨cv,cw,rfl,cx⟩ _ ⟨cy,cz,rfl,_⟩
   have c0:=(show (joinB [a.Held,(padP a.N)]).length=a.Held.length+(padP a.N).length by simp only [joinB,List.flatten_cons,List.flatten_nil,List.length_append,List.length_cons,List.length_nil];omega)
   rintro _ ⟨aQ,aR,c1,c2,rfl,_⟩ _ rfl _ rfl _ _
   refine sw ?_
   refine aw (vs aQ ((compAll a.H (joinB [a.Held,(padP a.N)])).1).length aR) ?_
   exact f2
 ·intro b X
  rintro _ rfl _ rfl _ rfl _ rfl _ rfl _ rfl _ ⟨c3,c4,rfl,_⟩
  have c5:=padP_len a.N
  rintro _ ⟨c6,c7,rfl,c8⟩ _ ⟨c9,cC,rfl,_⟩
  have cD:=(show (joinB [a.Held,(padP a.N)]).length=a.Held.length+(padP a.N).length by simp only [joinB,List.flatten_cons,List.flatten_nil,List.length_append,List.length_cons,List.length_nil];omega)
  rintro _ ⟨aS,aT,aU,aV,rfl,aW,aX,_⟩ _ rfl _ rfl _ rfl _ rfl
  refine sw ?_
  refine aw (vs aU ((compAll a.H (joinB [a.Held,(padP a.N)])).2).length aV) ?_
  refine nx ?_
  refine mw (vs aS ((compAll a.H (joinB [a.Held,(padP a.N)])).1).length aT) ?_
  refine cl wN (ciwordBytes b _ ((compAll a.H (joinB [a.Held,(padP a.N)])).1) (mR_24 aW aX) (by first|omega|exact foldK_len k0_w _|exact compAll_len (by first|assumption|exact (hashOk_t (by assumption)).1))) ?_
  rintro _ D ⟨aY,⟨Y,Z,rfl,aZ,ba,cE⟩⟩
  have bb:=(C.extk X).extk aY
  refine aw (vs Y (wordB ((compAll a.H (joinB [a.Held,(padP a.N)])).1)).length Z) ?_
  refine n3 ?_
  refine rt (vs Y (wordB ((compAll a.H (joinB [a.Held,(padP a.N)])).1)).length Z) ?_
  refine ⟨bb.keep0,?_⟩
  simp only [i_HashEnd,q,cond_true,cond_false]
  exact ⟨_,_,rfl,(own_lo aZ (z3 Q t X)),ba,⟨trivial,trivial⟩⟩
end Go.Proofs.Ytacoceibbheccaa.K
