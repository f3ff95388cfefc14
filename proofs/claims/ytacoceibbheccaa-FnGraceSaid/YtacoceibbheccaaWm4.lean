import Derived.Test.YtacoceibbheccaaCore
import Derived.Test.YtacoceibbheccaaProg
import Derived.Test.YtacoceibbheccaaHeld
import Derived.Test.YtacoceibbheccaaFun
import Derived.Test.YtacoceibbheccaaFunZ
import Derived.Test.YtacoceibbheccaaSqz
import Derived.Test.YtacoceibbheccaaHash
import Derived.Test.YtacoceibbheccaaCur
import Derived.Test.YtacoceibbheccaaDrawW
import Derived.Test.YtacoceibbheccaaCurZ
import Derived.Test.YtacoceibbheccaaAead
import Derived.Test.YtacoceibbheccaaWm3
namespace Go.Proofs.Ytacoceibbheccaa.K
open Go.RowKit
set_option linter.unusedVariables false
set_option linter.unusedSimpArgs false
set_option maxRecDepth 100000
set_option maxHeartbeats 4000000
def O_26_4 (w:World) (lo:Nat) (v:Value) (x:(PWin)×(Bool)):Prop:=∃ (a:Option Addr) (b:Nat),v=.tuple #[.agg #[.int .i64 x.1.Top,.slice a x.1.Bits.length b],.bool x.2]∧w.ownsRow lo 3 1 (.slice a x.1.Bits.length b) x.1.Bits.length (x.1.Bits.map iV)∧x.1.Bits.length≤1073741824∧Aps [(a,b)]
def iAdd (w:PWin) (n:Int):PWin×Bool:=bif i_WinMay w n then ({Top:=if w.Top < n then n else w.Top,Bits:=addW w.Bits w.Top n:PWin},true) else (w,false)
theorem ciWinAdd (y:World) (X:Value) (d:PWin) (az:R_26 y X d) (e:Int) :Fn Try.prog 54 #[X,(vi e)] y (fun v o=>Keep y o∧O_26_4 o y.heap.size v (iAdd d e)):=by
 obtain ⟨K,L,rfl,Y,Z⟩:=az
 refine fn_ofS (n:=57) [(va (L_26 d K L)),(vi e)] Try.func54 rfl rfl ?_
 refine sr ?_
 refine bx (L_26 d K L) wN ?_
 intro I bd be Q s a0
 refine al [(vi 0),(vs none 0 0)] wN zero_26 ?_
 intro R B aa C p ab
 have ac:=((Ch.base y).extk s).extk p
 refine aw (vb false) ?_
 refine nx ?_
 have ad:=(a0.kp p)
 refine lN (L_26 d K L) wN isAgg_26 sizeOf_26 ad ?_
 refine cl wN (cicopyWin B _ d (mR_26 (Y.from0 ac) Z)) ?_
 rintro _ ae ⟨r,⟨g,i,rfl,m,af,bg⟩⟩
 refine al [(vi 0),(vs none 0 0)] wN zero_26 ?_
 intro t bh q bi D a1
 refine sv (L_26 (d) g i) wN sizeOf_26 a1 ?_
 intro a2 E ah bj
 have ai:=((ac.extk r).extk D).ext E (fun k hk=>by subst hk;exact nT (z3 s p r) q)
 refine n4 ?_
 have aj:=(((ad.kp r).kp D).ch E (nN (nL Q (nT (z2 p r) q))))
 refine lN (L_26 d K L) wN isAgg_26 sizeOf_26 aj ?_
 refine mw (vi e) ?_
 refine cl wN (ciWinMay a2 _ d (mR_26 (Y.from0 ai) Z) e) ?_
 rintro _ S ⟨A,rfl⟩
 have ak:=ai.extk A
 refine pu (vb (!(i_WinMay d e))) wN ?_
 refine n2 ?_
 rcases bf (i_WinMay d e) with F|F
 ·refine ct (cA not F) ?_
  refine sr ?_
  have a3:=(ah.kp A)
  refine lN (L_26 (d) g i) wN isAgg_26 sizeOf_26 a3 ?_
  have a4:=((((ab.kp r).kp D).ch E (nN (nL C (nT r.size q)))).kp A)
  refine sv (L_26 (d) g i) wN sizeOf_26 a4 ?_
  intro M am a5 bk
  have a6:=ak.ext am (fun k hk=>by subst hk;exact nT s.size aa)
  refine aw (vb false) ?_
  refine n1 ?_
  have a7:=(own_ch (own_kp (own_ch (own_kp m D) E (ne2 m (q))) A) am (ne1 m (C)))
  refine ret_2 (.inl rfl) (va (L_26 (d) g i)) (vb false) rfl (rv_c (L_26 (d) g i) rfl a5 isAgg_26 sizeOf_26) rfl ?_
  refine ⟨a6.keep0,?_⟩
  have a8:iAdd d e=((d),false):=by simp only [iAdd,F,cond_true,cond_false]
  rw [a8]
  exact ⟨_,_,rfl,(own_lo a7 (z2 s p)),af,⟨trivial,trivial⟩⟩
 have bl:=iMay_t F
 refine cf (cA not F) ?_
 refine y2 ?_
 refine pu (vp I 0) wN ?_
 have an:=(aj.kp A)
 refine ld (vi d.Top) wN isAgg_3 an ?_
 refine ar (d.Top+1) wN ?_
 refine mw (vi e) ?_
 refine ar (e - 1024) wN ?_
 refine ar ((e - 1024)+1) wN ?_
 refine pu (vi (if (d.Top+1) < ((e - 1024)+1) then ((e - 1024)+1) else (d.Top+1))) wN ?_
 refine aw (vi (if (d.Top+1) < ((e - 1024)+1) then ((e - 1024)+1) else (d.Top+1))) ?_
 refine wl_nil<|wq_then<|wc_block ?_
 have a9:=(own_kp (own_ch (own_kp m D) E (ne2 m (q))) A)
 have aA:((d).Bits:List Int)=clrN d.Bits (if (d.Top+1) < ((e - 1024)+1) then ((e - 1024)+1) else (d.Top+1)) 0:=by rfl
 have aB:=(ah.kp A)
 refine wc_loopP [(1,(vi e)),(2,(vp I 0)),(4,(vp R 0)),(5,(vb false)),(6,(vp t 0)),(7,(vi ((if (d.Top+1) < ((e - 1024)+1) then ((e - 1024)+1) else (d.Top+1))+((0:Nat):Int))))] ⟨rfl,rfl,rfl,rfl,rfl,(cA (Value.int .i64) (show ((if (d.Top+1) < ((e - 1024)+1) then ((e - 1024)+1) else (d.Top+1)):Int)=((if (d.Top+1) < ((e - 1024)+1) then ((e - 1024)+1) else (d.Top+1))+((0:Nat):Int)) by omega)),trivial⟩ (fun e' o=>∃ (j:Nat) (ao:Env),e'=pt ao [(1,(vi e)),(2,(vp I 0)),(4,(vp R 0)),(5,(vb false)),(6,(vp t 0)),(7,(vi ((if (d.Top+1) < ((e - 1024)+1) then ((e - 1024)+1) else (d.Top+1))+((j:Nat):Int))))]∧Ch (fun k=>y.heap.size≤k) y o∧Ch (fun k=>B.heap.size≤k) S o∧((if (d.Top+1) < ((e - 1024)+1) then ((e - 1024)+1) else (d.Top+1))+((j:Nat):Int)≤e∨j=0)∧j≤1024∧World.ownsRow o B.heap.size 3 1 (.slice g ((d).Bits).length i) ((d).Bits).length ((clrN d.Bits (if (d.Top+1) < ((e - 1024)+1) then ((e - 1024)+1) else (d.Top+1)) j).map iV)∧Blk o t 26 [(vi ((d).Top)),(vs g ((d).Bits).length i)]) (fun e' _=>(e - (intOf (e' 7))).toNat) ?_ ?_
 ·exact fun u=>⟨0,u,rfl,ak,(Ch.refl (fun k=>B.heap.size≤k) S),(by omega),(by omega),(by rw [← aA];exact a9),aB⟩
 ·rintro _ M ⟨j,ao,rfl,ap,T,bm,bn,G,N⟩
  have hwl:=clrN_len d.Bits (if (d.Top+1) < ((e - 1024)+1) then ((e - 1024)+1) else (d.Top+1)) j
  have hwi:=wget (clrN_w (l:=d.Bits) (iMay_t (w:=d) (n:=e) (by assumption)).1 (if (d.Top+1) < ((e - 1024)+1) then ((e - 1024)+1) else (d.Top+1)) j) ((((if (d.Top+1) < ((e - 1024)+1) then ((e - 1024)+1) else (d.Top+1))+((j:Nat):Int)) % 1024) / 32).toNat
  have hwn:=wget (clrN_w (l:=d.Bits) (iMay_t (w:=d) (n:=e) (by assumption)).1 (if (d.Top+1) < ((e - 1024)+1) then ((e - 1024)+1) else (d.Top+1)) j) ((e % 1024) / 32).toNat
  refine wc_seq<|sr ?_
  refine mw (vi ((if (d.Top+1) < ((e - 1024)+1) then ((e - 1024)+1) else (d.Top+1))+((j:Nat):Int))) ?_
  refine mw (vi e) ?_
  refine pu (vb (decide (((if (d.Top+1) < ((e - 1024)+1) then ((e - 1024)+1) else (d.Top+1))+((j:Nat):Int)) < e))) wN ?_
  refine n2 ?_
  rcases bf (decide (((if (d.Top+1) < ((e - 1024)+1) then ((e - 1024)+1) else (d.Top+1))+((j:Nat):Int)) < e)) with H|H
  ·have bo:=dF H
   refine cf H ?_
   refine wc_exit<|wq_then_exit<|wq_then_exit<|wq_blk_exit<|wq_then<|wc_seq ?_
   refine wc_drawT ([(39,[],[],(fun _ v _=>v=(vp t 1))),(40,[],[0],(fun _ v _=>v=(vs g ((d).Bits).length i))),(41,[],[],(fun _ v _=>v=(vi e))),(42,[],[2],(fun _ v _=>v=(vi (e % 1024)))),(43,[],[2,3],(fun _ v _=>v=(vi ((e % 1024) / 32)))),(44,[],[0,1,2,3,4],(fun _ v _=>v=(ve (vs g ((d).Bits).length i) ((((e % 1024) / 32)).toNat*1)))),(45,[],[0,1,2,3,4,5],(fun _ v _=>v=(vi ((clrN d.Bits (if (d.Top+1) < ((e - 1024)+1) then ((e - 1024)+1) else (d.Top+1)) j).getD (((e % 1024) / 32)).toNat 0)))),(46,[],[],(fun _ v _=>v=(vi e))),(47,[],[7],(fun _ v _=>v=(vi (e % 32)))),(48,[],[7,8],(fun _ v _=>v=(vi (1*(2:Int) ^ ((e % 32)).toNat))))]:GV) (fun _ o=>Keep M o) [] mixed rfl (by kernel_rfl) (by kernel_rfl) ?_ (fun _ _ h=>h) (fun _ _ _ _ h _ k=>h.trans k) trivial ?_ ?_ ?_
   ·exact ⟨hV,hE,⟨hV,hE,⟨hV,hE,⟨hV,hE,⟨hV,hE,⟨hV,hE,⟨hV,hE,⟨hV,hE,⟨hV,hE,⟨hV,hE,trivial⟩⟩⟩⟩⟩⟩⟩⟩⟩⟩
   ·exact trivial
   ·refine ⟨?_,⟨?_,⟨?_,⟨?_,⟨?_,⟨?_,⟨?_,⟨?_,⟨?_,⟨?_,trivial⟩⟩⟩⟩⟩⟩⟩⟩⟩⟩
    ·intro _ f bp _
     rintro _ _ _ _ _ _ _ _ _ _
     refine sw ?_
     refine pu (vp t 1) wN ?_
     exact f1
    ·intro _ f aC _
     rintro _ rfl _ _ _ _ _ _ _ _ _
     refine sw ?_
     have aD:=(N.kp aC)
     refine ld (vs g ((d).Bits).length i) wN isAgg_24 aD ?_
     exact f1
    ·intro _ f bq _
     rintro _ _ _ _ _ _ _ _ _ _
     refine sw ?_
     refine mw (vi e) ?_
     exact f1
    ·intro _ f br _
     rintro _ _ _ rfl _ _ _ _ _ _ _
     refine sw ?_
     refine wl_rem e 1024 wN rfl rfl (by kernel_rfl) (by first|omega|assumption) ?_
     exact f1
    ·intro _ f bu _
     rintro _ _ _ rfl _ rfl _ _ _ _ _ _
     refine sw ?_
     refine wl_quo (e % 1024) 32 wN rfl rfl (by kernel_rfl) (by omega) (by omega) (by omega) ?_
     exact f1
    ·intro _ f aE _
     rintro _ rfl _ rfl _ rfl _ rfl _ rfl _ _ _ _ _
     refine sw ?_
     have aF:=(own_kp G aE)
     refine ix wN ((e % 1024) / 32) slTy_24 (Rd.of_own aF) ?_
     exact f1
    ·intro _ f aG _
     rintro _ rfl _ rfl _ rfl _ rfl _ rfl _ rfl _ _ _ _
     refine sw ?_
     have aH:=(own_kp G aG)
     refine ei (x:=(clrN d.Bits (if (d.Top+1) < ((e - 1024)+1) then ((e - 1024)+1) else (d.Top+1)) j)) ((((e % 1024) / 32)).toNat) wN isAgg_3 (Rd.of_own aH) ?_
     exact f1
    ·intro _ f bv _
     rintro _ _ _ _ _ _ _ _ _ _
     refine sw ?_
     refine mw (vi e) ?_
     exact f1
    ·intro _ f bw _
     rintro _ _ _ _ _ _ _ _ rfl _ _
     refine sw ?_
     refine wl_rem e 32 wN rfl rfl (by kernel_rfl) (by first|omega|assumption) ?_
     exact f1
    ·intro _ f bz _
     rintro _ _ _ _ _ _ _ _ rfl _ rfl _
     refine sw ?_
     refine wl_shl 1 (e % 32) wN rfl rfl rfl rfl rfl (by omega) (by omega) (by omega) (by omega) ?_
     have b0:=shl1_b ((e % 32)).toNat (by omega)
     exact f1
   ·intro _ f J
    rintro _ rfl _ rfl _ rfl _ rfl _ rfl _ rfl _ rfl _ rfl _ rfl _ rfl
    have b1:=shl1_b ((e % 32)).toNat (by omega)
    refine sw ?_
    refine wl_or ((clrN d.Bits (if (d.Top+1) < ((e - 1024)+1) then ((e - 1024)+1) else (d.Top+1)) j).getD (((e % 1024) / 32)).toNat 0) (1*(2:Int) ^ ((e % 32)).toNat) wN rfl rfl (by kernel_rfl) (by omega) (by omega) (by omega) (by omega) ?_
    have b2:=orI_b (a:=((clrN d.Bits (if (d.Top+1) < ((e - 1024)+1) then ((e - 1024)+1) else (d.Top+1)) j).getD (((e % 1024) / 32)).toNat 0)) (b:=(1*(2:Int) ^ ((e % 32)).toNat)) (by omega) (by omega)
    have aq:=(own_kp G J)
    refine ix wN ((e % 1024) / 32) slTy_24 (Rd.of_own aq) ?_
    refine wl_storeI (clrN d.Bits (if (d.Top+1) < ((e - 1024)+1) then ((e - 1024)+1) else (d.Top+1)) j) ((((e % 1024) / 32)).toNat) ((orI ((clrN d.Bits (if (d.Top+1) < ((e - 1024)+1) then ((e - 1024)+1) else (d.Top+1)) j).getD (((e % 1024) / 32)).toNat 0) (1*(2:Int) ^ ((e % 32)).toNat))) wN rfl rfl rfl (by simp) rfl sizeOf_3 aq (by first|omega|(simp only [List.length_append,List.length_replicate,List.length_take,List.length_set,List.length_map];omega)) ?_
    intro aI O aJ
    have aK:=(ap.extk J).ext O (fun k hk=>nT (z2 s p) (own_lt m k hk).1)
    refine nx ?_
    refine pu (vp I 0) wN ?_
    have aL:=(((an.ch T (Nat.not_le.2 (nL Q p.size))).kp J).ch O (fun h=>by have:=(own_lt m _ h).1;have:=nL Q p.size;omega))
    refine ld (vi d.Top) wN isAgg_3 aL ?_
    refine mw (vi e) ?_
    refine pu (vi (if d.Top < e then e else d.Top)) wN ?_
    refine pu (vp t 0) wN ?_
    have aM:=((N.kp J).ch O (fun h=>by have:=(own_lt m _ h).2;have:=nT (Nat.le_refl ae.heap.size) q;omega))
    refine st (vi (if d.Top < e then e else d.Top)) [(vi (if d.Top < e then e else d.Top))] [(vi (if d.Top < e then e else d.Top)),(vs g ((d).Bits).length i)] wN sizeOf_3 aM ?_
    intro b3 V aN b4
    have aO:=aK.ext V (fun k hk=>by subst hk;exact nT (z3 s p r) q)
    refine nx ?_
    refine lN [(vi (if d.Top < e then e else d.Top)),(vs g ((d).Bits).length i)] wN isAgg_26 sizeOf_26 aN ?_
    have aP:=((((((((ab.kp r).kp D).ch E (nN (nL C (nT r.size q)))).kp A).ch T (Nat.not_le.2 (C))).kp J).ch O (fun h=>by have:=(own_lt m _ h).1;have:=nL C (Nat.le_refl B.heap.size);omega)).ch V (nN (nL C (nT r.size q))))
    refine sv [(vi (if d.Top < e then e else d.Top)),(vs g ((d).Bits).length i)] wN sizeOf_26 aP ?_
    intro b5 au aQ b6
    have aR:=aO.ext au (fun k hk=>by subst hk;exact nT s.size aa)
    refine aw (vb true) ?_
    refine n3 ?_
    have av:=(own_ch (own_ch aJ V (ne2 m (q))) au (ne1 m (C)))
    refine ret_2 (.inl rfl) (va [(vi (if d.Top < e then e else d.Top)),(vs g ((d).Bits).length i)]) (vb true) rfl (rv_c [(vi (if d.Top < e then e else d.Top)),(vs g ((d).Bits).length i)] rfl aQ isAgg_26 sizeOf_26) rfl ?_
    refine ⟨aR.keep0,?_⟩
    have aS:iAdd d e=({Top:=(if d.Top < e then e else d.Top),Bits:=((clrN d.Bits (if (d.Top+1) < ((e - 1024)+1) then ((e - 1024)+1) else (d.Top+1)) j).set ((((e % 1024) / 32)).toNat) (orI ((clrN d.Bits (if (d.Top+1) < ((e - 1024)+1) then ((e - 1024)+1) else (d.Top+1)) j).getD (((e % 1024) / 32)).toNat 0) (1*(2:Int) ^ ((e % 32)).toNat))):PWin},true):=by have hz:=addW_impl (l:=d.Bits) (top:=d.Top) (n:=e) (a:=(if (d.Top+1) < ((e - 1024)+1) then ((e - 1024)+1) else (d.Top+1))) (j:=j) (by omega) (by omega) (by omega);simp only [iAdd,F,H,cond_true];rw [← hz];rfl
    rw [aS]
    have ax:((d).Bits).length=(((clrN d.Bits (if (d.Top+1) < ((e - 1024)+1) then ((e - 1024)+1) else (d.Top+1)) j).set ((((e % 1024) / 32)).toNat) (orI ((clrN d.Bits (if (d.Top+1) < ((e - 1024)+1) then ((e - 1024)+1) else (d.Top+1)) j).getD (((e % 1024) / 32)).toNat 0) (1*(2:Int) ^ ((e % 32)).toNat)))).length:=by first|(simp only [List.length_append,List.length_take,List.length_replicate,List.length_set,List.length_map];done)|(simp only [List.length_append,List.length_take,List.length_replicate,List.length_set,List.length_map];omega)
    rw [ax] at av ⊢
    exact ⟨_,_,rfl,(own_lo av (z2 s p)),(by rw [← ax];exact af),⟨trivial,trivial⟩⟩
  have b7:=dT H
  refine ct H ?_
  refine wc_skip<|wq_then<|wc_seq<|wc_block ?_
  refine wc_drawT ([(27,[],[],(fun _ v _=>v=(vp t 1))),(28,[],[0],(fun _ v _=>v=(vs g ((d).Bits).length i))),(29,[],[],(fun _ v _=>v=(vi ((if (d.Top+1) < ((e - 1024)+1) then ((e - 1024)+1) else (d.Top+1))+((j:Nat):Int))))),(30,[],[2],(fun _ v _=>v=(vi (((if (d.Top+1) < ((e - 1024)+1) then ((e - 1024)+1) else (d.Top+1))+((j:Nat):Int)) % 1024)))),(31,[],[2,3],(fun _ v _=>v=(vi ((((if (d.Top+1) < ((e - 1024)+1) then ((e - 1024)+1) else (d.Top+1))+((j:Nat):Int)) % 1024) / 32)))),(32,[],[0,1,2,3,4],(fun _ v _=>v=(ve (vs g ((d).Bits).length i) ((((((if (d.Top+1) < ((e - 1024)+1) then ((e - 1024)+1) else (d.Top+1))+((j:Nat):Int)) % 1024) / 32)).toNat*1)))),(33,[],[0,1,2,3,4,5],(fun _ v _=>v=(vi ((clrN d.Bits (if (d.Top+1) < ((e - 1024)+1) then ((e - 1024)+1) else (d.Top+1)) j).getD (((((if (d.Top+1) < ((e - 1024)+1) then ((e - 1024)+1) else (d.Top+1))+((j:Nat):Int)) % 1024) / 32)).toNat 0)))),(34,[],[],(fun _ v _=>v=(vi ((if (d.Top+1) < ((e - 1024)+1) then ((e - 1024)+1) else (d.Top+1))+((j:Nat):Int))))),(35,[],[7],(fun _ v _=>v=(vi (((if (d.Top+1) < ((e - 1024)+1) then ((e - 1024)+1) else (d.Top+1))+((j:Nat):Int)) % 32)))),(36,[],[7,8],(fun _ v _=>v=(vi (1*(2:Int) ^ ((((if (d.Top+1) < ((e - 1024)+1) then ((e - 1024)+1) else (d.Top+1))+((j:Nat):Int)) % 32)).toNat))))]:GV) (fun _ o=>Keep M o) [] mixed rfl (by kernel_rfl) (by kernel_rfl) ?_ (fun _ _ h=>h) (fun _ _ _ _ h _ k=>h.trans k) trivial ?_ ?_ ?_
  ·exact ⟨hV,hE,⟨hV,hE,⟨hV,hE,⟨hV,hE,⟨hV,hE,⟨hV,hE,⟨hV,hE,⟨hV,hE,⟨hV,hE,⟨hV,hE,trivial⟩⟩⟩⟩⟩⟩⟩⟩⟩⟩
  ·exact trivial
  ·refine ⟨?_,⟨?_,⟨?_,⟨?_,⟨?_,⟨?_,⟨?_,⟨?_,⟨?_,⟨?_,trivial⟩⟩⟩⟩⟩⟩⟩⟩⟩⟩
   ·intro _ f b8 _
    rintro _ _ _ _ _ _ _ _ _ _
    refine sw ?_
    refine pu (vp t 1) wN ?_
    exact f1
   ·intro _ f aT _
    rintro _ rfl _ _ _ _ _ _ _ _ _
    refine sw ?_
    have aU:=(N.kp aT)
    refine ld (vs g ((d).Bits).length i) wN isAgg_24 aU ?_
    exact f1
   ·intro _ f b9 _
    rintro _ _ _ _ _ _ _ _ _ _
    refine sw ?_
    refine mw (vi ((if (d.Top+1) < ((e - 1024)+1) then ((e - 1024)+1) else (d.Top+1))+((j:Nat):Int))) ?_
    exact f1
   ·intro _ f bA _
    rintro _ _ _ rfl _ _ _ _ _ _ _
    refine sw ?_
    refine wl_rem ((if (d.Top+1) < ((e - 1024)+1) then ((e - 1024)+1) else (d.Top+1))+((j:Nat):Int)) 1024 wN rfl rfl (by kernel_rfl) (by first|omega|assumption) ?_
    exact f1
   ·intro _ f bB _
    rintro _ _ _ rfl _ rfl _ _ _ _ _ _
    refine sw ?_
    refine wl_quo (((if (d.Top+1) < ((e - 1024)+1) then ((e - 1024)+1) else (d.Top+1))+((j:Nat):Int)) % 1024) 32 wN rfl rfl (by kernel_rfl) (by omega) (by omega) (by omega) ?_
    exact f1
   ·intro _ f aV _
    rintro _ rfl _ rfl _ rfl _ rfl _ rfl _ _ _ _ _
    refine sw ?_
    have aW:=(own_kp G aV)
    refine ix wN ((((if (d.Top+1) < ((e - 1024)+1) then ((e - 1024)+1) else (d.Top+1))+((j:Nat):Int)) % 1024) / 32) slTy_24 (Rd.of_own aW) ?_
    exact f1
   ·intro _ f aX _
    rintro _ rfl _ rfl _ rfl _ rfl _ rfl _ rfl _ _ _ _
    refine sw ?_
    have aY:=(own_kp G aX)
    refine ei (x:=(clrN d.Bits (if (d.Top+1) < ((e - 1024)+1) then ((e - 1024)+1) else (d.Top+1)) j)) ((((((if (d.Top+1) < ((e - 1024)+1) then ((e - 1024)+1) else (d.Top+1))+((j:Nat):Int)) % 1024) / 32)).toNat) wN isAgg_3 (Rd.of_own aY) ?_
    exact f1
   ·intro _ f bC _
    rintro _ _ _ _ _ _ _ _ _ _
    refine sw ?_
    refine mw (vi ((if (d.Top+1) < ((e - 1024)+1) then ((e - 1024)+1) else (d.Top+1))+((j:Nat):Int))) ?_
    exact f1
   ·intro _ f bD _
    rintro _ _ _ _ _ _ _ _ rfl _ _
    refine sw ?_
    refine wl_rem ((if (d.Top+1) < ((e - 1024)+1) then ((e - 1024)+1) else (d.Top+1))+((j:Nat):Int)) 32 wN rfl rfl (by kernel_rfl) (by first|omega|assumption) ?_
    exact f1
   ·intro _ f bE _
    rintro _ _ _ _ _ _ _ _ rfl _ rfl _
    refine sw ?_
    refine wl_shl 1 (((if (d.Top+1) < ((e - 1024)+1) then ((e - 1024)+1) else (d.Top+1))+((j:Nat):Int)) % 32) wN rfl rfl rfl rfl rfl (by omega) (by omega) (by omega) (by omega) ?_
    have bF:=shl1_b ((((if (d.Top+1) < ((e - 1024)+1) then ((e - 1024)+1) else (d.Top+1))+((j:Nat):Int)) % 32)).toNat (by omega)
    exact f1
  ·intro _ f P
   rintro _ rfl _ rfl _ rfl _ rfl _ rfl _ rfl _ rfl _ rfl _ rfl _ rfl
   have bG:=shl1_b ((((if (d.Top+1) < ((e - 1024)+1) then ((e - 1024)+1) else (d.Top+1))+((j:Nat):Int)) % 32)).toNat (by omega)
   refine sw ?_
   refine wl_andn ((clrN d.Bits (if (d.Top+1) < ((e - 1024)+1) then ((e - 1024)+1) else (d.Top+1)) j).getD (((((if (d.Top+1) < ((e - 1024)+1) then ((e - 1024)+1) else (d.Top+1))+((j:Nat):Int)) % 1024) / 32)).toNat 0) (1*(2:Int) ^ ((((if (d.Top+1) < ((e - 1024)+1) then ((e - 1024)+1) else (d.Top+1))+((j:Nat):Int)) % 32)).toNat) wN rfl rfl (by kernel_rfl) (by omega) (by omega) (by omega) (by omega) ?_
   have bH:=andnI_b (a:=((clrN d.Bits (if (d.Top+1) < ((e - 1024)+1) then ((e - 1024)+1) else (d.Top+1)) j).getD (((((if (d.Top+1) < ((e - 1024)+1) then ((e - 1024)+1) else (d.Top+1))+((j:Nat):Int)) % 1024) / 32)).toNat 0)) (b:=(1*(2:Int) ^ ((((if (d.Top+1) < ((e - 1024)+1) then ((e - 1024)+1) else (d.Top+1))+((j:Nat):Int)) % 32)).toNat)) (by omega)
   have ay:=(own_kp G P)
   refine ix wN ((((if (d.Top+1) < ((e - 1024)+1) then ((e - 1024)+1) else (d.Top+1))+((j:Nat):Int)) % 1024) / 32) slTy_24 (Rd.of_own ay) ?_
   refine wl_storeI (clrN d.Bits (if (d.Top+1) < ((e - 1024)+1) then ((e - 1024)+1) else (d.Top+1)) j) ((((((if (d.Top+1) < ((e - 1024)+1) then ((e - 1024)+1) else (d.Top+1))+((j:Nat):Int)) % 1024) / 32)).toNat) ((andnI ((clrN d.Bits (if (d.Top+1) < ((e - 1024)+1) then ((e - 1024)+1) else (d.Top+1)) j).getD (((((if (d.Top+1) < ((e - 1024)+1) then ((e - 1024)+1) else (d.Top+1))+((j:Nat):Int)) % 1024) / 32)).toNat 0) (1*(2:Int) ^ ((((if (d.Top+1) < ((e - 1024)+1) then ((e - 1024)+1) else (d.Top+1))+((j:Nat):Int)) % 32)).toNat))) wN rfl rfl rfl (by simp) rfl sizeOf_3 ay (by first|omega|(simp only [List.length_append,List.length_replicate,List.length_take,List.length_set,List.length_map];omega)) ?_
   intro aI W aZ
   have ba:=(ap.extk P).ext W (fun k hk=>nT (z2 s p) (own_lt m k hk).1)
   refine wl_nil<|wq_blk_normal<|wq_then<|wc_region ?_
   refine mw (vi ((if (d.Top+1) < ((e - 1024)+1) then ((e - 1024)+1) else (d.Top+1))+((j:Nat):Int))) ?_
   refine ar (((if (d.Top+1) < ((e - 1024)+1) then ((e - 1024)+1) else (d.Top+1))+((j:Nat):Int))+1) wN ?_
   refine aw (vi (((if (d.Top+1) < ((e - 1024)+1) then ((e - 1024)+1) else (d.Top+1))+((j:Nat):Int))+1)) ?_
   refine wl_nil ?_
   have bb:(((clrN d.Bits (if (d.Top+1) < ((e - 1024)+1) then ((e - 1024)+1) else (d.Top+1)) j).set ((((((if (d.Top+1) < ((e - 1024)+1) then ((e - 1024)+1) else (d.Top+1))+((j:Nat):Int)) % 1024) / 32)).toNat) (andnI ((clrN d.Bits (if (d.Top+1) < ((e - 1024)+1) then ((e - 1024)+1) else (d.Top+1)) j).getD (((((if (d.Top+1) < ((e - 1024)+1) then ((e - 1024)+1) else (d.Top+1))+((j:Nat):Int)) % 1024) / 32)).toNat 0) (1*(2:Int) ^ ((((if (d.Top+1) < ((e - 1024)+1) then ((e - 1024)+1) else (d.Top+1))+((j:Nat):Int)) % 32)).toNat))):List Int)=clrN d.Bits (if (d.Top+1) < ((e - 1024)+1) then ((e - 1024)+1) else (d.Top+1)) (j+1):=by first|rfl|exact clrS _ _
   have bc:=((N.kp P).ch W (fun h=>by have:=(own_lt m _ h).2;have:=nT (Nat.le_refl ae.heap.size) q;omega))
   refine wq_loopP (w0:=M) [(1,(vi e)),(2,(vp I 0)),(4,(vp R 0)),(5,(vb false)),(6,(vp t 0)),(7,(vi ((if (d.Top+1) < ((e - 1024)+1) then ((e - 1024)+1) else (d.Top+1))+(((j+1):Nat):Int))))] ?_ ?_ ?_
   · exact ⟨rfl,rfl,rfl,rfl,rfl,(cA (Value.int .i64) (show ((((if (d.Top+1) < ((e - 1024)+1) then ((e - 1024)+1) else (d.Top+1))+((j:Nat):Int))+1):Int)=((if (d.Top+1) < ((e - 1024)+1) then ((e - 1024)+1) else (d.Top+1))+(((j+1):Nat):Int)) by omega)),trivial⟩
   · exact fun u=>⟨(j+1),u,rfl,ba,((((Ch.refl (fun k=>B.heap.size≤k) S).ext T (fun k hk=>hk)).extk P).ext W (fun k hk=>nT (Nat.le_refl B.heap.size) (own_lt m k hk).1)),(by omega),(by omega),(by rw [← bb];exact aZ),bc⟩
   · show (e - ((if (d.Top+1) < ((e - 1024)+1) then ((e - 1024)+1) else (d.Top+1))+(((j+1):Nat):Int))).toNat < (e - ((if (d.Top+1) < ((e - 1024)+1) then ((e - 1024)+1) else (d.Top+1))+((j:Nat):Int))).toNat;omega

def i_SameTag (a:List UInt8) (b:List UInt8):(Bool):=bif (decide ((a.length:Int)=16)) then (decide ((diffP a b)=0)) else (false)
theorem ciSameTag (e:World) (h:Value) (a:List UInt8) (o:R_22 e h a) (i:Value) (d:List UInt8) (p:R_22 e i d) :Fn Try.prog 70 #[h,i] e (fun v j=>Keep e j∧O_4 j e.heap.size v (i_SameTag a d)):=by
 obtain ⟨f,g,rfl,k,q⟩:=o
 obtain ⟨l,m,rfl,r,s⟩:=p
 refine fn_ofS (n:=14) [(vs f a.length g),(vs l d.length m)] Try.func70 rfl rfl ?_
 refine sr ?_
 refine aw (vb false) ?_
 refine nx ?_
 refine mw (vs f a.length g) ?_
 refine ln wN slTy_22 k ?_
 refine pu (vb (decide ((a.length:Int)=16))) wN ?_
 refine mw (vb (decide ((a.length:Int)=16))) ?_
 rcases bf (decide ((a.length:Int)=16)) with b|b
 ·have w:=dF b
  iterate 4 refine sk b ?_
  refine pf (vb false) wN b ?_
  refine aw (vb false) ?_
  refine n3 ?_
  refine rt (vb false) ?_
  refine ⟨Ch.refl _ _,?_⟩
  simp only [i_SameTag,b,cond_true,cond_false]
  exact rfl
 have x:=dT b
 refine mv (vs f a.length g) (wS b) ?_
 refine mv (vs l d.length m) (wS b) ?_
 refine cl (wS b) (ciDiff e _ a (mR_22 k q) _ d (mR_22 r s)) ?_
 rintro _ y ⟨t,rfl⟩
 have u:=(Ch.base e).extk t
 refine pu (vb (decide ((diffP a d)=0))) (wS b) ?_
 refine pk (vb (decide ((diffP a d)=0))) wN b ?_
 refine aw (vb (decide ((diffP a d)=0))) ?_
 refine n3 ?_
 refine rt (vb (decide ((diffP a d)=0))) ?_
 refine ⟨u.keep0,?_⟩
 simp only [i_SameTag,b,cond_true,cond_false]
 exact rfl

def i_Unseal (b:List UInt8) (d:Int) (a:PFrame):(List UInt8)×(Bool):=bif (decide ((b.length:Int)=32)) then (bif (decide (((i_TagInput d a).length:Int)=0)) then (([],false)) else (bif (i_SameTag a.Tag (tagP b (i_TagInput d a))) then (((mixB b (headOf d a.Sn a.Epoch a.Seq) a.Body),true)) else (([],false)))) else (([],false))
theorem ciUnseal (x:World) (ac:Value) (f:List UInt8) (ax:R_22 x ac f) (d:Int) (ad:Value) (a:PFrame) (ay:R_32 x ad a) :Fn Try.prog 55 #[ac,(vi d),ad] x (fun v o=>Keep x o∧O_22_4 o x.heap.size v (i_Unseal f d a)):=by
 obtain ⟨l,m,rfl,C,ae⟩:=ax
 obtain ⟨L,M,D,E,N,O,P,Q,F,G,H,I,rfl,az,a0,af,ah,a1,a2,a3,a4,ai,aj,ak,am⟩:=ay
 refine fn_ofS (n:=41) [(vs l f.length m),(vi d),(va (L_32 a L M D E N O P Q F G H I))] Try.func55 rfl rfl ?_
 refine sr ?_
 refine bx (L_32 a L M D E N O P Q F G H I) wN ?_
 intro p R bp bq an y
 have q:=(Ch.base x).extk an
 refine aw (vs none 0 0) ?_
 refine aw (vb false) ?_
 refine nx ?_
 refine mw (vi d) ?_
 refine lN (L_32 a L M D E N O P Q F G H I) wN isAgg_32 sizeOf_32 y ?_
 refine cl wN (ciTagInput R d _ a (mR_32 (az.from0 q) a0 (af.from0 q) ah (a1.from0 q) a2 (a3.from0 q) a4 (ai.from0 q) aj (ak.from0 q) am)) ?_
 rintro _ K ⟨r,⟨s,t,rfl,S,a5,br⟩⟩
 have u:=q.extk r
 refine aw (vs s (i_TagInput d a).length t) ?_
 refine wl_nil<|wq_then<|wc_seq<|wc_seq ?_
 rcases bf (decide ((f.length:Int)=32)) with i|i
 ·have bu:=dF i
  refine wc_drawT ([(12,[],[],(fun _ v _=>v=(vs l f.length m))),(13,[],[0],(fun _ v _=>v=(vi (f.length:Int)))),(14,[],[0,1],(fun _ v _=>v=(vb (!(decide ((f.length:Int)=32)))))),(15,[],[0,1,2],(fun _ v _=>v=(vb (!(decide ((f.length:Int)=32)))))),(16,[],[0,1,2,3],(fun _ v _=>v=U)),(17,[],[0,1,2,3,4],(fun _ v _=>v=U)),(18,[],[0,1,2,3,4,5],(fun _ v _=>v=U)),(19,[],[0,1,2,3,4,5,6],(fun _ v _=>v=(vb true))),(20,[],[0,1,2,3,4,5,6,7],(fun _ v _=>v=(vb true))),(21,[],[0,1,2,3,4,5,6,7,8],(fun _ v _=>v=U)),(22,[],[0,1,2,3,4,5,6,7,8,9],(fun _ v _=>v=U)),(23,[],[0,1,2,3,4,5,6,7,8],(fun _ v _=>v=U)),(24,[],[0,1,2,3,4,5,6,7,8],(fun _ v _=>v=U)),(25,[],[0,1,2,3,4,5,6,7,8,11,12],(fun _ v _=>v=U))]:GV) (fun _ o=>Keep K o) [] mixed rfl (by kernel_rfl) (by kernel_rfl) ?_ (fun _ _ h=>h) (fun _ _ _ _ h _ k=>h.trans k) trivial ?_ ?_ ?_
  ·exact ⟨hV,hE,⟨hV,hE,⟨hV,hE,⟨hV,hE,⟨hV,hE,⟨hV,hE,⟨hV,hE,⟨hV,hE,⟨hV,hE,⟨hV,hE,⟨hV,hE,⟨hV,hE,⟨hV,hE,⟨hV,hE,trivial⟩⟩⟩⟩⟩⟩⟩⟩⟩⟩⟩⟩⟩⟩
  ·exact trivial
  ·refine ⟨?_,⟨?_,⟨?_,⟨?_,⟨?_,⟨?_,⟨?_,⟨?_,⟨?_,⟨?_,⟨?_,⟨?_,⟨?_,⟨?_,trivial⟩⟩⟩⟩⟩⟩⟩⟩⟩⟩⟩⟩⟩⟩
   ·intro _ b bv _
    rintro _ _ _ _ _ _ _ _ _ _ _ _ _ _
    refine sw ?_
    refine mw (vs l f.length m) ?_
    exact f1
   ·intro _ b a6 _
    have a7:=u.extk a6
    rintro _ rfl _ _ _ _ _ _ _ _ _ _ _ _ _
    refine sw ?_
    refine ln wN slTy_22 (C.from0 a7) ?_
    exact f1
   ·intro _ b bw _
    rintro _ rfl _ rfl _ _ _ _ _ _ _ _ _ _ _ _
    refine sw ?_
    refine pu (vb (!(decide ((f.length:Int)=32)))) wN ?_
    exact f1
   ·intro _ b bz _
    rintro _ rfl _ rfl _ rfl _ _ _ _ _ _ _ _ _ _ _
    refine sw ?_
    refine mw (vb (!(decide ((f.length:Int)=32)))) ?_
    exact f1
   ·intro _ b b0 _
    rintro _ rfl _ rfl _ rfl _ rfl _ _ _ _ _ _ _ _ _ _
    refine sw ?_
    refine sk (cA not i) ?_
    exact f1
   ·intro _ b b1 _
    rintro _ rfl _ rfl _ rfl _ rfl _ rfl _ _ _ _ _ _ _ _ _
    refine sw ?_
    refine sk (cA not i) ?_
    exact f1
   ·intro _ b b2 _
    rintro _ rfl _ rfl _ rfl _ rfl _ rfl _ rfl _ _ _ _ _ _ _ _
    refine sw ?_
    refine sk (cA not i) ?_
    exact f1
   ·intro _ b b3 _
    rintro _ rfl _ rfl _ rfl _ rfl _ rfl _ rfl _ rfl _ _ _ _ _ _ _
    refine sw ?_
    refine pk (vb true) wN (cA not i) ?_
    exact f1
   ·intro _ b b4 _
    rintro _ rfl _ rfl _ rfl _ rfl _ rfl _ rfl _ rfl _ rfl _ _ _ _ _ _
    refine sw ?_
    refine mw (vb true) ?_
    exact f1
   ·intro _ b b5 _
    rintro _ rfl _ rfl _ rfl _ rfl _ rfl _ rfl _ rfl _ rfl _ rfl _ _ _ _ _
    refine sw ?_
    refine sk T1 ?_
    exact f1
   ·intro _ b b6 _
    rintro _ rfl _ rfl _ rfl _ rfl _ rfl _ rfl _ rfl _ rfl _ rfl _ rfl _ _ _ _
    refine sw ?_
    refine sk T1 ?_
    exact f1
   ·intro _ b b7 _
    rintro _ rfl _ rfl _ rfl _ rfl _ rfl _ rfl _ rfl _ rfl _ rfl _ _ _ _ _
    refine sw ?_
    refine sk T1 ?_
    exact f1
   ·intro _ b b8 _
    rintro _ rfl _ rfl _ rfl _ rfl _ rfl _ rfl _ rfl _ rfl _ rfl _ _ _ _ _
    refine sw ?_
    refine sk T1 ?_
    exact f1
   ·intro _ b b9 _
    rintro _ rfl _ rfl _ rfl _ rfl _ rfl _ rfl _ rfl _ rfl _ rfl _ _ _ rfl _ rfl _
    refine sw ?_
    refine sk T1 ?_
    exact f1
  ·intro _ b a8
   have a9:=u.extk a8
   rintro _ rfl _ rfl _ rfl _ rfl _ rfl _ rfl _ rfl _ rfl _ rfl _ rfl _ rfl _ rfl _ rfl _ rfl
   refine sw ?_
   iterate 2 refine sk (Eq.refl true) ?_
   refine pk (vb true) wN (Eq.refl true) ?_
   refine n2 ?_
   refine ct (Eq.refl true) ?_
   refine sr ?_
   refine aw (vs none 0 0) ?_
   refine aw (vb false) ?_
   refine n1 ?_
   refine ret_2 (.inl rfl) (vs none 0 0) (vb false) rfl rfl rfl ?_
   refine ⟨a9.keep0,?_⟩
   simp only [i_Unseal,i,cond_true,cond_false]
   exact ⟨_,_,rfl,(by first|exact own_nil _ _ _ _|exact OLv.nil _ _ _ _),(by simp),⟨trivial,trivial⟩⟩
 have bA:=dT i
 rcases bt (decide (((i_TagInput d a).length:Int)=0)) with g|g
 ·have bB:=dT g
  refine wc_drawT ([(12,[],[],(fun _ v _=>v=(vs l f.length m))),(13,[],[0],(fun _ v _=>v=(vi (f.length:Int)))),(14,[],[0,1],(fun _ v _=>v=(vb (!(decide ((f.length:Int)=32)))))),(15,[],[0,1,2],(fun _ v _=>v=(vb (!(decide ((f.length:Int)=32)))))),(16,[],[0,1,2,3],(fun _ v _=>v=(vs s (i_TagInput d a).length t))),(17,[],[0,1,2,3,4],(fun _ v _=>v=(vi ((i_TagInput d a).length:Int)))),(18,[],[0,1,2,3,4,5],(fun _ v _=>v=(vb (decide (((i_TagInput d a).length:Int)=0))))),(19,[],[0,1,2,3,4,5,6],(fun _ v _=>v=(vb (decide (((i_TagInput d a).length:Int)=0))))),(20,[],[0,1,2,3,4,5,6,7],(fun _ v _=>v=(vb (decide (((i_TagInput d a).length:Int)=0))))),(21,[],[0,1,2,3,4,5,6,7,8],(fun _ v _=>v=U)),(22,[],[0,1,2,3,4,5,6,7,8,9],(fun _ v _=>v=U)),(23,[],[0,1,2,3,4,5,6,7,8],(fun _ v _=>v=U)),(24,[],[0,1,2,3,4,5,6,7,8],(fun _ v _=>v=U)),(25,[],[0,1,2,3,4,5,6,7,8,11,12],(fun _ v _=>v=U))]:GV) (fun _ o=>Keep K o) [] mixed rfl (by kernel_rfl) (by kernel_rfl) ?_ (fun _ _ h=>h) (fun _ _ _ _ h _ k=>h.trans k) trivial ?_ ?_ ?_
  ·exact ⟨hV,hE,⟨hV,hE,⟨hV,hE,⟨hV,hE,⟨hV,hE,⟨hV,hE,⟨hV,hE,⟨hV,hE,⟨hV,hE,⟨hV,hE,⟨hV,hE,⟨hV,hE,⟨hV,hE,⟨hV,hE,trivial⟩⟩⟩⟩⟩⟩⟩⟩⟩⟩⟩⟩⟩⟩
  ·exact trivial
  ·refine ⟨?_,⟨?_,⟨?_,⟨?_,⟨?_,⟨?_,⟨?_,⟨?_,⟨?_,⟨?_,⟨?_,⟨?_,⟨?_,⟨?_,trivial⟩⟩⟩⟩⟩⟩⟩⟩⟩⟩⟩⟩⟩⟩
   ·intro _ b bC _
    rintro _ _ _ _ _ _ _ _ _ _ _ _ _ _
    refine sw ?_
    refine mw (vs l f.length m) ?_
    exact f1
   ·intro _ b aA _
    have aB:=u.extk aA
    rintro _ rfl _ _ _ _ _ _ _ _ _ _ _ _ _
    refine sw ?_
    refine ln wN slTy_22 (C.from0 aB) ?_
    exact f1
   ·intro _ b bD _
    rintro _ rfl _ rfl _ _ _ _ _ _ _ _ _ _ _ _
    refine sw ?_
    refine pu (vb (!(decide ((f.length:Int)=32)))) wN ?_
    exact f1
   ·intro _ b bE _
    rintro _ rfl _ rfl _ rfl _ _ _ _ _ _ _ _ _ _ _
    refine sw ?_
    refine mw (vb (!(decide ((f.length:Int)=32)))) ?_
    exact f1
   ·intro _ b bF _
    rintro _ rfl _ rfl _ rfl _ rfl _ _ _ _ _ _ _ _ _ _
    refine sw ?_
    refine mv (vs s (i_TagInput d a).length t) (wS (cA not i)) ?_
    exact f1
   ·intro _ b aC _
    rintro _ rfl _ rfl _ rfl _ rfl _ rfl _ _ _ _ _ _ _ _ _
    refine sw ?_
    have aD:=(own_kp S aC)
    refine ln (wS (cA not i)) slTy_22 (Rd.of_own aD) ?_
    exact f1
   ·intro _ b bG _
    rintro _ rfl _ rfl _ rfl _ rfl _ rfl _ rfl _ _ _ _ _ _ _ _
    refine sw ?_
    refine pu (vb (decide (((i_TagInput d a).length:Int)=0))) (wS (cA not i)) ?_
    exact f1
   ·intro _ b bH _
    rintro _ rfl _ rfl _ rfl _ rfl _ rfl _ rfl _ rfl _ _ _ _ _ _ _
    refine sw ?_
    refine pf (vb (decide (((i_TagInput d a).length:Int)=0))) wN (cA not i) ?_
    exact f1
   ·intro _ b bI _
    rintro _ rfl _ rfl _ rfl _ rfl _ rfl _ rfl _ rfl _ rfl _ _ _ _ _ _
    refine sw ?_
    refine mw (vb (decide (((i_TagInput d a).length:Int)=0))) ?_
    exact f1
   ·intro _ b bJ _
    rintro _ rfl _ rfl _ rfl _ rfl _ rfl _ rfl _ rfl _ rfl _ rfl _ _ _ _ _
    refine sw ?_
    refine sk g ?_
    exact f1
   ·intro _ b bK _
    rintro _ rfl _ rfl _ rfl _ rfl _ rfl _ rfl _ rfl _ rfl _ rfl _ rfl _ _ _ _
    refine sw ?_
    refine sk g ?_
    exact f1
   ·intro _ b bL _
    rintro _ rfl _ rfl _ rfl _ rfl _ rfl _ rfl _ rfl _ rfl _ rfl _ _ _ _ _
    refine sw ?_
    refine sk g ?_
    exact f1
   ·intro _ b bM _
    rintro _ rfl _ rfl _ rfl _ rfl _ rfl _ rfl _ rfl _ rfl _ rfl _ _ _ _ _
    refine sw ?_
    refine sk g ?_
    exact f1
   ·intro _ b bN _
    rintro _ rfl _ rfl _ rfl _ rfl _ rfl _ rfl _ rfl _ rfl _ rfl _ _ _ rfl _ rfl _
    refine sw ?_
    refine sk g ?_
    exact f1
  ·intro _ b aE
   have aF:=u.extk aE
   rintro _ rfl _ rfl _ rfl _ rfl _ rfl _ rfl _ rfl _ rfl _ rfl _ rfl _ rfl _ rfl _ rfl _ rfl
   refine sw ?_
   iterate 2 refine sk g ?_
   refine pk (vb true) wN g ?_
   refine n2 ?_
   refine ct (Eq.refl true) ?_
   refine sr ?_
   refine aw (vs none 0 0) ?_
   refine aw (vb false) ?_
   refine n1 ?_
   refine ret_2 (.inl rfl) (vs none 0 0) (vb false) rfl rfl rfl ?_
   refine ⟨aF.keep0,?_⟩
   simp only [i_Unseal,i,g,cond_true,cond_false]
   exact ⟨_,_,rfl,(by first|exact own_nil _ _ _ _|exact OLv.nil _ _ _ _),(by simp),⟨trivial,trivial⟩⟩
 have bO:=dF g
 refine wc_drawT ([(12,[],[],(fun _ v _=>v=(vs l f.length m))),(13,[],[0],(fun _ v _=>v=(vi (f.length:Int)))),(14,[],[0,1],(fun _ v _=>v=(vb (!(decide ((f.length:Int)=32)))))),(15,[],[0,1,2],(fun _ v _=>v=(vb (!(decide ((f.length:Int)=32)))))),(16,[],[0,1,2,3],(fun _ v _=>v=(vs s (i_TagInput d a).length t))),(17,[],[0,1,2,3,4],(fun _ v _=>v=(vi ((i_TagInput d a).length:Int)))),(18,[],[0,1,2,3,4,5],(fun _ v _=>v=(vb (decide (((i_TagInput d a).length:Int)=0))))),(19,[],[0,1,2,3,4,5,6],(fun _ v _=>v=(vb (decide (((i_TagInput d a).length:Int)=0))))),(20,[],[0,1,2,3,4,5,6,7],(fun _ v _=>v=(vb (decide (((i_TagInput d a).length:Int)=0))))),(21,[],[0,1,2,3,4,5,6,7,8],(fun _ v _=>v=(vp p 10))),(22,[],[0,1,2,3,4,5,6,7,8,9],(fun _ v _=>v=(vs H a.Tag.length I))),(23,[],[0,1,2,3,4,5,6,7,8],(fun _ v _=>v=(vs l f.length m))),(24,[],[0,1,2,3,4,5,6,7,8],(fun _ v _=>v=(vs s (i_TagInput d a).length t))),(25,[],[0,1,2,3,4,5,6,7,8,11,12],(fun _ v w=>O_22 w K.heap.size v (tagP f (i_TagInput d a))))]:GV) (fun _ o=>Keep K o) [] mixed rfl (by kernel_rfl) (by kernel_rfl) ?_ (fun _ _ h=>h) (fun _ _ _ _ h _ k=>h.trans k) trivial ?_ ?_ ?_
 ·exact ⟨hV,hE,⟨hV,hE,⟨hV,hE,⟨hV,hE,⟨hV,hE,⟨hV,hE,⟨hV,hE,⟨hV,hE,⟨hV,hE,⟨hV,hE,⟨hV,hE,⟨hV,hE,⟨hV,hE,⟨(fun e v w R h hk=>by obtain ⟨T,V,he,W,X,hap⟩:=h;exact ⟨T,V,he,own_kp W hk,X,hap⟩),hE,trivial⟩⟩⟩⟩⟩⟩⟩⟩⟩⟩⟩⟩⟩⟩
 ·exact trivial
 ·refine ⟨?_,⟨?_,⟨?_,⟨?_,⟨?_,⟨?_,⟨?_,⟨?_,⟨?_,⟨?_,⟨?_,⟨?_,⟨?_,⟨?_,trivial⟩⟩⟩⟩⟩⟩⟩⟩⟩⟩⟩⟩⟩⟩
  ·intro _ b bP _
   rintro _ _ _ _ _ _ _ _ _ _ _ _ _ _
   refine sw ?_
   refine mw (vs l f.length m) ?_
   exact f1
  ·intro _ b aG _
   have aH:=u.extk aG
   rintro _ rfl _ _ _ _ _ _ _ _ _ _ _ _ _
   refine sw ?_
   refine ln wN slTy_22 (C.from0 aH) ?_
   exact f1
  ·intro _ b bQ _
   rintro _ rfl _ rfl _ _ _ _ _ _ _ _ _ _ _ _
   refine sw ?_
   refine pu (vb (!(decide ((f.length:Int)=32)))) wN ?_
   exact f1
  ·intro _ b bR _
   rintro _ rfl _ rfl _ rfl _ _ _ _ _ _ _ _ _ _ _
   refine sw ?_
   refine mw (vb (!(decide ((f.length:Int)=32)))) ?_
   exact f1
  ·intro _ b bS _
   rintro _ rfl _ rfl _ rfl _ rfl _ _ _ _ _ _ _ _ _ _
   refine sw ?_
   refine mv (vs s (i_TagInput d a).length t) (wS (cA not i)) ?_
   exact f1
  ·intro _ b aI _
   rintro _ rfl _ rfl _ rfl _ rfl _ rfl _ _ _ _ _ _ _ _ _
   refine sw ?_
   have aJ:=(own_kp S aI)
   refine ln (wS (cA not i)) slTy_22 (Rd.of_own aJ) ?_
   exact f1
  ·intro _ b bT _
   rintro _ rfl _ rfl _ rfl _ rfl _ rfl _ rfl _ _ _ _ _ _ _ _
   refine sw ?_
   refine pu (vb (decide (((i_TagInput d a).length:Int)=0))) (wS (cA not i)) ?_
   exact f1
  ·intro _ b bU _
   rintro _ rfl _ rfl _ rfl _ rfl _ rfl _ rfl _ rfl _ _ _ _ _ _ _
   refine sw ?_
   refine pf (vb (decide (((i_TagInput d a).length:Int)=0))) wN (cA not i) ?_
   exact f1
  ·intro _ b bW _
   rintro _ rfl _ rfl _ rfl _ rfl _ rfl _ rfl _ rfl _ rfl _ _ _ _ _ _
   refine sw ?_
   refine mw (vb (decide (((i_TagInput d a).length:Int)=0))) ?_
   exact f1
  ·intro _ b bX _
   rintro _ rfl _ rfl _ rfl _ rfl _ rfl _ rfl _ rfl _ rfl _ rfl _ _ _ _ _
   refine sw ?_
   refine pu (vp p 10) (wS g) ?_
   exact f1
  ·intro _ b aK _
   rintro _ rfl _ rfl _ rfl _ rfl _ rfl _ rfl _ rfl _ rfl _ rfl _ rfl _ _ _ _
   refine sw ?_
   have aL:=((y.kp r).kp aK)
   refine ld (vs H a.Tag.length I) (wS g) isAgg_22 aL ?_
   exact f1
  ·intro _ b bY _
   rintro _ rfl _ rfl _ rfl _ rfl _ rfl _ rfl _ rfl _ rfl _ rfl _ _ _ _ _
   refine sw ?_
   refine mv (vs l f.length m) (wS g) ?_
   exact f1
  ·intro _ b bZ _
   rintro _ rfl _ rfl _ rfl _ rfl _ rfl _ rfl _ rfl _ rfl _ rfl _ _ _ _ _
   refine sw ?_
   refine mv (vs s (i_TagInput d a).length t) (wS g) ?_
   exact f1
  ·intro _ b Y _
   have aM:=u.extk Y
   rintro _ rfl _ rfl _ rfl _ rfl _ rfl _ rfl _ rfl _ rfl _ rfl _ _ _ rfl _ rfl _
   refine sw ?_
   have aN:=(own_kp S Y)
   refine cl (wS g) (ciTag b _ f (mR_22 (C.from0 aM) ae) _ (i_TagInput d a) (mR_22 (Rd.of_own aN) a5)) ?_
   rintro _ Z ⟨aO,⟨ca,cb,rfl,aP,aQ,aR⟩⟩
   have cc:=tagP_len f (i_TagInput d a)
   exact wl_finT aO ⟨_,_,rfl,(own_lo aP Y.size),aQ,aR⟩
 ·intro _ b A
  have ao:=u.extk A
  rintro _ rfl _ rfl _ rfl _ rfl _ rfl _ rfl _ rfl _ rfl _ rfl _ rfl _ rfl _ rfl _ rfl _ ⟨cd,ce,rfl,aS,aT,cg⟩
  have ci:=tagP_len f (i_TagInput d a)
  refine sw ?_
  refine cl (wS g) (ciSameTag b _ a.Tag (mR_22 (ak.from0 ao) am) _ (tagP f (i_TagInput d a)) (mR_22 (Rd.of_own aS) aT)) ?_
  rintro _ Z ⟨B,rfl⟩
  have aa:=ao.extk B
  refine pu (vb (!(i_SameTag a.Tag (tagP f (i_TagInput d a))))) (wS g) ?_
  refine pf (vb (!(i_SameTag a.Tag (tagP f (i_TagInput d a))))) wN g ?_
  refine n2 ?_
  rcases bf (i_SameTag a.Tag (tagP f (i_TagInput d a))) with J|J
  ·refine ct (cA not J) ?_
   refine sr ?_
   refine aw (vs none 0 0) ?_
   refine aw (vb false) ?_
   refine n1 ?_
   refine ret_2 (.inl rfl) (vs none 0 0) (vb false) rfl rfl rfl ?_
   refine ⟨aa.keep0,?_⟩
   simp only [i_Unseal,i,g,J,cond_true,cond_false]
   exact ⟨_,_,rfl,(by first|exact own_nil _ _ _ _|exact OLv.nil _ _ _ _),(by simp),⟨trivial,trivial⟩⟩
  refine cf (cA not J) ?_
  refine wc_skip<|wq_then<|wc_seq ?_
  refine wc_drawT ([(29,[],[],(fun _ v _=>v=(vs l f.length m))),(30,[],[],(fun _ v _=>v=(vi d))),(31,[],[],(fun _ v _=>v=(vp p 3))),(32,[],[2],(fun _ v _=>v=(vs D a.Sn.length E))),(33,[],[],(fun _ v _=>v=(vp p 7))),(34,[],[4],(fun _ v _=>v=(vi a.Epoch))),(35,[],[],(fun _ v _=>v=(vp p 8))),(36,[],[6],(fun _ v _=>v=(vi a.Seq))),(37,[],[1,2,3,4,5,6,7],(fun _ v w=>O_22 w Z.heap.size v (headOf d a.Sn a.Epoch a.Seq))),(38,[],[],(fun _ v _=>v=(vp p 9))),(39,[],[9],(fun _ v _=>v=(vs F a.Body.length G)))]:GV) (fun _ o=>Keep Z o) [] mixed rfl (by kernel_rfl) (by kernel_rfl) ?_ (fun _ _ h=>h) (fun _ _ _ _ h _ k=>h.trans k) trivial ?_ ?_ ?_
  ·exact ⟨hV,hE,⟨hV,hE,⟨hV,hE,⟨hV,hE,⟨hV,hE,⟨hV,hE,⟨hV,hE,⟨hV,hE,⟨(fun e v w R h hk=>by obtain ⟨T,V,he,W,X,hap⟩:=h;exact ⟨T,V,he,own_kp W hk,X,hap⟩),hE,⟨hV,hE,⟨hV,hE,trivial⟩⟩⟩⟩⟩⟩⟩⟩⟩⟩⟩
  ·exact trivial
  ·refine ⟨?_,⟨?_,⟨?_,⟨?_,⟨?_,⟨?_,⟨?_,⟨?_,⟨?_,⟨?_,⟨?_,trivial⟩⟩⟩⟩⟩⟩⟩⟩⟩⟩⟩
   ·intro _ j cj _
    rintro _ _ _ _ _ _ _ _ _ _ _
    refine sw ?_
    refine mw (vs l f.length m) ?_
    exact f1
   ·intro _ j ck _
    rintro _ _ _ _ _ _ _ _ _ _ _
    refine sw ?_
    refine mw (vi d) ?_
    exact f1
   ·intro _ j cm _
    rintro _ _ _ _ _ _ _ _ _ _ _
    refine sw ?_
    refine pu (vp p 3) wN ?_
    exact f1
   ·intro _ j aU _
    rintro _ _ _ rfl _ _ _ _ _ _ _ _
    refine sw ?_
    have aV:=((((y.kp r).kp A).kp B).kp aU)
    refine ld (vs D a.Sn.length E) wN isAgg_22 aV ?_
    exact f1
   ·intro _ j cn _
    rintro _ _ _ _ _ _ _ _ _ _ _
    refine sw ?_
    refine pu (vp p 7) wN ?_
    exact f1
   ·intro _ j aW _
    rintro _ _ _ _ _ rfl _ _ _ _ _ _
    refine sw ?_
    have aX:=((((y.kp r).kp A).kp B).kp aW)
    refine ld (vi a.Epoch) wN isAgg_3 aX ?_
    exact f1
   ·intro _ j co _
    rintro _ _ _ _ _ _ _ _ _ _ _
    refine sw ?_
    refine pu (vp p 8) wN ?_
    exact f1
   ·intro _ j aY _
    rintro _ _ _ _ _ _ _ rfl _ _ _ _
    refine sw ?_
    have aZ:=((((y.kp r).kp A).kp B).kp aY)
    refine ld (vi a.Seq) wN isAgg_3 aZ ?_
    exact f1
   ·intro _ j ap _
    have ba:=aa.extk ap
    rintro _ _ rfl _ rfl _ rfl _ rfl _ rfl _ rfl _ rfl _ _ _
    refine sw ?_
    refine cl wN (ciHeadOf j d _ a.Sn (mR_22 (af.from0 ba) ah) a.Epoch a.Seq) ?_
    rintro _ bb ⟨bc,⟨cp,cq,rfl,bd,be,bg⟩⟩
    have cr:=headOf_len d a.Sn a.Epoch a.Seq
    exact wl_finT bc ⟨_,_,rfl,(own_lo bd ap.size),be,bg⟩
   ·intro _ j cs _
    rintro _ _ _ _ _ _ _ _ _ _ _
    refine sw ?_
    refine pu (vp p 9) wN ?_
    exact f1
   ·intro _ j bh _
    rintro _ _ _ _ _ _ _ _ _ _ rfl _
    refine sw ?_
    have bi:=((((y.kp r).kp A).kp B).kp bh)
    refine ld (vs F a.Body.length G) wN isAgg_22 bi ?_
    exact f1
  ·intro _ j aq
   have ab:=aa.extk aq
   rintro _ rfl _ rfl _ rfl _ rfl _ rfl _ rfl _ rfl _ rfl _ ⟨cu,cv,rfl,bj,bk,cw⟩
   have cx:=headOf_len d a.Sn a.Epoch a.Seq
   rintro _ rfl _ rfl
   refine sw ?_
   refine cl wN (ciMix j _ f (mR_22 (C.from0 ab) ae) _ (headOf d a.Sn a.Epoch a.Seq) (mR_22 (Rd.of_own bj) bk) _ a.Body (mR_22 (ai.from0 ab) aj)) ?_
   rintro _ bb ⟨bl,⟨au,av,rfl,bm,bn,cy⟩⟩
   have bo:=ab.extk bl
   have cz:=mixB_len f (headOf d a.Sn a.Epoch a.Seq) a.Body
   refine aw (vs au (mixB f (headOf d a.Sn a.Epoch a.Seq) a.Body).length av) ?_
   refine aw (vb true) ?_
   refine n3 ?_
   refine ret_2 (.inl rfl) (vs au (mixB f (headOf d a.Sn a.Epoch a.Seq) a.Body).length av) (vb true) rfl rfl rfl ?_
   refine ⟨bo.keep0,?_⟩
   simp only [i_Unseal,i,g,J,cond_true,cond_false]
   exact ⟨_,_,rfl,(own_lo bm (z5 an r A B aq)),bn,⟨trivial,trivial⟩⟩

def O_28_22_3 (w:World) (lo:Nat) (v:Value) (x:(PEp)×(List UInt8)×(Int)):Prop:=∃ (a:Option Addr) (b:Nat) (d:Option Addr) (e:Nat) (f:Option Addr) (g:Nat),v=.tuple #[.agg #[.int .i64 x.1.N,.slice a x.1.Key.length b,.int .i64 x.1.Seq,.int .i64 x.1.Win.Top,.slice d x.1.Win.Bits.length e],.slice f x.2.1.length g,.int .i64 x.2.2]∧w.ownsRow lo 5 1 (.slice a x.1.Key.length b) x.1.Key.length (x.1.Key.map bV)∧x.1.Key.length≤1073741824∧w.ownsRow lo 3 1 (.slice d x.1.Win.Bits.length e) x.1.Win.Bits.length (x.1.Win.Bits.map iV)∧x.1.Win.Bits.length≤1073741824∧w.ownsRow lo 5 1 (.slice f x.2.1.length g) x.2.1.length (x.2.1.map bV)∧x.2.1.length≤1073741824∧Aps [(a,b),(d,e),(f,g)]
def i_EpOpen (a:PEp) (d:Int) (b:PFrame):(PEp)×(List UInt8)×(Int):=bif (i_EpOk a) then (bif (decide (((i_TagInput d b).length:Int)=0)) then (((a),[],1)) else (bif (decide (b.Epoch=a.N)) then (bif ((iAdd a.Win b.Seq).2) then (bif ((i_Unseal a.Key d b).2) then (({N:=(a).N,Key:=(a).Key,Seq:=(a).Seq,Win:=((iAdd a.Win b.Seq).1):PEp},(i_Unseal a.Key d b).1,0)) else (((a),[],2))) else (((a),[],3))) else (((a),[],1)))) else (((a),[],1))
theorem ciEpOpen (Q:World) (aG:Value) (a:PEp) (bm:R_28 Q aG a) (g:Int) (aH:Value) (b:PFrame) (bn:R_32 Q aH b) :Fn Try.prog 31 #[aG,(vi g),aH] Q (fun v aI=>Keep Q aI∧O_28_22_3 aI Q.heap.size v (i_EpOpen a g b)):=by
 obtain ⟨X,Y,Z,aa,rfl,a5,a6,a7,a8⟩:=bm
 obtain ⟨af,ah,ai,aj,ak,am,an,ao,ap,aq,au,av,rfl,aJ,aK,aL,aM,aN,aO,aP,aQ,aR,aS,aT,aU⟩:=bn
 refine fn_ofS (n:=59) [(va (L_28 a X Y Z aa)),(vi g),(va (L_32 b af ah ai aj ak am an ao ap aq au av))] Try.func31 rfl rfl ?_
 refine sr ?_
 refine bx (L_28 a X Y Z aa) wN ?_
 intro ax cg ci aV t bo
 refine bx (L_32 b af ah ai aj ak am an ao ap aq au av) wN ?_
 intro a9 cj ck aW l bp
 refine al Z_28 wN zero_28 ?_
 intro bq J ay y m az
 have aA:=(((Ch.base Q).extk t).extk l).extk m
 refine aw (vs none 0 0) ?_
 refine aw (vi 0) ?_
 refine nx ?_
 have aX:=((bo.kp l).kp m)
 refine lN (L_28 a X Y Z aa) wN isAgg_28 sizeOf_28 aX ?_
 refine cl wN (cicopyEp J _ a (mR_28 (a5.from0 aA) a6 (a7.from0 aA) a8)) ?_
 rintro _ O ⟨i,⟨p,q,B,C,rfl,I,a0,R,aB,aC⟩⟩
 refine al Z_28 wN zero_28 ?_
 intro aY cm A ab j br
 refine sv (L_28 (a) p q B C) wN sizeOf_28 br ?_
 intro bu f a1 cn
 have a2:=((aA.extk i).extk j).ext f (fun k hk=>by subst hk;exact nT (z4 t l m i) A)
 refine n4 ?_
 refine jT1 [(1,(vi g)),(3,(vp ax 0)),(5,(vp a9 0)),(6,(vp bq 0)),(7,(vs none 0 0)),(8,(vi 0)),(9,(vp aY 0))] (i_EpOpen a g b=((a),[],1)) ?_ fun aD=>?_
 ·intro bv aZ a3 co
  refine sr ?_
  have bw:=(a1.kp a3)
  refine lN (L_28 (a) p q B C) wN isAgg_28 sizeOf_28 bw ?_
  have bz:=((((az.kp i).kp j).ch f (nN (nL y (nT i.size A)))).kp a3)
  refine sv (L_28 (a) p q B C) wN sizeOf_28 bz ?_
  intro ba bb b0 cp
  have b1:=(a2.extk a3).ext bb (fun k hk=>by subst hk;exact nT (z2 t l) ay)
  refine aw (vs none 0 0) ?_
  refine aw (vi 1) ?_
  refine n1 ?_
  have bc:=fun (E sz n:Nat) (v:Value) (F:List Value) (o:World.ownsRow O J.heap.size E sz v n F) (x:World.ownsRow O J.heap.size E sz v n F)=>(own_ch (own_kp (own_ch (own_kp o j) f (ne2 x (A))) a3) bb (ne1 x (y)))
  have b2:=(bc _ _ _ _ _ I I)
  have b3:=(bc _ _ _ _ _ R R)
  refine ret_3 (.inl rfl) (va (L_28 (a) p q B C)) (vs none 0 0) (vi 1) rfl (rv_c (L_28 (a) p q B C) rfl b0 isAgg_28 sizeOf_28) rfl rfl ?_
  refine ⟨b1.keep0,?_⟩
  rw [bv]
  exact ⟨_,_,_,_,_,_,rfl,(own_lo b2 (z3 t l m)),a0,(own_lo b3 (z3 t l m)),aB,(by first|exact own_nil _ _ _ _|exact OLv.nil _ _ _ _),(by simp),⟨⟨(aC.1.1),⟨(Ap.nr _),trivial⟩⟩,⟨⟨(Ap.nr _),trivial⟩,⟨trivial,trivial⟩⟩⟩⟩
 have bd:=(((aX.kp i).kp j).ch f (nN (nL aV (nT (z3 l m i) A))))
 refine lN (L_28 a X Y Z aa) wN isAgg_28 sizeOf_28 bd ?_
 refine cl wN (ciEpOk bu _ a (mR_28 (a5.from0 a2) a6 (a7.from0 a2) a8)) ?_
 rintro _ aZ ⟨d,rfl⟩
 have P:=a2.extk d
 refine pu (vb (!(i_EpOk a))) wN ?_
 refine mw (vb (!(i_EpOk a))) ?_
 rcases bf (i_EpOk a) with u|u
 ·iterate 5 refine sk (cA not u) ?_
  refine pk (vb true) wN (cA not u) ?_
  refine mw (vb true) ?_
  iterate 5 refine sk (Eq.refl true) ?_
  refine pk (vb true) wN (Eq.refl true) ?_
  refine n2 ?_
  refine ct (Eq.refl true) ?_
  have b4:i_EpOpen a g b=((a),[],1):=by simp only [i_EpOpen,u,cond_true,cond_false]
  exact wj (aD b4 _ d)
 have cq:=impl_EpOk_t u
 refine mv (vi g) (wS (cA not u)) ?_
 have be:=(((((bp.kp m).kp i).kp j).ch f (nN (nL aW (nT (z2 m i) A)))).kp d)
 refine lN (L_32 b af ah ai aj ak am an ao ap aq au av) (wS (cA not u)) isAgg_32 sizeOf_32 be ?_
 refine cl (wS (cA not u)) (ciTagInput aZ g _ b (mR_32 (aJ.from0 P) aK (aL.from0 P) aM (aN.from0 P) aO (aP.from0 P) aQ (aR.from0 P) aS (aT.from0 P) aU)) ?_
 rintro _ ba ⟨e,⟨cr,cs,rfl,b5,_⟩⟩
 have bg:=P.extk e
 refine ln (wS (cA not u)) slTy_22 (Rd.of_own b5) ?_
 refine pu (vb (decide (((i_TagInput g b).length:Int)=0))) (wS (cA not u)) ?_
 refine pf (vb (decide (((i_TagInput g b).length:Int)=0))) wN (cA not u) ?_
 refine mw (vb (decide (((i_TagInput g b).length:Int)=0))) ?_
 rcases bt (decide (((i_TagInput g b).length:Int)=0)) with w|w
 ·have cu:=dT w
  iterate 5 refine sk w ?_
  refine pk (vb true) wN w ?_
  refine n2 ?_
  refine ct (Eq.refl true) ?_
  have b6:i_EpOpen a g b=((a),[],1):=by simp only [i_EpOpen,u,w,cond_true,cond_false]
  exact wj (aD b6 _ (d.trans e))
 have cv:=dF w
 refine pu (vp a9 7) (wS w) ?_
 have aE:=(be.kp e)
 refine ld (vi b.Epoch) (wS w) isAgg_3 aE ?_
 refine pu (vp ax 0) (wS w) ?_
 have aF:=((bd.kp d).kp e)
 refine ld (vi a.N) (wS w) isAgg_3 aF ?_
 refine pu (vb (!(decide (b.Epoch=a.N)))) (wS w) ?_
 refine pf (vb (!(decide (b.Epoch=a.N)))) wN w ?_
 refine n2 ?_
 rcases bf (decide (b.Epoch=a.N)) with K|K
 ·have cw:=dF K
  refine ct (cA not K) ?_
  have b7:i_EpOpen a g b=((a),[],1):=by simp only [i_EpOpen,u,w,K,cond_true,cond_false]
  exact wj (aD b7 _ (d.trans e))
 have cx:=dT K
 refine cf (cA not K) ?_
 refine y1 ?_
 refine pu (vp ax 3) wN ?_
 refine lN (L_26 a.Win Z aa) wN isAgg_26 sizeOf_26 aF ?_
 refine pu (vp a9 8) wN ?_
 refine ld (vi b.Seq) wN isAgg_3 aE ?_
 refine cl wN (ciWinAdd ba _ a.Win (mR_26 (a7.from0 bg) a8) b.Seq) ?_
 rintro _ cy ⟨h,⟨G,H,rfl,S,b8,cz⟩⟩
 refine mw (.tuple #[(va (L_26 ((iAdd a.Win b.Seq).1) G H)),(vb ((iAdd a.Win b.Seq).2))]) ?_
 refine pu (va (L_26 ((iAdd a.Win b.Seq).1) G H)) wN ?_
 refine pu (vb ((iAdd a.Win b.Seq).2)) wN ?_
 refine al [(vi 0),(vs none 0 0)] wN zero_26 ?_
 intro c0 c1 D c2 r b9
 refine sv (L_26 ((iAdd a.Win b.Seq).1) G H) wN sizeOf_26 b9 ?_
 intro bA s bB c3
 have L:=((bg.extk h).extk r).ext s (fun k hk=>by subst hk;exact nT (z9 t l m i j f d e h) D)
 refine aw (vb ((iAdd a.Win b.Seq).2)) ?_
 refine n4 ?_
 refine mw (vb ((iAdd a.Win b.Seq).2)) ?_
 refine pu (vb (!((iAdd a.Win b.Seq).2))) wN ?_
 refine n2 ?_
 rcases bf ((iAdd a.Win b.Seq).2) with T|T
 ·refine ct (cA not T) ?_
  refine sr ?_
  have bC:=(((((a1.kp d).kp e).kp h).kp r).ch s (nN (nL ab (nT (z4 f d e h) D))))
  refine lN (L_28 (a) p q B C) wN isAgg_28 sizeOf_28 bC ?_
  have bD:=((((((((az.kp i).kp j).ch f (nN (nL y (nT i.size A)))).kp d).kp e).kp h).kp r).ch s (nN (nL y (nT (z6 i j f d e h) D))))
  refine sv (L_28 (a) p q B C) wN sizeOf_28 bD ?_
  intro bE bh bF c4
  have bG:=L.ext bh (fun k hk=>by subst hk;exact nT (z2 t l) ay)
  refine aw (vs none 0 0) ?_
  refine aw (vi 3) ?_
  refine n1 ?_
  have bi:=fun (E sz n:Nat) (v:Value) (F:List Value) (o:World.ownsRow O J.heap.size E sz v n F) (x:World.ownsRow O J.heap.size E sz v n F)=>(own_ch (own_ch (own_kp (own_kp (own_kp (own_kp (own_ch (own_kp o j) f (ne2 x (A))) d) e) h) r) s (ne2 x (nT (z5 j f d e h) D))) bh (ne1 x (y)))
  have bH:=(bi _ _ _ _ _ I I)
  have bI:=(bi _ _ _ _ _ R R)
  refine ret_3 (.inl rfl) (va (L_28 (a) p q B C)) (vs none 0 0) (vi 3) rfl (rv_c (L_28 (a) p q B C) rfl bF isAgg_28 sizeOf_28) rfl rfl ?_
  refine ⟨bG.keep0,?_⟩
  simp only [i_EpOpen,u,w,K,T,cond_true,cond_false]
  exact ⟨_,_,_,_,_,_,rfl,(own_lo bH (z3 t l m)),a0,(own_lo bI (z3 t l m)),aB,(by first|exact own_nil _ _ _ _|exact OLv.nil _ _ _ _),(by simp),⟨⟨(aC.1.1),⟨(Ap.nr _),trivial⟩⟩,⟨⟨(Ap.nr _),trivial⟩,⟨trivial,trivial⟩⟩⟩⟩
 refine cf (cA not T) ?_
 refine y1 ?_
 refine pu (vp ax 1) wN ?_
 have bJ:=(((aF.kp h).kp r).ch s (nN (nL aV (nT (z8 l m i j f d e h) D))))
 refine ld (vs X a.Key.length Y) wN isAgg_22 bJ ?_
 refine mw (vi g) ?_
 have bK:=(((aE.kp h).kp r).ch s (nN (nL aW (nT (z7 m i j f d e h) D))))
 refine lN (L_32 b af ah ai aj ak am an ao ap aq au av) wN isAgg_32 sizeOf_32 bK ?_
 refine cl wN (ciUnseal bA _ a.Key (mR_22 (a5.from0 L) a6) g _ b (mR_32 (aJ.from0 L) aK (aL.from0 L) aM (aN.from0 L) aO (aP.from0 L) aQ (aR.from0 L) aS (aT.from0 L) aU)) ?_
 rintro _ bE ⟨M,⟨V,W,rfl,ac,bL,c5⟩⟩
 have bj:=L.extk M
 refine mw (.tuple #[(vs V ((i_Unseal a.Key g b).1).length W),(vb ((i_Unseal a.Key g b).2))]) ?_
 refine pu (vs V ((i_Unseal a.Key g b).1).length W) wN ?_
 refine pu (vb ((i_Unseal a.Key g b).2)) wN ?_
 refine aw (vs V ((i_Unseal a.Key g b).1).length W) ?_
 refine aw (vb ((i_Unseal a.Key g b).2)) ?_
 refine n4 ?_
 refine mw (vb ((i_Unseal a.Key g b).2)) ?_
 refine pu (vb (!((i_Unseal a.Key g b).2))) wN ?_
 refine n2 ?_
 rcases bf ((i_Unseal a.Key g b).2) with ad|ad
 ·refine ct (cA not ad) ?_
  refine sr ?_
  have bM:=((((((a1.kp d).kp e).kp h).kp r).ch s (nN (nL ab (nT (z4 f d e h) D)))).kp M)
  refine lN (L_28 (a) p q B C) wN isAgg_28 sizeOf_28 bM ?_
  have bN:=(((((((((az.kp i).kp j).ch f (nN (nL y (nT i.size A)))).kp d).kp e).kp h).kp r).ch s (nN (nL y (nT (z6 i j f d e h) D)))).kp M)
  refine sv (L_28 (a) p q B C) wN sizeOf_28 bN ?_
  intro bO bk bP c6
  have bQ:=bj.ext bk (fun k hk=>by subst hk;exact nT (z2 t l) ay)
  refine aw (vs none 0 0) ?_
  refine aw (vi 2) ?_
  refine n1 ?_
  have bl:=fun (E sz n:Nat) (v:Value) (F:List Value) (o:World.ownsRow O J.heap.size E sz v n F) (x:World.ownsRow O J.heap.size E sz v n F)=>(own_ch (own_kp (own_ch (own_kp (own_kp (own_kp (own_kp (own_ch (own_kp o j) f (ne2 x (A))) d) e) h) r) s (ne2 x (nT (z5 j f d e h) D))) M) bk (ne1 x (y)))
  have bR:=(bl _ _ _ _ _ I I)
  have bS:=(bl _ _ _ _ _ R R)
  refine ret_3 (.inl rfl) (va (L_28 (a) p q B C)) (vs none 0 0) (vi 2) rfl (rv_c (L_28 (a) p q B C) rfl bP isAgg_28 sizeOf_28) rfl rfl ?_
  refine ⟨bQ.keep0,?_⟩
  simp only [i_EpOpen,u,w,K,T,ad,cond_true,cond_false]
  exact ⟨_,_,_,_,_,_,rfl,(own_lo bR (z3 t l m)),a0,(own_lo bS (z3 t l m)),aB,(by first|exact own_nil _ _ _ _|exact OLv.nil _ _ _ _),(by simp),⟨⟨(aC.1.1),⟨(Ap.nr _),trivial⟩⟩,⟨⟨(Ap.nr _),trivial⟩,⟨trivial,trivial⟩⟩⟩⟩
 refine cf (cA not ad) ?_
 refine y1 ?_
 have bT:=(bB.kp M)
 refine lN (L_26 ((iAdd a.Win b.Seq).1) G H) wN isAgg_26 sizeOf_26 bT ?_
 refine pu (vp aY 3) wN ?_
 have bU:=((((((a1.kp d).kp e).kp h).kp r).ch s (nN (nL ab (nT (z4 f d e h) D)))).kp M)
 refine st (va (L_26 ((iAdd a.Win b.Seq).1) G H)) (L_26 ((iAdd a.Win b.Seq).1) G H) [(vi ((a).N)),(vs p ((a).Key).length q),(vi ((a).Seq)),(vi (((iAdd a.Win b.Seq).1).Top)),(vs G (((iAdd a.Win b.Seq).1).Bits).length H)] wN sizeOf_26 bU ?_
 intro bO ae bW c7
 have bX:=bj.ext ae (fun k hk=>by subst hk;exact nT (z4 t l m i) A)
 refine nx ?_
 refine lN [(vi ((a).N)),(vs p ((a).Key).length q),(vi ((a).Seq)),(vi (((iAdd a.Win b.Seq).1).Top)),(vs G (((iAdd a.Win b.Seq).1).Bits).length H)] wN isAgg_28 sizeOf_28 bW ?_
 refine mw (vs V ((i_Unseal a.Key g b).1).length W) ?_
 have bY:=((((((((((az.kp i).kp j).ch f (nN (nL y (nT i.size A)))).kp d).kp e).kp h).kp r).ch s (nN (nL y (nT (z6 i j f d e h) D)))).kp M).ch ae (nN (nL y (nT i.size A))))
 refine sv [(vi ((a).N)),(vs p ((a).Key).length q),(vi ((a).Seq)),(vi (((iAdd a.Win b.Seq).1).Top)),(vs G (((iAdd a.Win b.Seq).1).Bits).length H)] wN sizeOf_28 bY ?_
 intro c8 a4 bZ c9
 have ca:=bX.ext a4 (fun k hk=>by subst hk;exact nT (z2 t l) ay)
 refine aw (vs V ((i_Unseal a.Key g b).1).length W) ?_
 refine aw (vi 0) ?_
 refine n3 ?_
 have cb:=fun (E sz n:Nat) (v:Value) (F:List Value) (o:World.ownsRow O J.heap.size E sz v n F) (x:World.ownsRow O J.heap.size E sz v n F)=>(own_ch (own_ch (own_kp (own_ch (own_kp (own_kp (own_kp (own_kp (own_ch (own_kp o j) f (ne2 x (A))) d) e) h) r) s (ne2 x (nT (z5 j f d e h) D))) M) ae (ne2 x (A))) a4 (ne1 x (y)))
 have cc:=(cb _ _ _ _ _ I I)
 have cd:=(own_ch (own_ch (own_kp (own_ch (own_kp S r) s (ne2 S (D))) M) ae (ne1 S (nL ab (z3 f d e)))) a4 (ne1 S (nL y (z5 i j f d e))))
 have ce:=(own_ch (own_ch ac ae (ne1 ac (nL ab (z6 f d e h r s)))) a4 (ne1 ac (nL y (z8 i j f d e h r s))))
 refine ret_3 (.inl rfl) (va [(vi ((a).N)),(vs p ((a).Key).length q),(vi ((a).Seq)),(vi (((iAdd a.Win b.Seq).1).Top)),(vs G (((iAdd a.Win b.Seq).1).Bits).length H)]) (vs V ((i_Unseal a.Key g b).1).length W) (vi 0) rfl (rv_c [(vi ((a).N)),(vs p ((a).Key).length q),(vi ((a).Seq)),(vi (((iAdd a.Win b.Seq).1).Top)),(vs G (((iAdd a.Win b.Seq).1).Bits).length H)] rfl bZ isAgg_28 sizeOf_28) rfl rfl ?_
 refine ⟨ca.keep0,?_⟩
 simp only [i_EpOpen,u,w,K,T,ad,cond_true,cond_false]
 exact ⟨_,_,_,_,_,_,rfl,(own_lo cc (z3 t l m)),a0,(own_lo cd (z8 t l m i j f d e)),b8,(own_lo ce (z11 t l m i j f d e h r s)),bL,⟨⟨(Ap.lt I S (z4 j f d e)),⟨(Ap.lt I ac (z7 j f d e h r s)),trivial⟩⟩,⟨⟨(Ap.lt S ac (z2 r s)),trivial⟩,⟨trivial,trivial⟩⟩⟩⟩

theorem sizeOf_4:∀ w,(sizeOf 4).run Try.prog w=.ok 1 w:=fun w=>by kernel_rfl
def O_30_22_3 (w:World) (lo:Nat) (v:Value) (x:(PChan)×(List UInt8)×(Int)):Prop:=∃ (a:Option Addr) (b:Nat) (d:Option Addr) (e:Nat) (f:Option Addr) (g:Nat) (h:Option Addr) (i:Nat) (j:Option Addr) (k:Nat) (l:Option Addr) (m:Nat) (o:Option Addr) (p:Nat),v=.tuple #[.agg #[.int .i64 x.1.Role,.slice a x.1.Sn.length b,.int .i64 x.1.Cur.N,.slice d x.1.Cur.Key.length e,.int .i64 x.1.Cur.Seq,.int .i64 x.1.Cur.Win.Top,.slice f x.1.Cur.Win.Bits.length g,.int .i64 x.1.Old.N,.slice h x.1.Old.Key.length i,.int .i64 x.1.Old.Seq,.int .i64 x.1.Old.Win.Top,.slice j x.1.Old.Win.Bits.length k,.bool x.1.HasOld,.int .i64 x.1.Until,.slice l x.1.Next.length m],.slice o x.2.1.length p,.int .i64 x.2.2]∧w.ownsRow lo 5 1 (.slice a x.1.Sn.length b) x.1.Sn.length (x.1.Sn.map bV)∧x.1.Sn.length≤1073741824∧w.ownsRow lo 5 1 (.slice d x.1.Cur.Key.length e) x.1.Cur.Key.length (x.1.Cur.Key.map bV)∧x.1.Cur.Key.length≤1073741824∧w.ownsRow lo 3 1 (.slice f x.1.Cur.Win.Bits.length g) x.1.Cur.Win.Bits.length (x.1.Cur.Win.Bits.map iV)∧x.1.Cur.Win.Bits.length≤1073741824∧w.ownsRow lo 5 1 (.slice h x.1.Old.Key.length i) x.1.Old.Key.length (x.1.Old.Key.map bV)∧x.1.Old.Key.length≤1073741824∧w.ownsRow lo 3 1 (.slice j x.1.Old.Win.Bits.length k) x.1.Old.Win.Bits.length (x.1.Old.Win.Bits.map iV)∧x.1.Old.Win.Bits.length≤1073741824∧w.ownsRow lo 5 1 (.slice l x.1.Next.length m) x.1.Next.length (x.1.Next.map bV)∧x.1.Next.length≤1073741824∧w.ownsRow lo 5 1 (.slice o x.2.1.length p) x.2.1.length (x.2.1.map bV)∧x.2.1.length≤1073741824∧Aps [(a,b),(d,e),(f,g),(h,i),(j,k),(l,m),(o,p)]
theorem iCh_o {c:PChan} (h:i_ChanOk c=true) (b:c.HasOld=true):c.Old.N=c.Cur.N - 1:=by
  simp only [i_ChanOk,Bool.cond_false_right,Bool.and_eq_true] at h
  have a:=h.2.2.2.1
  simp only [i_oldOk,b,cond_true,Bool.cond_false_right,Bool.and_eq_true,decide_eq_true_eq] at a
  exact a.2.1
theorem iCh_co {c:PChan} {e:Int} (h:i_ChanOk c=true) (b:decide (e=c.Cur.N)=true) (a:(bif c.HasOld then (decide (e=c.Old.N)) else (false))=true):False:=by
  cases h0:c.HasOld
  · rw [h0] at a;cases a
  · rw [h0] at a
    have d:=iCh_o h h0
    have f:=dT b
    have g:=dT a
    omega
theorem iCh_cn {c:PChan} {e:Int} (b:decide (e=c.Cur.N)=true) (a:(bif (decide (0 < (c.Next.length:Int))) then (decide (e=(c.Cur.N+1))) else (false))=true):False:=by
  cases h0:decide (0 < (c.Next.length:Int))
  · rw [h0] at a;cases a
  · rw [h0] at a
    have d:=dT b
    have f:=dT a
    omega
theorem iCh_on {c:PChan} {e:Int} (h:i_ChanOk c=true) (a:(bif c.HasOld then (decide (e=c.Old.N)) else (false))=true) (b:(bif (decide (0 < (c.Next.length:Int))) then (decide (e=(c.Cur.N+1))) else (false))=true):False:=by
  cases h0:c.HasOld
  · rw [h0] at a;cases a
  · rw [h0] at a
    cases h6:decide (0 < (c.Next.length:Int))
    · rw [h6] at b;cases b
    · rw [h6] at b
      have d:=iCh_o h h0
      have f:=dT a
      have g:=dT b
      omega
def i_ChanOpen_j6 (a:PChan) (d:Int) (b:PFrame):(PChan)×(List UInt8)×(Int):=bif (bif a.HasOld then (decide (b.Epoch=a.Old.N)) else (false)) then (bif (decide ((i_EpOpen a.Old (1 - a.Role) b).2.2=0)) then (({Role:=(a).Role,Sn:=(a).Sn,Cur:=((a).Cur),Old:=((i_EpOpen a.Old (1 - a.Role) b).1),HasOld:=(a).HasOld,Until:=(a).Until,Next:=(a).Next:PChan},(i_EpOpen a.Old (1 - a.Role) b).2.1,0)) else (((a),[],(i_EpOpen a.Old (1 - a.Role) b).2.2))) else (bif (bif (decide (0 < (a.Next.length:Int))) then (decide (b.Epoch=(a.Cur.N+1))) else (false)) then (bif (decide ((i_EpOpen (i_EpNew (a.Cur.N+1) a.Next) (1 - a.Role) b).2.2=0)) then (({Role:=(a).Role,Sn:=(a).Sn,Cur:=((i_EpOpen (i_EpNew (a.Cur.N+1) a.Next) (1 - a.Role) b).1),Old:=((a).Cur),HasOld:=true,Until:=(d+5),Next:=[]:PChan},(i_EpOpen (i_EpNew (a.Cur.N+1) a.Next) (1 - a.Role) b).2.1,0)) else (((a),[],(i_EpOpen (i_EpNew (a.Cur.N+1) a.Next) (1 - a.Role) b).2.2))) else (bif (decide ((i_EpOpen a.Cur (1 - a.Role) b).2.2=0)) then (bif (decide (b.Epoch=a.Cur.N)) then (bif a.HasOld then (bif (decide (a.Until=(-1))) then (({Role:=(a).Role,Sn:=(a).Sn,Cur:=((i_EpOpen a.Cur (1 - a.Role) b).1),Old:=((a).Old),HasOld:=(a).HasOld,Until:=(d+5),Next:=(a).Next:PChan},(i_EpOpen a.Cur (1 - a.Role) b).2.1,0)) else (({Role:=(a).Role,Sn:=(a).Sn,Cur:=((i_EpOpen a.Cur (1 - a.Role) b).1),Old:=((a).Old),HasOld:=(a).HasOld,Until:=(a).Until,Next:=(a).Next:PChan},(i_EpOpen a.Cur (1 - a.Role) b).2.1,0))) else (({Role:=(a).Role,Sn:=(a).Sn,Cur:=((i_EpOpen a.Cur (1 - a.Role) b).1),Old:=((a).Old),HasOld:=(a).HasOld,Until:=(a).Until,Next:=(a).Next:PChan},(i_EpOpen a.Cur (1 - a.Role) b).2.1,0))) else (({Role:=(a).Role,Sn:=(a).Sn,Cur:=((i_EpOpen a.Cur (1 - a.Role) b).1),Old:=((a).Cur),HasOld:=true,Until:=(d+5),Next:=[]:PChan},(i_EpOpen a.Cur (1 - a.Role) b).2.1,0))) else (((a),[],(i_EpOpen a.Cur (1 - a.Role) b).2.2))))
def i_ChanOpen_j5 (a:PChan) (b:Int) (d:PFrame):(PChan)×(List UInt8)×(Int):=bif (bif a.HasOld then (decide (d.Epoch=a.Old.N)) else (false)) then (bif (decide (a.Until=(-1))) then ((i_ChanOpen_j6 a b d)) else (bif (decide (a.Until < b)) then (((a),[],9)) else ((i_ChanOpen_j6 a b d)))) else ((i_ChanOpen_j6 a b d))
def i_ChanOpen_j3 (a:PChan) (d:Int) (b:PFrame):(PChan)×(List UInt8)×(Int):=bif (decide ((diffP b.Sn a.Sn)=0)) then (bif (decide (b.Epoch=a.Cur.N)) then ((i_ChanOpen_j5 a d b)) else (bif (bif a.HasOld then (decide (b.Epoch=a.Old.N)) else (false)) then ((i_ChanOpen_j5 a d b)) else (bif (bif (decide (0 < (a.Next.length:Int))) then (decide (b.Epoch=(a.Cur.N+1))) else (false)) then ((i_ChanOpen_j5 a d b)) else (((a),[],8))))) else (((a),[],8))
def i_ChanOpen_j2 (a:PChan) (b:Int) (d:PFrame):(PChan)×(List UInt8)×(Int):=bif (decide (0 < (a.Next.length:Int))) then ((i_ChanOpen_j3 a b d)) else ((i_ChanOpen_j3 a b d))
def i_ChanOpen (a:PChan) (d:Int) (b:PFrame):(PChan)×(List UInt8)×(Int):=bif (i_ChanOk a) then (bif (i_within d 0 1000000) then (bif (i_Sealed b.Kind) then (bif (i_FrameOk b) then (bif a.HasOld then ((i_ChanOpen_j2 a d b)) else ((i_ChanOpen_j2 a d b))) else (((a),[],1))) else (((a),[],1))) else (((a),[],1))) else (((a),[],1))
theorem ciChanOpen (bL:World) (dS:Value) (a:PChan) (eF:R_30 bL dS a) (A:Int) (dU:Value) (b:PFrame) (eG:R_32 bL dU b) :Fn Try.prog 9 #[dS,(vi A),dU] bL (fun v dV=>Keep bL dV∧O_30_22_3 dV bL.heap.size v (i_ChanOpen a A b)):=by
 obtain ⟨cv,cw,bz,b0,b1,b2,b3,b4,b5,b6,bM,bN,rfl,dl,dm,dn,dp,dq,dr,ds,dt,du,dv,cJ,dw⟩:=eF
 obtain ⟨bO,bP,b7,b8,bQ,bR,bS,bT,bU,bW,bX,bY,rfl,cK,cL,cx,cy,cM,cN,cO,cP,cQ,cR,cS,cT⟩:=eG
 refine fn_ofS (n:=157) [(va (L_30 a cv cw bz b0 b1 b2 b3 b4 b5 b6 bM bN)),(vi A),(va (L_32 b bO bP b7 b8 bQ bR bS bT bU bW bX bY))] Try.func9 rfl rfl ?_
 refine sr ?_
 refine bx (L_30 a cv cw bz b0 b1 b2 b3 b4 b5 b6 bM bN) wN ?_
 intro X hX hY bk w eH
 refine bx (L_32 b bO bP b7 b8 bQ bR bS bT bU bW bX bY) wN ?_
 intro aJ hZ ia bZ q eI
 refine al Z_30 wN zero_30 ?_
 intro b9 aj aK J s aL
 have bA:=(((Ch.base bL).extk w).extk q).extk s
 refine aw (vs none 0 0) ?_
 refine aw (vi 0) ?_
 refine nx ?_
 have dW:=((eH.kp q).kp s)
 refine lN (L_30 a cv cw bz b0 b1 b2 b3 b4 b5 b6 bM bN) wN isAgg_30 sizeOf_30 dW ?_
 refine cl wN (cicopyChan aj _ a (mR_30 (dl.from0 bA) dm (dn.from0 bA) dp (dq.from0 bA) dr (ds.from0 bA) dt (du.from0 bA) dv (cJ.from0 bA) dw)) ?_
 rintro _ ak ⟨x,⟨G,H,B,C,D,F,Q,R,S,T,K,L,rfl,P,aM,Y,aY,Z,aZ,am,bl,an,bm,aa,ba,p⟩⟩
 refine al Z_30 wN zero_30 ?_
 intro ao ib I ac r eJ
 refine sv (L_30 (a) G H B C D F Q R S T K L) wN sizeOf_30 eJ ?_
 intro eK m aV ic
 have bn:=((bA.extk x).extk r).ext m (fun k hk=>by subst hk;exact nT (z4 w q s x) I)
 refine n4 ?_
 refine jT1 [(1,(vi A)),(3,(vp X 0)),(5,(vp aJ 0)),(6,(vp b9 0)),(7,(vs none 0 0)),(8,(vi 0)),(9,(vp ao 0))] (i_ChanOpen a A b=((a),[],1)) ?_ fun cU=>?_
 ·intro eL dX cV ie
  refine sr ?_
  have eM:=(aV.kp cV)
  refine lN (L_30 (a) G H B C D F Q R S T K L) wN isAgg_30 sizeOf_30 eM ?_
  have eN:=((((aL.kp x).kp r).ch m (nN (nL J (nT x.size I)))).kp cV)
  refine sv (L_30 (a) G H B C D F Q R S T K L) wN sizeOf_30 eN ?_
  intro dY dZ eO ig
  have eP:=(bn.extk cV).ext dZ (fun k hk=>by subst hk;exact nT (z2 w q) aK)
  refine aw (vs none 0 0) ?_
  refine aw (vi 1) ?_
  refine n1 ?_
  have ca:=fun (E sz n:Nat) (v:Value) (O:List Value) (o:World.ownsRow ak aj.heap.size E sz v n O) (t:World.ownsRow ak aj.heap.size E sz v n O)=>(own_ch (own_kp (own_ch (own_kp o r) m (ne2 t (I))) cV) dZ (ne1 t (J)))
  have eQ:=(ca _ _ _ _ _ P P)
  have eR:=(ca _ _ _ _ _ Y Y)
  have eS:=(ca _ _ _ _ _ Z Z)
  have eT:=(ca _ _ _ _ _ am am)
  have eU:=(ca _ _ _ _ _ an an)
  have eV:=(ca _ _ _ _ _ aa aa)
  refine ret_3 (.inl rfl) (va (L_30 (a) G H B C D F Q R S T K L)) (vs none 0 0) (vi 1) rfl (rv_c (L_30 (a) G H B C D F Q R S T K L) rfl eO isAgg_30 sizeOf_30) rfl rfl ?_
  refine ⟨eP.keep0,?_⟩
  rw [eL]
  exact ⟨_,_,_,_,_,_,_,_,_,_,_,_,_,_,rfl,(own_lo eQ (z3 w q s)),aM,(own_lo eR (z3 w q s)),aY,(own_lo eS (z3 w q s)),aZ,(own_lo eT (z3 w q s)),bl,(own_lo eU (z3 w q s)),bm,(own_lo eV (z3 w q s)),ba,(by first|exact own_nil _ _ _ _|exact OLv.nil _ _ _ _),(by simp),⟨⟨(p.1.1),⟨(p.1.2.1),⟨(p.1.2.2.1),⟨(p.1.2.2.2.1),⟨(p.1.2.2.2.2.1),⟨(Ap.nr _),trivial⟩⟩⟩⟩⟩⟩,⟨⟨(p.2.1.1),⟨(p.2.1.2.1),⟨(p.2.1.2.2.1),⟨(p.2.1.2.2.2.1),⟨(Ap.nr _),trivial⟩⟩⟩⟩⟩,⟨⟨(p.2.2.1.1),⟨(p.2.2.1.2.1),⟨(p.2.2.1.2.2.1),⟨(Ap.nr _),trivial⟩⟩⟩⟩,⟨⟨(p.2.2.2.1.1),⟨(p.2.2.2.1.2.1),⟨(Ap.nr _),trivial⟩⟩⟩,⟨⟨(p.2.2.2.2.1.1),⟨(Ap.nr _),trivial⟩⟩,⟨⟨(Ap.nr _),trivial⟩,⟨trivial,trivial⟩⟩⟩⟩⟩⟩⟩⟩
 have ea:=(((dW.kp x).kp r).ch m (nN (nL bk (nT (z3 q s x) I))))
 refine lN (L_30 a cv cw bz b0 b1 b2 b3 b4 b5 b6 bM bN) wN isAgg_30 sizeOf_30 ea ?_
 refine cl wN (ciChanOk eK _ a (mR_30 (dl.from0 bn) dm (dn.from0 bn) dp (dq.from0 bn) dr (ds.from0 bn) dt (du.from0 bn) dv (cJ.from0 bn) dw)) ?_
 rintro _ dX ⟨h,rfl⟩
 refine pu (vb (!(i_ChanOk a))) wN ?_
 refine mw (vb (!(i_ChanOk a))) ?_
 rcases bf (i_ChanOk a) with a0|a0
 ·iterate 3 refine sk (cA not a0) ?_
  refine pk (vb true) wN (cA not a0) ?_
  refine mw (vb true) ?_
  iterate 4 refine sk (Eq.refl true) ?_
  refine pk (vb true) wN (Eq.refl true) ?_
  refine mw (vb true) ?_
  iterate 3 refine sk (Eq.refl true) ?_
  refine pk (vb true) wN (Eq.refl true) ?_
  refine n2 ?_
  refine ct (Eq.refl true) ?_
  have eW:i_ChanOpen a A b=((a),[],1):=by simp only [i_ChanOpen,a0,cond_true,cond_false]
  exact wj (cU eW _ h)
 have ih:=impl_ChanOk_t a0
 refine mv (vi A) (wS (cA not a0)) ?_
 refine cl (wS (cA not a0)) (ciwithin dX A 0 1000000) ?_
 rintro _ dY ⟨i,rfl⟩
 refine pu (vb (!(i_within A 0 1000000))) (wS (cA not a0)) ?_
 refine pf (vb (!(i_within A 0 1000000))) wN (cA not a0) ?_
 refine mw (vb (!(i_within A 0 1000000))) ?_
 rcases bf (i_within A 0 1000000) with a3|a3
 ·have ii:=impl_within_f a3
  iterate 4 refine sk (cA not a3) ?_
  refine pk (vb true) wN (cA not a3) ?_
  refine mw (vb true) ?_
  iterate 3 refine sk (Eq.refl true) ?_
  refine pk (vb true) wN (Eq.refl true) ?_
  refine n2 ?_
  refine ct (Eq.refl true) ?_
  have eX:i_ChanOpen a A b=((a),[],1):=by simp only [i_ChanOpen,a0,a3,cond_true,cond_false]
  exact wj (cU eX _ (h.trans i))
 have ij:=impl_within_t a3
 refine pu (vp aJ 0) (wS (cA not a3)) ?_
 have ec:=((((((eI.kp s).kp x).kp r).ch m (nN (nL bZ (nT (z2 s x) I)))).kp h).kp i)
 refine ld (vi b.Kind) (wS (cA not a3)) isAgg_3 ec ?_
 refine cl (wS (cA not a3)) (ciSealed dY b.Kind) ?_
 rintro _ eY ⟨j,rfl⟩
 have bB:=((bn.extk h).extk i).extk j
 refine pu (vb (!(i_Sealed b.Kind))) (wS (cA not a3)) ?_
 refine pf (vb (!(i_Sealed b.Kind))) wN (cA not a3) ?_
 refine mw (vb (!(i_Sealed b.Kind))) ?_
 rcases bf (i_Sealed b.Kind) with aN|aN
 ·iterate 3 refine sk (cA not aN) ?_
  refine pk (vb true) wN (cA not aN) ?_
  refine n2 ?_
  refine ct (Eq.refl true) ?_
  have eZ:i_ChanOpen a A b=((a),[],1):=by simp only [i_ChanOpen,a0,a3,aN,cond_true,cond_false]
  exact wj (cU eZ _ ((h.trans i).trans j))
 have ed:=(ec.kp j)
 refine lN (L_32 b bO bP b7 b8 bQ bR bS bT bU bW bX bY) (wS (cA not aN)) isAgg_32 sizeOf_32 ed ?_
 refine cl (wS (cA not aN)) (ciFrameOk eY _ b (mR_32 (cK.from0 bB) cL (cx.from0 bB) cy (cM.from0 bB) cN (cO.from0 bB) cP (cQ.from0 bB) cR (cS.from0 bB) cT)) ?_
 rintro _ ik ⟨l,rfl⟩
 refine pu (vb (!(i_FrameOk b))) (wS (cA not aN)) ?_
 refine pf (vb (!(i_FrameOk b))) wN (cA not aN) ?_
 refine n2 ?_
 rcases bf (i_FrameOk b) with bC|bC
 ·refine ct (cA not bC) ?_
  have fa:i_ChanOpen a A b=((a),[],1):=by simp only [i_ChanOpen,a0,a3,aN,bC,cond_true,cond_false]
  exact wj (cU fa _ (((h.trans i).trans j).trans l))
 have il:=frameOk_i bC
 refine cf (cA not bC) ?_
 refine y1 ?_
 refine pu (vp aJ 7) wN ?_
 have bD:=(ed.kp l)
 refine ld (vi b.Epoch) wN isAgg_3 bD ?_
 refine pu (vp X 2) wN ?_
 refine pu (vp X 2) wN ?_
 have bE:=((((ea.kp h).kp i).kp j).kp l)
 refine ld (vi a.Cur.N) wN isAgg_3 bE ?_
 refine pu (vb (decide (b.Epoch=a.Cur.N))) wN ?_
 refine aw (vb (decide (b.Epoch=a.Cur.N))) ?_
 refine nx ?_
 refine jB [(1,(vi A)),(3,(vp X 0)),(5,(vp aJ 0)),(6,(vp b9 0)),(7,(vs none 0 0)),(8,(vi 0)),(9,(vp ao 0)),(10,(vb (decide (b.Epoch=a.Cur.N)))),(11,(vb (bif a.HasOld then (decide (b.Epoch=a.Old.N)) else (false))))] (i_ChanOpen a A b=(i_ChanOpen_j2 a A b)) ?_ fun ee=>?_
 ·intro ef im e io
  have eg:=(bB.extk l).extk e
  refine sr ?_
  refine jB [(1,(vi A)),(3,(vp X 0)),(5,(vp aJ 0)),(6,(vp b9 0)),(7,(vs none 0 0)),(8,(vi 0)),(9,(vp ao 0)),(10,(vb (decide (b.Epoch=a.Cur.N)))),(11,(vb (bif a.HasOld then (decide (b.Epoch=a.Old.N)) else (false)))),(12,(vb (bif (decide (0 < (a.Next.length:Int))) then (decide (b.Epoch=(a.Cur.N+1))) else (false))))] (i_ChanOpen a A b=(i_ChanOpen_j3 a A b)) ?_ fun eh=>?_
  ·intro cz fb g ip
   have cW:=eg.extk g
   refine wc_seq<|sr ?_
   refine jT1 [(1,(vi A)),(3,(vp X 0)),(5,(vp aJ 0)),(6,(vp b9 0)),(7,(vs none 0 0)),(8,(vi 0)),(9,(vp ao 0)),(10,(vb (decide (b.Epoch=a.Cur.N)))),(11,(vb (bif a.HasOld then (decide (b.Epoch=a.Old.N)) else (false)))),(12,(vb (bif (decide (0 < (a.Next.length:Int))) then (decide (b.Epoch=(a.Cur.N+1))) else (false))))] (i_ChanOpen a A b=((a),[],8)) ?_ fun ej=>?_
   ·intro fc ek cX iq
    refine sr ?_
    have fd:=(((((((aV.kp h).kp i).kp j).kp l).kp e).kp g).kp cX)
    refine lN (L_30 (a) G H B C D F Q R S T K L) wN isAgg_30 sizeOf_30 fd ?_
    have fe:=((((((((((aL.kp x).kp r).ch m (nN (nL J (nT x.size I)))).kp h).kp i).kp j).kp l).kp e).kp g).kp cX)
    refine sv (L_30 (a) G H B C D F Q R S T K L) wN sizeOf_30 fe ?_
    intro em en ff ir
    have fg:=(cW.extk cX).ext en (fun k hk=>by subst hk;exact nT (z2 w q) aK)
    refine aw (vs none 0 0) ?_
    refine aw (vi 8) ?_
    refine n1 ?_
    have cb:=fun (E sz n:Nat) (v:Value) (O:List Value) (o:World.ownsRow ak aj.heap.size E sz v n O) (t:World.ownsRow ak aj.heap.size E sz v n O)=>(own_ch (own_kp (own_kp (own_kp (own_kp (own_kp (own_kp (own_kp (own_ch (own_kp o r) m (ne2 t (I))) h) i) j) l) e) g) cX) en (ne1 t (J)))
    have fh:=(cb _ _ _ _ _ P P)
    have fi:=(cb _ _ _ _ _ Y Y)
    have fj:=(cb _ _ _ _ _ Z Z)
    have fk:=(cb _ _ _ _ _ am am)
    have fl:=(cb _ _ _ _ _ an an)
    have fm:=(cb _ _ _ _ _ aa aa)
    refine ret_3 (.inl rfl) (va (L_30 (a) G H B C D F Q R S T K L)) (vs none 0 0) (vi 8) rfl (rv_c (L_30 (a) G H B C D F Q R S T K L) rfl ff isAgg_30 sizeOf_30) rfl rfl ?_
    refine ⟨fg.keep0,?_⟩
    rw [fc]
    exact ⟨_,_,_,_,_,_,_,_,_,_,_,_,_,_,rfl,(own_lo fh (z3 w q s)),aM,(own_lo fi (z3 w q s)),aY,(own_lo fj (z3 w q s)),aZ,(own_lo fk (z3 w q s)),bl,(own_lo fl (z3 w q s)),bm,(own_lo fm (z3 w q s)),ba,(by first|exact own_nil _ _ _ _|exact OLv.nil _ _ _ _),(by simp),⟨⟨(p.1.1),⟨(p.1.2.1),⟨(p.1.2.2.1),⟨(p.1.2.2.2.1),⟨(p.1.2.2.2.2.1),⟨(Ap.nr _),trivial⟩⟩⟩⟩⟩⟩,⟨⟨(p.2.1.1),⟨(p.2.1.2.1),⟨(p.2.1.2.2.1),⟨(p.2.1.2.2.2.1),⟨(Ap.nr _),trivial⟩⟩⟩⟩⟩,⟨⟨(p.2.2.1.1),⟨(p.2.2.1.2.1),⟨(p.2.2.1.2.2.1),⟨(Ap.nr _),trivial⟩⟩⟩⟩,⟨⟨(p.2.2.2.1.1),⟨(p.2.2.2.1.2.1),⟨(Ap.nr _),trivial⟩⟩⟩,⟨⟨(p.2.2.2.2.1.1),⟨(Ap.nr _),trivial⟩⟩,⟨⟨(Ap.nr _),trivial⟩,⟨trivial,trivial⟩⟩⟩⟩⟩⟩⟩⟩
   refine jF1 [(1,(vi A)),(3,(vp X 0)),(5,(vp aJ 0)),(6,(vp b9 0)),(7,(vs none 0 0)),(8,(vi 0)),(9,(vp ao 0)),(10,(vb (decide (b.Epoch=a.Cur.N)))),(11,(vb (bif a.HasOld then (decide (b.Epoch=a.Old.N)) else (false)))),(12,(vb (bif (decide (0 < (a.Next.length:Int))) then (decide (b.Epoch=(a.Cur.N+1))) else (false))))] (i_ChanOpen a A b=(i_ChanOpen_j5 a A b)) ?_ fun dx=>?_
   ·intro cY ek d it
    have eo:=cW.extk d
    refine y2 ?_
    refine jF1 [(1,(vi A)),(3,(vp X 0)),(5,(vp aJ 0)),(6,(vp b9 0)),(7,(vs none 0 0)),(8,(vi 0)),(9,(vp ao 0)),(10,(vb (decide (b.Epoch=a.Cur.N)))),(11,(vb (bif a.HasOld then (decide (b.Epoch=a.Old.N)) else (false)))),(12,(vb (bif (decide (0 < (a.Next.length:Int))) then (decide (b.Epoch=(a.Cur.N+1))) else (false))))] (i_ChanOpen a A b=(i_ChanOpen_j6 a A b)) ?_ fun dy=>?_
    ·intro bb em f iu
     refine y1 ?_
     refine pu (vp X 2) wN ?_
     have cZ:=((((bE.kp e).kp g).kp d).kp f)
     refine lN (L_28 a.Cur bz b0 b1 b2) wN isAgg_28 sizeOf_28 cZ ?_
     refine al Z_28 wN zero_28 ?_
     intro iv iw M ep y fo
     refine sv (L_28 a.Cur bz b0 b1 b2) wN sizeOf_28 fo ?_
     intro bo u dz iy
     have aA:=((eo.extk f).extk y).ext u (fun k hk=>by subst hk;exact nT (t3 (z12 w q s x r m h i j l e g) d.size f.size) M)
     refine n4 ?_
     refine mw (vb (bif a.HasOld then (decide (b.Epoch=a.Old.N)) else (false))) ?_
     refine n2 ?_
     rcases bt (bif a.HasOld then (decide (b.Epoch=a.Old.N)) else (false)) with aq|aq
     ·refine ct aq ?_
      refine wc_region ?_
      refine pu (vp X 7) wN ?_
      have er:=((cZ.kp y).ch u (nN (nL bk (nT (nT (z12 q s x r m h i j l e g d) f.size) M))))
      refine lN (L_28 a.Old b3 b4 b5 b6) wN isAgg_28 sizeOf_28 er ?_
      refine sv (L_28 a.Old b3 b4 b5 b6) wN sizeOf_28 dz ?_
      intro aO ap fp iz
      have bc:=aA.ext ap (fun k hk=>by subst hk;exact nT (t3 (z12 w q s x r m h i j l e g) d.size f.size) M)
      refine n4 ?_
      refine mw (vb (bif (decide (0 < (a.Next.length:Int))) then (decide (b.Epoch=(a.Cur.N+1))) else (false))) ?_
      refine n2 ?_
      rcases bt (bif (decide (0 < (a.Next.length:Int))) then (decide (b.Epoch=(a.Cur.N+1))) else (false)) with c0|c0
      ·exact (iCh_on a0 aq c0).elim
      refine cf c0 ?_
      refine y1 ?_
      refine lN (L_28 a.Old b3 b4 b5 b6) wN isAgg_28 sizeOf_28 fp ?_
      refine pu (vp X 0) wN ?_
      have fq:=(er.ch ap (nN (nL bk (nT (nT (z12 q s x r m h i j l e g d) f.size) M))))
      refine ld (vi a.Role) wN isAgg_3 fq ?_
      refine ar (1 - a.Role) wN ?_
      have fr:=(((((((bD.kp e).kp g).kp d).kp f).kp y).ch u (nN (nL bZ (nT (z12 s x r m h i j l e g d f) M)))).ch ap (nN (nL bZ (nT (z12 s x r m h i j l e g d f) M))))
      refine lN (L_32 b bO bP b7 b8 bQ bR bS bT bU bW bX bY) wN isAgg_32 sizeOf_32 fr ?_
      refine cl wN (ciEpOpen aO _ a.Old (mR_28 (ds.from0 bc) dt (du.from0 bc) dv) (1 - a.Role) _ b (mR_32 (cK.from0 bc) cL (cx.from0 bc) cy (cM.from0 bc) cN (cO.from0 bc) cP (cQ.from0 bc) cR (cS.from0 bc) cT)) ?_
      rintro _ bF ⟨a5,⟨aP,aQ,aR,aS,cc,cd,rfl,ce,fs,cg,ft,ci,fu,d0⟩⟩
      refine mw (.tuple #[(va (L_28 ((i_EpOpen a.Old (1 - a.Role) b).1) aP aQ aR aS)),(vs cc ((i_EpOpen a.Old (1 - a.Role) b).2.1).length cd),(vi ((i_EpOpen a.Old (1 - a.Role) b).2.2))]) ?_
      refine pu (va (L_28 ((i_EpOpen a.Old (1 - a.Role) b).1) aP aQ aR aS)) wN ?_
      refine pu (vs cc ((i_EpOpen a.Old (1 - a.Role) b).2.1).length cd) wN ?_
      refine pu (vi ((i_EpOpen a.Old (1 - a.Role) b).2.2)) wN ?_
      refine al Z_28 wN zero_28 ?_
      intro i0 da bp i1 bq fv
      refine sv (L_28 ((i_EpOpen a.Old (1 - a.Role) b).1) aP aQ aR aS) wN sizeOf_28 fv ?_
      intro db br fw i2
      have es:=((bc.extk a5).extk bq).ext br (fun k hk=>by subst hk;exact nT (t7 (z12 w q s x r m h i j l e g) d.size f.size y.size u.size ap.size a5.size) bp)
      refine aw (vs cc ((i_EpOpen a.Old (1 - a.Role) b).2.1).length cd) ?_
      refine aw (vi ((i_EpOpen a.Old (1 - a.Role) b).2.2)) ?_
      refine n4 ?_
      refine mw (vi ((i_EpOpen a.Old (1 - a.Role) b).2.2)) ?_
      refine pu (vb (!(decide ((i_EpOpen a.Old (1 - a.Role) b).2.2=0)))) wN ?_
      refine n2 ?_
      rcases bf (decide ((i_EpOpen a.Old (1 - a.Role) b).2.2=0)) with bG|bG
      ·have i3:=dF bG
       refine ct (cA not bG) ?_
       refine sr ?_
       have fx:=((((((((((((((aV.kp h).kp i).kp j).kp l).kp e).kp g).kp d).kp f).kp y).ch u (nN (nL ac (nT (z9 m h i j l e g d f) M)))).ch ap (nN (nL ac (nT (z9 m h i j l e g d f) M)))).kp a5).kp bq).ch br (nN (nL ac (nT (nT (z12 m h i j l e g d f y u ap) a5.size) bp))))
       refine lN (L_30 (a) G H B C D F Q R S T K L) wN isAgg_30 sizeOf_30 fx ?_
       refine mw (vi ((i_EpOpen a.Old (1 - a.Role) b).2.2)) ?_
       have fy:=(((((((((((((((((aL.kp x).kp r).ch m (nN (nL J (nT x.size I)))).kp h).kp i).kp j).kp l).kp e).kp g).kp d).kp f).kp y).ch u (nN (nL J (nT (z11 x r m h i j l e g d f) M)))).ch ap (nN (nL J (nT (z11 x r m h i j l e g d f) M)))).kp a5).kp bq).ch br (nN (nL J (nT (t4 (z12 x r m h i j l e g d f y) u.size ap.size a5.size) bp))))
       refine sv (L_30 (a) G H B C D F Q R S T K L) wN sizeOf_30 fy ?_
       intro c1 et fz i4
       have f0:=es.ext et (fun k hk=>by subst hk;exact nT (z2 w q) aK)
       refine aw (vs none 0 0) ?_
       refine aw (vi ((i_EpOpen a.Old (1 - a.Role) b).2.2)) ?_
       refine n1 ?_
       have cj:=fun (E sz n:Nat) (v:Value) (O:List Value) (o:World.ownsRow ak aj.heap.size E sz v n O) (t:World.ownsRow ak aj.heap.size E sz v n O)=>(own_ch (own_ch (own_kp (own_kp (own_ch (own_ch (own_kp (own_kp (own_kp (own_kp (own_kp (own_kp (own_kp (own_kp (own_kp (own_ch (own_kp o r) m (ne2 t (I))) h) i) j) l) e) g) d) f) y) u (ne2 t (nT (z10 r m h i j l e g d f) M))) ap (ne2 t (nT (z10 r m h i j l e g d f) M))) a5) bq) br (ne2 t (nT (t3 (z12 r m h i j l e g d f y u) ap.size a5.size) bp))) et (ne1 t (J)))
       have f3:=(cj _ _ _ _ _ P P)
       have f4:=(cj _ _ _ _ _ Y Y)
       have f5:=(cj _ _ _ _ _ Z Z)
       have f6:=(cj _ _ _ _ _ am am)
       have f7:=(cj _ _ _ _ _ an an)
       have f8:=(cj _ _ _ _ _ aa aa)
       refine ret_3 (.inl rfl) (va (L_30 (a) G H B C D F Q R S T K L)) (vs none 0 0) (vi ((i_EpOpen a.Old (1 - a.Role) b).2.2)) rfl (rv_c (L_30 (a) G H B C D F Q R S T K L) rfl fz isAgg_30 sizeOf_30) rfl rfl ?_
       refine ⟨f0.keep0,?_⟩
       rw [bb];simp only [i_ChanOpen_j6,aq,c0];try simp only [bG,cond_true,cond_false]
       exact ⟨_,_,_,_,_,_,_,_,_,_,_,_,_,_,rfl,(own_lo f3 (z3 w q s)),aM,(own_lo f4 (z3 w q s)),aY,(own_lo f5 (z3 w q s)),aZ,(own_lo f6 (z3 w q s)),bl,(own_lo f7 (z3 w q s)),bm,(own_lo f8 (z3 w q s)),ba,(by first|exact own_nil _ _ _ _|exact OLv.nil _ _ _ _),(by simp),⟨⟨(p.1.1),⟨(p.1.2.1),⟨(p.1.2.2.1),⟨(p.1.2.2.2.1),⟨(p.1.2.2.2.2.1),⟨(Ap.nr _),trivial⟩⟩⟩⟩⟩⟩,⟨⟨(p.2.1.1),⟨(p.2.1.2.1),⟨(p.2.1.2.2.1),⟨(p.2.1.2.2.2.1),⟨(Ap.nr _),trivial⟩⟩⟩⟩⟩,⟨⟨(p.2.2.1.1),⟨(p.2.2.1.2.1),⟨(p.2.2.1.2.2.1),⟨(Ap.nr _),trivial⟩⟩⟩⟩,⟨⟨(p.2.2.2.1.1),⟨(p.2.2.2.1.2.1),⟨(Ap.nr _),trivial⟩⟩⟩,⟨⟨(p.2.2.2.2.1.1),⟨(Ap.nr _),trivial⟩⟩,⟨⟨(Ap.nr _),trivial⟩,⟨trivial,trivial⟩⟩⟩⟩⟩⟩⟩⟩
      have i5:=dT bG
      refine cf (cA not bG) ?_
      refine wc_skip<|wq_then<|wc_seq<|wc_block<|sr ?_
      refine mw (vb (decide (b.Epoch=a.Cur.N))) ?_
      refine aw (vb (decide (b.Epoch=a.Cur.N))) ?_
      refine n2 ?_
      rcases bt (decide (b.Epoch=a.Cur.N)) with ck|ck
      ·have i6:=dT ck
       exact (iCh_co a0 ck aq).elim
      have i7:=dF ck
      refine cf ck ?_
      refine sr ?_
      refine mw (vb (bif a.HasOld then (decide (b.Epoch=a.Old.N)) else (false))) ?_
      refine aw (vb (bif a.HasOld then (decide (b.Epoch=a.Old.N)) else (false))) ?_
      refine n2 ?_
      refine ct aq ?_
      refine wc_region ?_
      refine lN (L_28 ((i_EpOpen a.Old (1 - a.Role) b).1) aP aQ aR aS) wN isAgg_28 sizeOf_28 fw ?_
      refine pu (vp ao 7) wN ?_
      have f9:=((((((((((((((aV.kp h).kp i).kp j).kp l).kp e).kp g).kp d).kp f).kp y).ch u (nN (nL ac (nT (z9 m h i j l e g d f) M)))).ch ap (nN (nL ac (nT (z9 m h i j l e g d f) M)))).kp a5).kp bq).ch br (nN (nL ac (nT (nT (z12 m h i j l e g d f y u ap) a5.size) bp))))
      refine st (va (L_28 ((i_EpOpen a.Old (1 - a.Role) b).1) aP aQ aR aS)) (L_28 ((i_EpOpen a.Old (1 - a.Role) b).1) aP aQ aR aS) [(vi ((a).Role)),(vs G ((a).Sn).length H),(vi (((a).Cur).N)),(vs B (((a).Cur).Key).length C),(vi (((a).Cur).Seq)),(vi ((((a).Cur).Win).Top)),(vs D ((((a).Cur).Win).Bits).length F),(vi (((i_EpOpen a.Old (1 - a.Role) b).1).N)),(vs aP (((i_EpOpen a.Old (1 - a.Role) b).1).Key).length aQ),(vi (((i_EpOpen a.Old (1 - a.Role) b).1).Seq)),(vi ((((i_EpOpen a.Old (1 - a.Role) b).1).Win).Top)),(vs aR ((((i_EpOpen a.Old (1 - a.Role) b).1).Win).Bits).length aS),(vb ((a).HasOld)),(vi ((a).Until)),(vs K ((a).Next).length L)] wN sizeOf_28 f9 ?_
      intro c1 dc fA i8
      have fB:=es.ext dc (fun k hk=>by subst hk;exact nT (z4 w q s x) I)
      refine wl_nil<|wq_blk_normal<|wq_then<|sr ?_
      refine lN [(vi ((a).Role)),(vs G ((a).Sn).length H),(vi (((a).Cur).N)),(vs B (((a).Cur).Key).length C),(vi (((a).Cur).Seq)),(vi ((((a).Cur).Win).Top)),(vs D ((((a).Cur).Win).Bits).length F),(vi (((i_EpOpen a.Old (1 - a.Role) b).1).N)),(vs aP (((i_EpOpen a.Old (1 - a.Role) b).1).Key).length aQ),(vi (((i_EpOpen a.Old (1 - a.Role) b).1).Seq)),(vi ((((i_EpOpen a.Old (1 - a.Role) b).1).Win).Top)),(vs aR ((((i_EpOpen a.Old (1 - a.Role) b).1).Win).Bits).length aS),(vb ((a).HasOld)),(vi ((a).Until)),(vs K ((a).Next).length L)] wN isAgg_30 sizeOf_30 fA ?_
      refine mw (vs cc ((i_EpOpen a.Old (1 - a.Role) b).2.1).length cd) ?_
      have fC:=((((((((((((((((((aL.kp x).kp r).ch m (nN (nL J (nT x.size I)))).kp h).kp i).kp j).kp l).kp e).kp g).kp d).kp f).kp y).ch u (nN (nL J (nT (z11 x r m h i j l e g d f) M)))).ch ap (nN (nL J (nT (z11 x r m h i j l e g d f) M)))).kp a5).kp bq).ch br (nN (nL J (nT (t4 (z12 x r m h i j l e g d f y) u.size ap.size a5.size) bp)))).ch dc (nN (nL J (nT x.size I))))
      refine sv [(vi ((a).Role)),(vs G ((a).Sn).length H),(vi (((a).Cur).N)),(vs B (((a).Cur).Key).length C),(vi (((a).Cur).Seq)),(vi ((((a).Cur).Win).Top)),(vs D ((((a).Cur).Win).Bits).length F),(vi (((i_EpOpen a.Old (1 - a.Role) b).1).N)),(vs aP (((i_EpOpen a.Old (1 - a.Role) b).1).Key).length aQ),(vi (((i_EpOpen a.Old (1 - a.Role) b).1).Seq)),(vi ((((i_EpOpen a.Old (1 - a.Role) b).1).Win).Top)),(vs aR ((((i_EpOpen a.Old (1 - a.Role) b).1).Win).Bits).length aS),(vb ((a).HasOld)),(vi ((a).Until)),(vs K ((a).Next).length L)] wN sizeOf_30 fC ?_
      intro c2 d1 fD i9
      have fE:=fB.ext d1 (fun k hk=>by subst hk;exact nT (z2 w q) aK)
      refine aw (vs cc ((i_EpOpen a.Old (1 - a.Role) b).2.1).length cd) ?_
      refine aw (vi 0) ?_
      refine n3 ?_
      have dd:=fun (E sz n:Nat) (v:Value) (O:List Value) (o:World.ownsRow ak aj.heap.size E sz v n O) (t:World.ownsRow ak aj.heap.size E sz v n O)=>(own_ch (own_ch (own_ch (own_kp (own_kp (own_ch (own_ch (own_kp (own_kp (own_kp (own_kp (own_kp (own_kp (own_kp (own_kp (own_kp (own_ch (own_kp o r) m (ne2 t (I))) h) i) j) l) e) g) d) f) y) u (ne2 t (nT (z10 r m h i j l e g d f) M))) ap (ne2 t (nT (z10 r m h i j l e g d f) M))) a5) bq) br (ne2 t (nT (t3 (z12 r m h i j l e g d f y u) ap.size a5.size) bp))) dc (ne2 t (I))) d1 (ne1 t (J)))
      have fF:=(dd _ _ _ _ _ P P)
      have fG:=(dd _ _ _ _ _ Y Y)
      have fH:=(dd _ _ _ _ _ Z Z)
      have d2:=fun (E sz n:Nat) (v:Value) (O:List Value) (o:World.ownsRow bF aO.heap.size E sz v n O) (t:World.ownsRow bF aO.heap.size E sz v n O)=>(own_ch (own_ch (own_ch (own_kp o bq) br (ne2 t (bp))) dc (ne1 t (nL ac (z12 m h i j l e g d f y u ap)))) d1 (ne1 t (nL J (t3 (z12 x r m h i j l e g d f y) u.size ap.size))))
      have fI:=(d2 _ _ _ _ _ ce ce)
      have fJ:=(d2 _ _ _ _ _ cg cg)
      have fK:=(dd _ _ _ _ _ aa aa)
      have fL:=(d2 _ _ _ _ _ ci ci)
      refine ret_3 (.inl rfl) (va [(vi ((a).Role)),(vs G ((a).Sn).length H),(vi (((a).Cur).N)),(vs B (((a).Cur).Key).length C),(vi (((a).Cur).Seq)),(vi ((((a).Cur).Win).Top)),(vs D ((((a).Cur).Win).Bits).length F),(vi (((i_EpOpen a.Old (1 - a.Role) b).1).N)),(vs aP (((i_EpOpen a.Old (1 - a.Role) b).1).Key).length aQ),(vi (((i_EpOpen a.Old (1 - a.Role) b).1).Seq)),(vi ((((i_EpOpen a.Old (1 - a.Role) b).1).Win).Top)),(vs aR ((((i_EpOpen a.Old (1 - a.Role) b).1).Win).Bits).length aS),(vb ((a).HasOld)),(vi ((a).Until)),(vs K ((a).Next).length L)]) (vs cc ((i_EpOpen a.Old (1 - a.Role) b).2.1).length cd) (vi 0) rfl (rv_c [(vi ((a).Role)),(vs G ((a).Sn).length H),(vi (((a).Cur).N)),(vs B (((a).Cur).Key).length C),(vi (((a).Cur).Seq)),(vi ((((a).Cur).Win).Top)),(vs D ((((a).Cur).Win).Bits).length F),(vi (((i_EpOpen a.Old (1 - a.Role) b).1).N)),(vs aP (((i_EpOpen a.Old (1 - a.Role) b).1).Key).length aQ),(vi (((i_EpOpen a.Old (1 - a.Role) b).1).Seq)),(vi ((((i_EpOpen a.Old (1 - a.Role) b).1).Win).Top)),(vs aR ((((i_EpOpen a.Old (1 - a.Role) b).1).Win).Bits).length aS),(vb ((a).HasOld)),(vi ((a).Until)),(vs K ((a).Next).length L)] rfl fD isAgg_30 sizeOf_30) rfl rfl ?_
      refine ⟨fE.keep0,?_⟩
      rw [bb];simp only [i_ChanOpen_j6,aq,c0];try simp only [bG,ck,cond_true,cond_false]
      have aB:=nT (z12 r m h i j l e g d f y u) ap.size
      have d3:=z12 w q s x r m h i j l e g
      exact ⟨_,_,_,_,_,_,_,_,_,_,_,_,_,_,rfl,(own_lo fF (z3 w q s)),aM,(own_lo fG (z3 w q s)),aY,(own_lo fH (z3 w q s)),aZ,(own_lo fI (t6 d3 d.size f.size y.size u.size ap.size)),fs,(own_lo fJ (t6 d3 d.size f.size y.size u.size ap.size)),ft,(own_lo fK (z3 w q s)),ba,(own_lo fL (t6 d3 d.size f.size y.size u.size ap.size)),fu,⟨⟨(p.1.1),⟨(p.1.2.1),⟨(Ap.lt P ce aB),⟨(Ap.lt P cg aB),⟨(p.1.2.2.2.2.1),⟨(Ap.lt P ci aB),trivial⟩⟩⟩⟩⟩⟩,⟨⟨(p.2.1.1),⟨(Ap.lt Y ce aB),⟨(Ap.lt Y cg aB),⟨(p.2.1.2.2.2.1),⟨(Ap.lt Y ci aB),trivial⟩⟩⟩⟩⟩,⟨⟨(Ap.lt Z ce aB),⟨(Ap.lt Z cg aB),⟨(p.2.2.1.2.2.1),⟨(Ap.lt Z ci aB),trivial⟩⟩⟩⟩,⟨⟨(d0.1.1),⟨(Ap.lt aa ce aB).symm,⟨(d0.1.2.1),trivial⟩⟩⟩,⟨⟨(Ap.lt aa cg aB).symm,⟨(d0.2.1.1),trivial⟩⟩,⟨⟨(Ap.lt aa ci aB),trivial⟩,⟨trivial,trivial⟩⟩⟩⟩⟩⟩⟩⟩
     refine cf aq ?_
     refine y2 ?_
     refine mw (vb (bif (decide (0 < (a.Next.length:Int))) then (decide (b.Epoch=(a.Cur.N+1))) else (false))) ?_
     refine n2 ?_
     rcases bt (bif (decide (0 < (a.Next.length:Int))) then (decide (b.Epoch=(a.Cur.N+1))) else (false)) with aT|aT
     ·refine ct aT ?_
      refine wc_region ?_
      refine pu (vp X 2) wN ?_
      refine pu (vp X 2) wN ?_
      have d4:=((cZ.kp y).ch u (nN (nL bk (nT (nT (z12 q s x r m h i j l e g d) f.size) M))))
      refine ld (vi a.Cur.N) wN isAgg_3 d4 ?_
      refine ar (a.Cur.N+1) wN ?_
      refine pu (vp X 14) wN ?_
      refine ld (vs bM a.Next.length bN) wN isAgg_22 d4 ?_
      refine cl wN (ciEpNew bo (a.Cur.N+1) _ a.Next (mR_22 (cJ.from0 aA) dw)) ?_
      rintro _ aO ⟨W,⟨eu,ew,ex,ey,rfl,ez,fM,e0,fN,iA⟩⟩
      have fO:=(dz.kp W)
      refine sv (L_28 (i_EpNew (a.Cur.N+1) a.Next) eu ew ex ey) wN sizeOf_28 fO ?_
      intro bF V fP iB
      have bH:=(aA.extk W).ext V (fun k hk=>by subst hk;exact nT (t3 (z12 w q s x r m h i j l e g) d.size f.size) M)
      refine nx ?_
      refine lN (L_28 (i_EpNew (a.Cur.N+1) a.Next) eu ew ex ey) wN isAgg_28 sizeOf_28 fP ?_
      refine pu (vp X 0) wN ?_
      have fQ:=((d4.kp W).ch V (nN (nL bk (nT (nT (z12 q s x r m h i j l e g d) f.size) M))))
      refine ld (vi a.Role) wN isAgg_3 fQ ?_
      refine ar (1 - a.Role) wN ?_
      have fR:=((((((((bD.kp e).kp g).kp d).kp f).kp y).ch u (nN (nL bZ (nT (z12 s x r m h i j l e g d f) M)))).kp W).ch V (nN (nL bZ (nT (z12 s x r m h i j l e g d f) M))))
      refine lN (L_32 b bO bP b7 b8 bQ bR bS bT bU bW bX bY) wN isAgg_32 sizeOf_32 fR ?_
      have fS:=(own_ch ez V (ne1 ez (nL ep u.size)))
      have fT:=(own_ch e0 V (ne1 e0 (nL ep u.size)))
      refine cl wN (ciEpOpen bF _ (i_EpNew (a.Cur.N+1) a.Next) (mR_28 (Rd.of_own fS) fM (Rd.of_own fT) fN) (1 - a.Role) _ b (mR_32 (cK.from0 bH) cL (cx.from0 bH) cy (cM.from0 bH) cN (cO.from0 bH) cP (cQ.from0 bH) cR (cS.from0 bH) cT)) ?_
      rintro _ da ⟨a4,⟨aC,aD,aE,aF,cm,cn,rfl,c3,fU,c4,fV,c5,fW,d5⟩⟩
      refine mw (.tuple #[(va (L_28 ((i_EpOpen (i_EpNew (a.Cur.N+1) a.Next) (1 - a.Role) b).1) aC aD aE aF)),(vs cm ((i_EpOpen (i_EpNew (a.Cur.N+1) a.Next) (1 - a.Role) b).2.1).length cn),(vi ((i_EpOpen (i_EpNew (a.Cur.N+1) a.Next) (1 - a.Role) b).2.2))]) ?_
      refine pu (va (L_28 ((i_EpOpen (i_EpNew (a.Cur.N+1) a.Next) (1 - a.Role) b).1) aC aD aE aF)) wN ?_
      refine pu (vs cm ((i_EpOpen (i_EpNew (a.Cur.N+1) a.Next) (1 - a.Role) b).2.1).length cn) wN ?_
      refine pu (vi ((i_EpOpen (i_EpNew (a.Cur.N+1) a.Next) (1 - a.Role) b).2.2)) wN ?_
      refine al Z_28 wN zero_28 ?_
      intro iC db bd iD bu fX
      refine sv (L_28 ((i_EpOpen (i_EpNew (a.Cur.N+1) a.Next) (1 - a.Role) b).1) aC aD aE aF) wN sizeOf_28 fX ?_
      intro c1 bv fY iE
      have e1:=((bH.extk a4).extk bu).ext bv (fun k hk=>by subst hk;exact nT (t8 (z12 w q s x r m h i j l e g) d.size f.size y.size u.size W.size V.size a4.size) bd)
      refine aw (vs cm ((i_EpOpen (i_EpNew (a.Cur.N+1) a.Next) (1 - a.Role) b).2.1).length cn) ?_
      refine aw (vi ((i_EpOpen (i_EpNew (a.Cur.N+1) a.Next) (1 - a.Role) b).2.2)) ?_
      refine n4 ?_
      refine mw (vi ((i_EpOpen (i_EpNew (a.Cur.N+1) a.Next) (1 - a.Role) b).2.2)) ?_
      refine pu (vb (!(decide ((i_EpOpen (i_EpNew (a.Cur.N+1) a.Next) (1 - a.Role) b).2.2=0)))) wN ?_
      refine n2 ?_
      rcases bf (decide ((i_EpOpen (i_EpNew (a.Cur.N+1) a.Next) (1 - a.Role) b).2.2=0)) with bI|bI
      ·have iF:=dF bI
       refine ct (cA not bI) ?_
       refine sr ?_
       have fZ:=(((((((((((((((aV.kp h).kp i).kp j).kp l).kp e).kp g).kp d).kp f).kp y).ch u (nN (nL ac (nT (z9 m h i j l e g d f) M)))).kp W).ch V (nN (nL ac (nT (z9 m h i j l e g d f) M)))).kp a4).kp bu).ch bv (nN (nL ac (nT (t3 (z12 m h i j l e g d f y u W) V.size a4.size) bd))))
       refine lN (L_30 (a) G H B C D F Q R S T K L) wN isAgg_30 sizeOf_30 fZ ?_
       refine mw (vi ((i_EpOpen (i_EpNew (a.Cur.N+1) a.Next) (1 - a.Role) b).2.2)) ?_
       have ga:=((((((((((((((((((aL.kp x).kp r).ch m (nN (nL J (nT x.size I)))).kp h).kp i).kp j).kp l).kp e).kp g).kp d).kp f).kp y).ch u (nN (nL J (nT (z11 x r m h i j l e g d f) M)))).kp W).ch V (nN (nL J (nT (z11 x r m h i j l e g d f) M)))).kp a4).kp bu).ch bv (nN (nL J (nT (t5 (z12 x r m h i j l e g d f y) u.size W.size V.size a4.size) bd))))
       refine sv (L_30 (a) G H B C D F Q R S T K L) wN sizeOf_30 ga ?_
       intro c2 e2 gb iG
       have gd:=e1.ext e2 (fun k hk=>by subst hk;exact nT (z2 w q) aK)
       refine aw (vs none 0 0) ?_
       refine aw (vi ((i_EpOpen (i_EpNew (a.Cur.N+1) a.Next) (1 - a.Role) b).2.2)) ?_
       refine n1 ?_
       have co:=fun (E sz n:Nat) (v:Value) (O:List Value) (o:World.ownsRow ak aj.heap.size E sz v n O) (t:World.ownsRow ak aj.heap.size E sz v n O)=>(own_ch (own_ch (own_kp (own_kp (own_ch (own_kp (own_ch (own_kp (own_kp (own_kp (own_kp (own_kp (own_kp (own_kp (own_kp (own_kp (own_ch (own_kp o r) m (ne2 t (I))) h) i) j) l) e) g) d) f) y) u (ne2 t (nT (z10 r m h i j l e g d f) M))) W) V (ne2 t (nT (z10 r m h i j l e g d f) M))) a4) bu) bv (ne2 t (nT (t4 (z12 r m h i j l e g d f y u) W.size V.size a4.size) bd))) e2 (ne1 t (J)))
       have ge:=(co _ _ _ _ _ P P)
       have gf:=(co _ _ _ _ _ Y Y)
       have gg:=(co _ _ _ _ _ Z Z)
       have gh:=(co _ _ _ _ _ am am)
       have gi:=(co _ _ _ _ _ an an)
       have gj:=(co _ _ _ _ _ aa aa)
       refine ret_3 (.inl rfl) (va (L_30 (a) G H B C D F Q R S T K L)) (vs none 0 0) (vi ((i_EpOpen (i_EpNew (a.Cur.N+1) a.Next) (1 - a.Role) b).2.2)) rfl (rv_c (L_30 (a) G H B C D F Q R S T K L) rfl gb isAgg_30 sizeOf_30) rfl rfl ?_
       refine ⟨gd.keep0,?_⟩
       rw [bb];simp only [i_ChanOpen_j6,aq,aT];try simp only [bI,cond_true,cond_false]
       exact ⟨_,_,_,_,_,_,_,_,_,_,_,_,_,_,rfl,(own_lo ge (z3 w q s)),aM,(own_lo gf (z3 w q s)),aY,(own_lo gg (z3 w q s)),aZ,(own_lo gh (z3 w q s)),bl,(own_lo gi (z3 w q s)),bm,(own_lo gj (z3 w q s)),ba,(by first|exact own_nil _ _ _ _|exact OLv.nil _ _ _ _),(by simp),⟨⟨(p.1.1),⟨(p.1.2.1),⟨(p.1.2.2.1),⟨(p.1.2.2.2.1),⟨(p.1.2.2.2.2.1),⟨(Ap.nr _),trivial⟩⟩⟩⟩⟩⟩,⟨⟨(p.2.1.1),⟨(p.2.1.2.1),⟨(p.2.1.2.2.1),⟨(p.2.1.2.2.2.1),⟨(Ap.nr _),trivial⟩⟩⟩⟩⟩,⟨⟨(p.2.2.1.1),⟨(p.2.2.1.2.1),⟨(p.2.2.1.2.2.1),⟨(Ap.nr _),trivial⟩⟩⟩⟩,⟨⟨(p.2.2.2.1.1),⟨(p.2.2.2.1.2.1),⟨(Ap.nr _),trivial⟩⟩⟩,⟨⟨(p.2.2.2.2.1.1),⟨(Ap.nr _),trivial⟩⟩,⟨⟨(Ap.nr _),trivial⟩,⟨trivial,trivial⟩⟩⟩⟩⟩⟩⟩⟩
      have iH:=dT bI
      refine cf (cA not bI) ?_
      refine wc_skip<|wq_then<|wc_seq<|wc_block<|sr ?_
      refine mw (vb (decide (b.Epoch=a.Cur.N))) ?_
      refine aw (vb (decide (b.Epoch=a.Cur.N))) ?_
      refine n2 ?_
      rcases bt (decide (b.Epoch=a.Cur.N)) with cp|cp
      ·have iI:=dT cp
       exact (iCh_cn cp aT).elim
      have iJ:=dF cp
      refine cf cp ?_
      refine sr ?_
      refine mw (vb (bif a.HasOld then (decide (b.Epoch=a.Old.N)) else (false))) ?_
      refine aw (vb (bif a.HasOld then (decide (b.Epoch=a.Old.N)) else (false))) ?_
      refine n2 ?_
      refine cf aq ?_
      refine sr ?_
      refine pu (vp ao 2) wN ?_
      have e3:=(((((((((((((((aV.kp h).kp i).kp j).kp l).kp e).kp g).kp d).kp f).kp y).ch u (nN (nL ac (nT (z9 m h i j l e g d f) M)))).kp W).ch V (nN (nL ac (nT (z9 m h i j l e g d f) M)))).kp a4).kp bu).ch bv (nN (nL ac (nT (t3 (z12 m h i j l e g d f y u W) V.size a4.size) bd))))
      refine lN (L_28 ((a).Cur) B C D F) wN isAgg_28 sizeOf_28 e3 ?_
      refine mw (vi A) ?_
      refine ar (A+5) wN ?_
      refine pu (vp ao 7) wN ?_
      refine st (va (L_28 ((a).Cur) B C D F)) (L_28 ((a).Cur) B C D F) [(vi ((a).Role)),(vs G ((a).Sn).length H),(vi (((a).Cur).N)),(vs B (((a).Cur).Key).length C),(vi (((a).Cur).Seq)),(vi ((((a).Cur).Win).Top)),(vs D ((((a).Cur).Win).Bits).length F),(vi (((a).Cur).N)),(vs B (((a).Cur).Key).length C),(vi (((a).Cur).Seq)),(vi ((((a).Cur).Win).Top)),(vs D ((((a).Cur).Win).Bits).length F),(vb ((a).HasOld)),(vi ((a).Until)),(vs K ((a).Next).length L)] wN sizeOf_28 e3 ?_
      intro c2 c6 gk iK
      have gl:=e1.ext c6 (fun k hk=>by subst hk;exact nT (z4 w q s x) I)
      refine pu (vp ao 12) wN ?_
      refine st (vb true) [(vb true)] [(vi ((a).Role)),(vs G ((a).Sn).length H),(vi (((a).Cur).N)),(vs B (((a).Cur).Key).length C),(vi (((a).Cur).Seq)),(vi ((((a).Cur).Win).Top)),(vs D ((((a).Cur).Win).Bits).length F),(vi (((a).Cur).N)),(vs B (((a).Cur).Key).length C),(vi (((a).Cur).Seq)),(vi ((((a).Cur).Win).Top)),(vs D ((((a).Cur).Win).Bits).length F),(vb true),(vi ((a).Until)),(vs K ((a).Next).length L)] wN sizeOf_4 gk ?_
      intro gm c7 gn iL
      have gp:=gl.ext c7 (fun k hk=>by subst hk;exact nT (z4 w q s x) I)
      refine pu (vp ao 13) wN ?_
      refine st (vi (A+5)) [(vi (A+5))] [(vi ((a).Role)),(vs G ((a).Sn).length H),(vi (((a).Cur).N)),(vs B (((a).Cur).Key).length C),(vi (((a).Cur).Seq)),(vi ((((a).Cur).Win).Top)),(vs D ((((a).Cur).Win).Bits).length F),(vi (((a).Cur).N)),(vs B (((a).Cur).Key).length C),(vi (((a).Cur).Seq)),(vi ((((a).Cur).Win).Top)),(vs D ((((a).Cur).Win).Bits).length F),(vb true),(vi (A+5)),(vs K ((a).Next).length L)] wN sizeOf_3 gn ?_
      intro gq c8 gr iM
      have gs:=gp.ext c8 (fun k hk=>by subst hk;exact nT (z4 w q s x) I)
      refine wl_nil<|wq_then<|wc_region ?_
      have d6:=nL ac (nT (t3 (z12 m h i j l e g d f y u W) V.size a4.size) bd)
      have gt:=(((fY.ch c6 (Ne.symm (nN d6))).ch c7 (Ne.symm (nN d6))).ch c8 (Ne.symm (nN d6)))
      refine lN (L_28 ((i_EpOpen (i_EpNew (a.Cur.N+1) a.Next) (1 - a.Role) b).1) aC aD aE aF) wN isAgg_28 sizeOf_28 gt ?_
      refine pu (vp ao 2) wN ?_
      refine st (va (L_28 ((i_EpOpen (i_EpNew (a.Cur.N+1) a.Next) (1 - a.Role) b).1) aC aD aE aF)) (L_28 ((i_EpOpen (i_EpNew (a.Cur.N+1) a.Next) (1 - a.Role) b).1) aC aD aE aF) [(vi ((a).Role)),(vs G ((a).Sn).length H),(vi (((i_EpOpen (i_EpNew (a.Cur.N+1) a.Next) (1 - a.Role) b).1).N)),(vs aC (((i_EpOpen (i_EpNew (a.Cur.N+1) a.Next) (1 - a.Role) b).1).Key).length aD),(vi (((i_EpOpen (i_EpNew (a.Cur.N+1) a.Next) (1 - a.Role) b).1).Seq)),(vi ((((i_EpOpen (i_EpNew (a.Cur.N+1) a.Next) (1 - a.Role) b).1).Win).Top)),(vs aE ((((i_EpOpen (i_EpNew (a.Cur.N+1) a.Next) (1 - a.Role) b).1).Win).Bits).length aF),(vi (((a).Cur).N)),(vs B (((a).Cur).Key).length C),(vi (((a).Cur).Seq)),(vi ((((a).Cur).Win).Top)),(vs D ((((a).Cur).Win).Bits).length F),(vb true),(vi (A+5)),(vs K ((a).Next).length L)] wN sizeOf_28 gr ?_
      intro gu de gv iN
      have gw:=gs.ext de (fun k hk=>by subst hk;exact nT (z4 w q s x) I)
      refine pu (vp ao 14) wN ?_
      refine st (vs none 0 0) [(vs none 0 0)] [(vi ((a).Role)),(vs G ((a).Sn).length H),(vi (((i_EpOpen (i_EpNew (a.Cur.N+1) a.Next) (1 - a.Role) b).1).N)),(vs aC (((i_EpOpen (i_EpNew (a.Cur.N+1) a.Next) (1 - a.Role) b).1).Key).length aD),(vi (((i_EpOpen (i_EpNew (a.Cur.N+1) a.Next) (1 - a.Role) b).1).Seq)),(vi ((((i_EpOpen (i_EpNew (a.Cur.N+1) a.Next) (1 - a.Role) b).1).Win).Top)),(vs aE ((((i_EpOpen (i_EpNew (a.Cur.N+1) a.Next) (1 - a.Role) b).1).Win).Bits).length aF),(vi (((a).Cur).N)),(vs B (((a).Cur).Key).length C),(vi (((a).Cur).Seq)),(vi ((((a).Cur).Win).Top)),(vs D ((((a).Cur).Win).Bits).length F),(vb true),(vi (A+5)),(vs none 0 0)] wN sizeOf_22 gv ?_
      intro iO df gx iP
      have gy:=gw.ext df (fun k hk=>by subst hk;exact nT (z4 w q s x) I)
      refine wl_nil<|wq_blk_normal<|wq_then<|sr ?_
      refine lN [(vi ((a).Role)),(vs G ((a).Sn).length H),(vi (((i_EpOpen (i_EpNew (a.Cur.N+1) a.Next) (1 - a.Role) b).1).N)),(vs aC (((i_EpOpen (i_EpNew (a.Cur.N+1) a.Next) (1 - a.Role) b).1).Key).length aD),(vi (((i_EpOpen (i_EpNew (a.Cur.N+1) a.Next) (1 - a.Role) b).1).Seq)),(vi ((((i_EpOpen (i_EpNew (a.Cur.N+1) a.Next) (1 - a.Role) b).1).Win).Top)),(vs aE ((((i_EpOpen (i_EpNew (a.Cur.N+1) a.Next) (1 - a.Role) b).1).Win).Bits).length aF),(vi (((a).Cur).N)),(vs B (((a).Cur).Key).length C),(vi (((a).Cur).Seq)),(vi ((((a).Cur).Win).Top)),(vs D ((((a).Cur).Win).Bits).length F),(vb true),(vi (A+5)),(vs none 0 0)] wN isAgg_30 sizeOf_30 gx ?_
      refine mw (vs cm ((i_EpOpen (i_EpNew (a.Cur.N+1) a.Next) (1 - a.Role) b).2.1).length cn) ?_
      have cq:=nL J (nT x.size I)
      have gz:=(((((((((((((((((((((((aL.kp x).kp r).ch m (nN cq)).kp h).kp i).kp j).kp l).kp e).kp g).kp d).kp f).kp y).ch u (nN (nL J (nT (z11 x r m h i j l e g d f) M)))).kp W).ch V (nN (nL J (nT (z11 x r m h i j l e g d f) M)))).kp a4).kp bu).ch bv (nN (nL J (nT (t5 (z12 x r m h i j l e g d f y) u.size W.size V.size a4.size) bd)))).ch c6 (nN cq)).ch c7 (nN cq)).ch c8 (nN cq)).ch de (nN cq)).ch df (nN cq))
      refine sv [(vi ((a).Role)),(vs G ((a).Sn).length H),(vi (((i_EpOpen (i_EpNew (a.Cur.N+1) a.Next) (1 - a.Role) b).1).N)),(vs aC (((i_EpOpen (i_EpNew (a.Cur.N+1) a.Next) (1 - a.Role) b).1).Key).length aD),(vi (((i_EpOpen (i_EpNew (a.Cur.N+1) a.Next) (1 - a.Role) b).1).Seq)),(vi ((((i_EpOpen (i_EpNew (a.Cur.N+1) a.Next) (1 - a.Role) b).1).Win).Top)),(vs aE ((((i_EpOpen (i_EpNew (a.Cur.N+1) a.Next) (1 - a.Role) b).1).Win).Bits).length aF),(vi (((a).Cur).N)),(vs B (((a).Cur).Key).length C),(vi (((a).Cur).Seq)),(vi ((((a).Cur).Win).Top)),(vs D ((((a).Cur).Win).Bits).length F),(vb true),(vi (A+5)),(vs none 0 0)] wN sizeOf_30 gz ?_
      intro iQ d7 g0 iR
      have g1:=gy.ext d7 (fun k hk=>by subst hk;exact nT (z2 w q) aK)
      refine aw (vs cm ((i_EpOpen (i_EpNew (a.Cur.N+1) a.Next) (1 - a.Role) b).2.1).length cn) ?_
      refine aw (vi 0) ?_
      refine n3 ?_
      have d8:=fun (E sz n:Nat) (v:Value) (O:List Value) (o:World.ownsRow ak aj.heap.size E sz v n O) (t:World.ownsRow ak aj.heap.size E sz v n O)=>(own_ch (own_ch (own_ch (own_ch (own_ch (own_ch (own_ch (own_kp (own_kp (own_ch (own_kp (own_ch (own_kp (own_kp (own_kp (own_kp (own_kp (own_kp (own_kp (own_kp (own_kp (own_ch (own_kp o r) m (ne2 t (I))) h) i) j) l) e) g) d) f) y) u (ne2 t (nT (z10 r m h i j l e g d f) M))) W) V (ne2 t (nT (z10 r m h i j l e g d f) M))) a4) bu) bv (ne2 t (nT (t4 (z12 r m h i j l e g d f y u) W.size V.size a4.size) bd))) c6 (ne2 t (I))) c7 (ne2 t (I))) c8 (ne2 t (I))) de (ne2 t (I))) df (ne2 t (I))) d7 (ne1 t (J)))
      have g2:=(d8 _ _ _ _ _ P P)
      have c9:=nL ac (nT (z12 m h i j l e g d f y u W) V.size)
      have d9:=fun (E sz n:Nat) (v:Value) (O:List Value) (o:World.ownsRow da bF.heap.size E sz v n O) (t:World.ownsRow da bF.heap.size E sz v n O)=>(own_ch (own_ch (own_ch (own_ch (own_ch (own_ch (own_ch (own_kp o bu) bv (ne2 t (bd))) c6 (ne1 t c9)) c7 (ne1 t c9)) c8 (ne1 t c9)) de (ne1 t c9)) df (ne1 t c9)) d7 (ne1 t (nL J (t4 (z12 x r m h i j l e g d f y) u.size W.size V.size))))
      have g3:=(d9 _ _ _ _ _ c3 c3)
      have g4:=(d9 _ _ _ _ _ c4 c4)
      have g5:=(d8 _ _ _ _ _ Y Y)
      have g6:=(d8 _ _ _ _ _ Z Z)
      have g7:=(d9 _ _ _ _ _ c5 c5)
      refine ret_3 (.inl rfl) (va [(vi ((a).Role)),(vs G ((a).Sn).length H),(vi (((i_EpOpen (i_EpNew (a.Cur.N+1) a.Next) (1 - a.Role) b).1).N)),(vs aC (((i_EpOpen (i_EpNew (a.Cur.N+1) a.Next) (1 - a.Role) b).1).Key).length aD),(vi (((i_EpOpen (i_EpNew (a.Cur.N+1) a.Next) (1 - a.Role) b).1).Seq)),(vi ((((i_EpOpen (i_EpNew (a.Cur.N+1) a.Next) (1 - a.Role) b).1).Win).Top)),(vs aE ((((i_EpOpen (i_EpNew (a.Cur.N+1) a.Next) (1 - a.Role) b).1).Win).Bits).length aF),(vi (((a).Cur).N)),(vs B (((a).Cur).Key).length C),(vi (((a).Cur).Seq)),(vi ((((a).Cur).Win).Top)),(vs D ((((a).Cur).Win).Bits).length F),(vb true),(vi (A+5)),(vs none 0 0)]) (vs cm ((i_EpOpen (i_EpNew (a.Cur.N+1) a.Next) (1 - a.Role) b).2.1).length cn) (vi 0) rfl (rv_c [(vi ((a).Role)),(vs G ((a).Sn).length H),(vi (((i_EpOpen (i_EpNew (a.Cur.N+1) a.Next) (1 - a.Role) b).1).N)),(vs aC (((i_EpOpen (i_EpNew (a.Cur.N+1) a.Next) (1 - a.Role) b).1).Key).length aD),(vi (((i_EpOpen (i_EpNew (a.Cur.N+1) a.Next) (1 - a.Role) b).1).Seq)),(vi ((((i_EpOpen (i_EpNew (a.Cur.N+1) a.Next) (1 - a.Role) b).1).Win).Top)),(vs aE ((((i_EpOpen (i_EpNew (a.Cur.N+1) a.Next) (1 - a.Role) b).1).Win).Bits).length aF),(vi (((a).Cur).N)),(vs B (((a).Cur).Key).length C),(vi (((a).Cur).Seq)),(vi ((((a).Cur).Win).Top)),(vs D ((((a).Cur).Win).Bits).length F),(vb true),(vi (A+5)),(vs none 0 0)] rfl g0 isAgg_30 sizeOf_30) rfl rfl ?_
      refine ⟨g1.keep0,?_⟩
      rw [bb];simp only [i_ChanOpen_j6,aq,aT];try simp only [bI,cp,cond_true,cond_false]
      have be:=z12 r m h i j l e g d f y u
      have dA:=z12 w q s x r m h i j l e g
      exact ⟨_,_,_,_,_,_,_,_,_,_,_,_,_,_,rfl,(own_lo g2 (z3 w q s)),aM,(own_lo g3 (t7 dA d.size f.size y.size u.size W.size V.size)),fU,(own_lo g4 (t7 dA d.size f.size y.size u.size W.size V.size)),fV,(own_lo g5 (z3 w q s)),aY,(own_lo g6 (z3 w q s)),aZ,(by first|exact own_nil _ _ _ _|exact OLv.nil _ _ _ _),(by simp),(own_lo g7 (t7 dA d.size f.size y.size u.size W.size V.size)),fW,⟨⟨(Ap.lt P c3 (t3 be W.size V.size)),⟨(Ap.lt P c4 (t3 be W.size V.size)),⟨(p.1.1),⟨(p.1.2.1),⟨(Ap.nr _),⟨(Ap.lt P c5 (t3 be W.size V.size)),trivial⟩⟩⟩⟩⟩⟩,⟨⟨(d5.1.1),⟨(Ap.lt Y c3 (t3 be W.size V.size)).symm,⟨(Ap.lt Z c3 (t3 be W.size V.size)).symm,⟨(Ap.nr _),⟨(d5.1.2.1),trivial⟩⟩⟩⟩⟩,⟨⟨(Ap.lt Y c4 (t3 be W.size V.size)).symm,⟨(Ap.lt Z c4 (t3 be W.size V.size)).symm,⟨(Ap.nr _),⟨(d5.2.1.1),trivial⟩⟩⟩⟩,⟨⟨(p.2.1.1),⟨(Ap.nr _),⟨(Ap.lt Y c5 (t3 be W.size V.size)),trivial⟩⟩⟩,⟨⟨(Ap.nr _),⟨(Ap.lt Z c5 (t3 be W.size V.size)),trivial⟩⟩,⟨⟨(Ap.nl _),trivial⟩,⟨trivial,trivial⟩⟩⟩⟩⟩⟩⟩⟩
     refine cf aT ?_
     refine y1 ?_
     refine lN (L_28 a.Cur bz b0 b1 b2) wN isAgg_28 sizeOf_28 dz ?_
     refine pu (vp X 0) wN ?_
     have e4:=((cZ.kp y).ch u (nN (nL bk (nT (nT (z12 q s x r m h i j l e g d) f.size) M))))
     refine ld (vi a.Role) wN isAgg_3 e4 ?_
     refine ar (1 - a.Role) wN ?_
     have g8:=((((((bD.kp e).kp g).kp d).kp f).kp y).ch u (nN (nL bZ (nT (z12 s x r m h i j l e g d f) M))))
     refine lN (L_32 b bO bP b7 b8 bQ bR bS bT bU bW bX bY) wN isAgg_32 sizeOf_32 g8 ?_
     refine cl wN (ciEpOpen bo _ a.Cur (mR_28 (dn.from0 aA) dp (dq.from0 aA) dr) (1 - a.Role) _ b (mR_32 (cK.from0 aA) cL (cx.from0 aA) cy (cM.from0 aA) cN (cO.from0 aA) cP (cQ.from0 aA) cR (cS.from0 aA) cT)) ?_
     rintro _ aO ⟨ab,⟨ad,ae,af,ah,a7,a8,rfl,au,dB,av,dC,ax,dD,bg⟩⟩
     refine mw (.tuple #[(va (L_28 ((i_EpOpen a.Cur (1 - a.Role) b).1) ad ae af ah)),(vs a7 ((i_EpOpen a.Cur (1 - a.Role) b).2.1).length a8),(vi ((i_EpOpen a.Cur (1 - a.Role) b).2.2))]) ?_
     refine pu (va (L_28 ((i_EpOpen a.Cur (1 - a.Role) b).1) ad ae af ah)) wN ?_
     refine pu (vs a7 ((i_EpOpen a.Cur (1 - a.Role) b).2.1).length a8) wN ?_
     refine pu (vi ((i_EpOpen a.Cur (1 - a.Role) b).2.2)) wN ?_
     refine al Z_28 wN zero_28 ?_
     intro iS bF ay iT a1 g9
     refine sv (L_28 ((i_EpOpen a.Cur (1 - a.Role) b).1) ad ae af ah) wN sizeOf_28 g9 ?_
     intro da a2 e5 iU
     have dE:=((aA.extk ab).extk a1).ext a2 (fun k hk=>by subst hk;exact nT (t6 (z12 w q s x r m h i j l e g) d.size f.size y.size u.size ab.size) ay)
     refine aw (vs a7 ((i_EpOpen a.Cur (1 - a.Role) b).2.1).length a8) ?_
     refine aw (vi ((i_EpOpen a.Cur (1 - a.Role) b).2.2)) ?_
     refine n4 ?_
     refine mw (vi ((i_EpOpen a.Cur (1 - a.Role) b).2.2)) ?_
     refine pu (vb (!(decide ((i_EpOpen a.Cur (1 - a.Role) b).2.2=0)))) wN ?_
     refine n2 ?_
     rcases bf (decide ((i_EpOpen a.Cur (1 - a.Role) b).2.2=0)) with aW|aW
     ·have iW:=dF aW
      refine ct (cA not aW) ?_
      refine sr ?_
      have gA:=(((((((((((((aV.kp h).kp i).kp j).kp l).kp e).kp g).kp d).kp f).kp y).ch u (nN (nL ac (nT (z9 m h i j l e g d f) M)))).kp ab).kp a1).ch a2 (nN (nL ac (nT (z12 m h i j l e g d f y u ab) ay))))
      refine lN (L_30 (a) G H B C D F Q R S T K L) wN isAgg_30 sizeOf_30 gA ?_
      refine mw (vi ((i_EpOpen a.Cur (1 - a.Role) b).2.2)) ?_
      have gB:=((((((((((((((((aL.kp x).kp r).ch m (nN (nL J (nT x.size I)))).kp h).kp i).kp j).kp l).kp e).kp g).kp d).kp f).kp y).ch u (nN (nL J (nT (z11 x r m h i j l e g d f) M)))).kp ab).kp a1).ch a2 (nN (nL J (nT (t3 (z12 x r m h i j l e g d f y) u.size ab.size) ay))))
      refine sv (L_30 (a) G H B C D F Q R S T K L) wN sizeOf_30 gB ?_
      intro db e6 gC iX
      have gD:=dE.ext e6 (fun k hk=>by subst hk;exact nT (z2 w q) aK)
      refine aw (vs none 0 0) ?_
      refine aw (vi ((i_EpOpen a.Cur (1 - a.Role) b).2.2)) ?_
      refine n1 ?_
      have cr:=fun (E sz n:Nat) (v:Value) (O:List Value) (o:World.ownsRow ak aj.heap.size E sz v n O) (t:World.ownsRow ak aj.heap.size E sz v n O)=>(own_ch (own_ch (own_kp (own_kp (own_ch (own_kp (own_kp (own_kp (own_kp (own_kp (own_kp (own_kp (own_kp (own_kp (own_ch (own_kp o r) m (ne2 t (I))) h) i) j) l) e) g) d) f) y) u (ne2 t (nT (z10 r m h i j l e g d f) M))) ab) a1) a2 (ne2 t (nT (nT (z12 r m h i j l e g d f y u) ab.size) ay))) e6 (ne1 t (J)))
      have gE:=(cr _ _ _ _ _ P P)
      have gF:=(cr _ _ _ _ _ Y Y)
      have gG:=(cr _ _ _ _ _ Z Z)
      have gH:=(cr _ _ _ _ _ am am)
      have gI:=(cr _ _ _ _ _ an an)
      have gJ:=(cr _ _ _ _ _ aa aa)
      refine ret_3 (.inl rfl) (va (L_30 (a) G H B C D F Q R S T K L)) (vs none 0 0) (vi ((i_EpOpen a.Cur (1 - a.Role) b).2.2)) rfl (rv_c (L_30 (a) G H B C D F Q R S T K L) rfl gC isAgg_30 sizeOf_30) rfl rfl ?_
      refine ⟨gD.keep0,?_⟩
      rw [bb];simp only [i_ChanOpen_j6,aq,aT];try simp only [aW,cond_true,cond_false]
      exact ⟨_,_,_,_,_,_,_,_,_,_,_,_,_,_,rfl,(own_lo gE (z3 w q s)),aM,(own_lo gF (z3 w q s)),aY,(own_lo gG (z3 w q s)),aZ,(own_lo gH (z3 w q s)),bl,(own_lo gI (z3 w q s)),bm,(own_lo gJ (z3 w q s)),ba,(by first|exact own_nil _ _ _ _|exact OLv.nil _ _ _ _),(by simp),⟨⟨(p.1.1),⟨(p.1.2.1),⟨(p.1.2.2.1),⟨(p.1.2.2.2.1),⟨(p.1.2.2.2.2.1),⟨(Ap.nr _),trivial⟩⟩⟩⟩⟩⟩,⟨⟨(p.2.1.1),⟨(p.2.1.2.1),⟨(p.2.1.2.2.1),⟨(p.2.1.2.2.2.1),⟨(Ap.nr _),trivial⟩⟩⟩⟩⟩,⟨⟨(p.2.2.1.1),⟨(p.2.2.1.2.1),⟨(p.2.2.1.2.2.1),⟨(Ap.nr _),trivial⟩⟩⟩⟩,⟨⟨(p.2.2.2.1.1),⟨(p.2.2.2.1.2.1),⟨(Ap.nr _),trivial⟩⟩⟩,⟨⟨(p.2.2.2.2.1.1),⟨(Ap.nr _),trivial⟩⟩,⟨⟨(Ap.nr _),trivial⟩,⟨trivial,trivial⟩⟩⟩⟩⟩⟩⟩⟩
     have iY:=dT aW
     refine cf (cA not aW) ?_
     refine wc_skip<|wq_then<|wc_seq<|wc_block<|sr ?_
     refine mw (vb (decide (b.Epoch=a.Cur.N))) ?_
     refine aw (vb (decide (b.Epoch=a.Cur.N))) ?_
     refine n2 ?_
     rcases bf (decide (b.Epoch=a.Cur.N)) with bh|bh
     ·have iZ:=dF bh
      refine cf bh ?_
      refine sr ?_
      refine mw (vb (bif a.HasOld then (decide (b.Epoch=a.Old.N)) else (false))) ?_
      refine aw (vb (bif a.HasOld then (decide (b.Epoch=a.Old.N)) else (false))) ?_
      refine n2 ?_
      refine cf aq ?_
      refine sr ?_
      refine pu (vp ao 2) wN ?_
      have e7:=(((((((((((((aV.kp h).kp i).kp j).kp l).kp e).kp g).kp d).kp f).kp y).ch u (nN (nL ac (nT (z9 m h i j l e g d f) M)))).kp ab).kp a1).ch a2 (nN (nL ac (nT (z12 m h i j l e g d f y u ab) ay))))
      refine lN (L_28 ((a).Cur) B C D F) wN isAgg_28 sizeOf_28 e7 ?_
      refine mw (vi A) ?_
      refine ar (A+5) wN ?_
      refine pu (vp ao 7) wN ?_
      refine st (va (L_28 ((a).Cur) B C D F)) (L_28 ((a).Cur) B C D F) [(vi ((a).Role)),(vs G ((a).Sn).length H),(vi (((a).Cur).N)),(vs B (((a).Cur).Key).length C),(vi (((a).Cur).Seq)),(vi ((((a).Cur).Win).Top)),(vs D ((((a).Cur).Win).Bits).length F),(vi (((a).Cur).N)),(vs B (((a).Cur).Key).length C),(vi (((a).Cur).Seq)),(vi ((((a).Cur).Win).Top)),(vs D ((((a).Cur).Win).Bits).length F),(vb ((a).HasOld)),(vi ((a).Until)),(vs K ((a).Next).length L)] wN sizeOf_28 e7 ?_
      intro db cC gK ja
      have gL:=dE.ext cC (fun k hk=>by subst hk;exact nT (z4 w q s x) I)
      refine pu (vp ao 12) wN ?_
      refine st (vb true) [(vb true)] [(vi ((a).Role)),(vs G ((a).Sn).length H),(vi (((a).Cur).N)),(vs B (((a).Cur).Key).length C),(vi (((a).Cur).Seq)),(vi ((((a).Cur).Win).Top)),(vs D ((((a).Cur).Win).Bits).length F),(vi (((a).Cur).N)),(vs B (((a).Cur).Key).length C),(vi (((a).Cur).Seq)),(vi ((((a).Cur).Win).Top)),(vs D ((((a).Cur).Win).Bits).length F),(vb true),(vi ((a).Until)),(vs K ((a).Next).length L)] wN sizeOf_4 gK ?_
      intro c1 cD gM jb
      have gN:=gL.ext cD (fun k hk=>by subst hk;exact nT (z4 w q s x) I)
      refine pu (vp ao 13) wN ?_
      refine st (vi (A+5)) [(vi (A+5))] [(vi ((a).Role)),(vs G ((a).Sn).length H),(vi (((a).Cur).N)),(vs B (((a).Cur).Key).length C),(vi (((a).Cur).Seq)),(vi ((((a).Cur).Win).Top)),(vs D ((((a).Cur).Win).Bits).length F),(vi (((a).Cur).N)),(vs B (((a).Cur).Key).length C),(vi (((a).Cur).Seq)),(vi ((((a).Cur).Win).Top)),(vs D ((((a).Cur).Win).Bits).length F),(vb true),(vi (A+5)),(vs K ((a).Next).length L)] wN sizeOf_3 gM ?_
      intro c2 cE gO jc
      have gP:=gN.ext cE (fun k hk=>by subst hk;exact nT (z4 w q s x) I)
      refine wl_nil<|wq_then<|wc_region ?_
      have dG:=nL ac (nT (z12 m h i j l e g d f y u ab) ay)
      have gQ:=(((e5.ch cC (Ne.symm (nN dG))).ch cD (Ne.symm (nN dG))).ch cE (Ne.symm (nN dG)))
      refine lN (L_28 ((i_EpOpen a.Cur (1 - a.Role) b).1) ad ae af ah) wN isAgg_28 sizeOf_28 gQ ?_
      refine pu (vp ao 2) wN ?_
      refine st (va (L_28 ((i_EpOpen a.Cur (1 - a.Role) b).1) ad ae af ah)) (L_28 ((i_EpOpen a.Cur (1 - a.Role) b).1) ad ae af ah) [(vi ((a).Role)),(vs G ((a).Sn).length H),(vi (((i_EpOpen a.Cur (1 - a.Role) b).1).N)),(vs ad (((i_EpOpen a.Cur (1 - a.Role) b).1).Key).length ae),(vi (((i_EpOpen a.Cur (1 - a.Role) b).1).Seq)),(vi ((((i_EpOpen a.Cur (1 - a.Role) b).1).Win).Top)),(vs af ((((i_EpOpen a.Cur (1 - a.Role) b).1).Win).Bits).length ah),(vi (((a).Cur).N)),(vs B (((a).Cur).Key).length C),(vi (((a).Cur).Seq)),(vi ((((a).Cur).Win).Top)),(vs D ((((a).Cur).Win).Bits).length F),(vb true),(vi (A+5)),(vs K ((a).Next).length L)] wN sizeOf_28 gO ?_
      intro gm dg gR jd
      have gS:=gP.ext dg (fun k hk=>by subst hk;exact nT (z4 w q s x) I)
      refine pu (vp ao 14) wN ?_
      refine st (vs none 0 0) [(vs none 0 0)] [(vi ((a).Role)),(vs G ((a).Sn).length H),(vi (((i_EpOpen a.Cur (1 - a.Role) b).1).N)),(vs ad (((i_EpOpen a.Cur (1 - a.Role) b).1).Key).length ae),(vi (((i_EpOpen a.Cur (1 - a.Role) b).1).Seq)),(vi ((((i_EpOpen a.Cur (1 - a.Role) b).1).Win).Top)),(vs af ((((i_EpOpen a.Cur (1 - a.Role) b).1).Win).Bits).length ah),(vi (((a).Cur).N)),(vs B (((a).Cur).Key).length C),(vi (((a).Cur).Seq)),(vi ((((a).Cur).Win).Top)),(vs D ((((a).Cur).Win).Bits).length F),(vb true),(vi (A+5)),(vs none 0 0)] wN sizeOf_22 gR ?_
      intro gq dh gT je
      have gU:=gS.ext dh (fun k hk=>by subst hk;exact nT (z4 w q s x) I)
      refine wl_nil<|wq_blk_normal<|wq_then<|sr ?_
      refine lN [(vi ((a).Role)),(vs G ((a).Sn).length H),(vi (((i_EpOpen a.Cur (1 - a.Role) b).1).N)),(vs ad (((i_EpOpen a.Cur (1 - a.Role) b).1).Key).length ae),(vi (((i_EpOpen a.Cur (1 - a.Role) b).1).Seq)),(vi ((((i_EpOpen a.Cur (1 - a.Role) b).1).Win).Top)),(vs af ((((i_EpOpen a.Cur (1 - a.Role) b).1).Win).Bits).length ah),(vi (((a).Cur).N)),(vs B (((a).Cur).Key).length C),(vi (((a).Cur).Seq)),(vi ((((a).Cur).Win).Top)),(vs D ((((a).Cur).Win).Bits).length F),(vb true),(vi (A+5)),(vs none 0 0)] wN isAgg_30 sizeOf_30 gT ?_
      refine mw (vs a7 ((i_EpOpen a.Cur (1 - a.Role) b).2.1).length a8) ?_
      have cs:=nL J (nT x.size I)
      have gV:=(((((((((((((((((((((aL.kp x).kp r).ch m (nN cs)).kp h).kp i).kp j).kp l).kp e).kp g).kp d).kp f).kp y).ch u (nN (nL J (nT (z11 x r m h i j l e g d f) M)))).kp ab).kp a1).ch a2 (nN (nL J (nT (t3 (z12 x r m h i j l e g d f y) u.size ab.size) ay)))).ch cC (nN cs)).ch cD (nN cs)).ch cE (nN cs)).ch dg (nN cs)).ch dh (nN cs))
      refine sv [(vi ((a).Role)),(vs G ((a).Sn).length H),(vi (((i_EpOpen a.Cur (1 - a.Role) b).1).N)),(vs ad (((i_EpOpen a.Cur (1 - a.Role) b).1).Key).length ae),(vi (((i_EpOpen a.Cur (1 - a.Role) b).1).Seq)),(vi ((((i_EpOpen a.Cur (1 - a.Role) b).1).Win).Top)),(vs af ((((i_EpOpen a.Cur (1 - a.Role) b).1).Win).Bits).length ah),(vi (((a).Cur).N)),(vs B (((a).Cur).Key).length C),(vi (((a).Cur).Seq)),(vi ((((a).Cur).Win).Top)),(vs D ((((a).Cur).Win).Bits).length F),(vb true),(vi (A+5)),(vs none 0 0)] wN sizeOf_30 gV ?_
      intro gu dH gW jf
      have gX:=gU.ext dH (fun k hk=>by subst hk;exact nT (z2 w q) aK)
      refine aw (vs a7 ((i_EpOpen a.Cur (1 - a.Role) b).2.1).length a8) ?_
      refine aw (vi 0) ?_
      refine n3 ?_
      have dI:=fun (E sz n:Nat) (v:Value) (O:List Value) (o:World.ownsRow ak aj.heap.size E sz v n O) (t:World.ownsRow ak aj.heap.size E sz v n O)=>(own_ch (own_ch (own_ch (own_ch (own_ch (own_ch (own_ch (own_kp (own_kp (own_ch (own_kp (own_kp (own_kp (own_kp (own_kp (own_kp (own_kp (own_kp (own_kp (own_ch (own_kp o r) m (ne2 t (I))) h) i) j) l) e) g) d) f) y) u (ne2 t (nT (z10 r m h i j l e g d f) M))) ab) a1) a2 (ne2 t (nT (nT (z12 r m h i j l e g d f y u) ab.size) ay))) cC (ne2 t (I))) cD (ne2 t (I))) cE (ne2 t (I))) dg (ne2 t (I))) dh (ne2 t (I))) dH (ne1 t (J)))
      have gY:=(dI _ _ _ _ _ P P)
      have cF:=nL ac (z11 m h i j l e g d f y u)
      have dJ:=fun (E sz n:Nat) (v:Value) (O:List Value) (o:World.ownsRow aO bo.heap.size E sz v n O) (t:World.ownsRow aO bo.heap.size E sz v n O)=>(own_ch (own_ch (own_ch (own_ch (own_ch (own_ch (own_ch (own_kp o a1) a2 (ne2 t (ay))) cC (ne1 t cF)) cD (ne1 t cF)) cE (ne1 t cF)) dg (ne1 t cF)) dh (ne1 t cF)) dH (ne1 t (nL J (nT (z12 x r m h i j l e g d f y) u.size))))
      have gZ:=(dJ _ _ _ _ _ au au)
      have ha:=(dJ _ _ _ _ _ av av)
      have hb:=(dI _ _ _ _ _ Y Y)
      have hc:=(dI _ _ _ _ _ Z Z)
      have hd:=(dJ _ _ _ _ _ ax ax)
      refine ret_3 (.inl rfl) (va [(vi ((a).Role)),(vs G ((a).Sn).length H),(vi (((i_EpOpen a.Cur (1 - a.Role) b).1).N)),(vs ad (((i_EpOpen a.Cur (1 - a.Role) b).1).Key).length ae),(vi (((i_EpOpen a.Cur (1 - a.Role) b).1).Seq)),(vi ((((i_EpOpen a.Cur (1 - a.Role) b).1).Win).Top)),(vs af ((((i_EpOpen a.Cur (1 - a.Role) b).1).Win).Bits).length ah),(vi (((a).Cur).N)),(vs B (((a).Cur).Key).length C),(vi (((a).Cur).Seq)),(vi ((((a).Cur).Win).Top)),(vs D ((((a).Cur).Win).Bits).length F),(vb true),(vi (A+5)),(vs none 0 0)]) (vs a7 ((i_EpOpen a.Cur (1 - a.Role) b).2.1).length a8) (vi 0) rfl (rv_c [(vi ((a).Role)),(vs G ((a).Sn).length H),(vi (((i_EpOpen a.Cur (1 - a.Role) b).1).N)),(vs ad (((i_EpOpen a.Cur (1 - a.Role) b).1).Key).length ae),(vi (((i_EpOpen a.Cur (1 - a.Role) b).1).Seq)),(vi ((((i_EpOpen a.Cur (1 - a.Role) b).1).Win).Top)),(vs af ((((i_EpOpen a.Cur (1 - a.Role) b).1).Win).Bits).length ah),(vi (((a).Cur).N)),(vs B (((a).Cur).Key).length C),(vi (((a).Cur).Seq)),(vi ((((a).Cur).Win).Top)),(vs D ((((a).Cur).Win).Bits).length F),(vb true),(vi (A+5)),(vs none 0 0)] rfl gW isAgg_30 sizeOf_30) rfl rfl ?_
      refine ⟨gX.keep0,?_⟩
      rw [bb];simp only [i_ChanOpen_j6,aq,aT];try simp only [aW,bh,cond_true,cond_false]
      have bi:=z12 r m h i j l e g d f y u
      have dK:=z12 w q s x r m h i j l e g
      exact ⟨_,_,_,_,_,_,_,_,_,_,_,_,_,_,rfl,(own_lo gY (z3 w q s)),aM,(own_lo gZ (t5 dK d.size f.size y.size u.size)),dB,(own_lo ha (t5 dK d.size f.size y.size u.size)),dC,(own_lo hb (z3 w q s)),aY,(own_lo hc (z3 w q s)),aZ,(by first|exact own_nil _ _ _ _|exact OLv.nil _ _ _ _),(by simp),(own_lo hd (t5 dK d.size f.size y.size u.size)),dD,⟨⟨(Ap.lt P au bi),⟨(Ap.lt P av bi),⟨(p.1.1),⟨(p.1.2.1),⟨(Ap.nr _),⟨(Ap.lt P ax bi),trivial⟩⟩⟩⟩⟩⟩,⟨⟨(bg.1.1),⟨(Ap.lt Y au bi).symm,⟨(Ap.lt Z au bi).symm,⟨(Ap.nr _),⟨(bg.1.2.1),trivial⟩⟩⟩⟩⟩,⟨⟨(Ap.lt Y av bi).symm,⟨(Ap.lt Z av bi).symm,⟨(Ap.nr _),⟨(bg.2.1.1),trivial⟩⟩⟩⟩,⟨⟨(p.2.1.1),⟨(Ap.nr _),⟨(Ap.lt Y ax bi),trivial⟩⟩⟩,⟨⟨(Ap.nr _),⟨(Ap.lt Z ax bi),trivial⟩⟩,⟨⟨(Ap.nl _),trivial⟩,⟨trivial,trivial⟩⟩⟩⟩⟩⟩⟩⟩
     have jg:=dT bh
     refine ct bh ?_
     refine sr ?_
     refine lN (L_28 ((i_EpOpen a.Cur (1 - a.Role) b).1) ad ae af ah) wN isAgg_28 sizeOf_28 e5 ?_
     refine pu (vp ao 2) wN ?_
     have he:=(((((((((((((aV.kp h).kp i).kp j).kp l).kp e).kp g).kp d).kp f).kp y).ch u (nN (nL ac (nT (z9 m h i j l e g d f) M)))).kp ab).kp a1).ch a2 (nN (nL ac (nT (z12 m h i j l e g d f y u ab) ay))))
     refine st (va (L_28 ((i_EpOpen a.Cur (1 - a.Role) b).1) ad ae af ah)) (L_28 ((i_EpOpen a.Cur (1 - a.Role) b).1) ad ae af ah) [(vi ((a).Role)),(vs G ((a).Sn).length H),(vi (((i_EpOpen a.Cur (1 - a.Role) b).1).N)),(vs ad (((i_EpOpen a.Cur (1 - a.Role) b).1).Key).length ae),(vi (((i_EpOpen a.Cur (1 - a.Role) b).1).Seq)),(vi ((((i_EpOpen a.Cur (1 - a.Role) b).1).Win).Top)),(vs af ((((i_EpOpen a.Cur (1 - a.Role) b).1).Win).Bits).length ah),(vi (((a).Old).N)),(vs Q (((a).Old).Key).length R),(vi (((a).Old).Seq)),(vi ((((a).Old).Win).Top)),(vs S ((((a).Old).Win).Bits).length T),(vb ((a).HasOld)),(vi ((a).Until)),(vs K ((a).Next).length L)] wN sizeOf_28 he ?_
     intro db bw e8 jh
     have e9:=dE.ext bw (fun k hk=>by subst hk;exact nT (z4 w q s x) I)
     refine nx ?_
     refine jF1 [(6,(vp b9 0)),(7,(vs none 0 0)),(8,(vi 0)),(9,(vp ao 0)),(15,(vs a7 ((i_EpOpen a.Cur (1 - a.Role) b).2.1).length a8))] (i_ChanOpen a A b=({Role:=(a).Role,Sn:=(a).Sn,Cur:=((i_EpOpen a.Cur (1 - a.Role) b).1),Old:=((a).Old),HasOld:=(a).HasOld,Until:=(a).Until,Next:=(a).Next:PChan},(i_EpOpen a.Cur (1 - a.Role) b).2.1,0)) ?_ fun eA=>?_
     ·intro hf c1 cG ji
      refine wc_skip<|wq_blk_normal<|wq_then<|sr ?_
      have hg:=(e8.kp cG)
      refine lN [(vi ((a).Role)),(vs G ((a).Sn).length H),(vi (((i_EpOpen a.Cur (1 - a.Role) b).1).N)),(vs ad (((i_EpOpen a.Cur (1 - a.Role) b).1).Key).length ae),(vi (((i_EpOpen a.Cur (1 - a.Role) b).1).Seq)),(vi ((((i_EpOpen a.Cur (1 - a.Role) b).1).Win).Top)),(vs af ((((i_EpOpen a.Cur (1 - a.Role) b).1).Win).Bits).length ah),(vi (((a).Old).N)),(vs Q (((a).Old).Key).length R),(vi (((a).Old).Seq)),(vi ((((a).Old).Win).Top)),(vs S ((((a).Old).Win).Bits).length T),(vb ((a).HasOld)),(vi ((a).Until)),(vs K ((a).Next).length L)] wN isAgg_30 sizeOf_30 hg ?_
      refine mw (vs a7 ((i_EpOpen a.Cur (1 - a.Role) b).2.1).length a8) ?_
      have hh:=((((((((((((((((((aL.kp x).kp r).ch m (nN (nL J (nT x.size I)))).kp h).kp i).kp j).kp l).kp e).kp g).kp d).kp f).kp y).ch u (nN (nL J (nT (z11 x r m h i j l e g d f) M)))).kp ab).kp a1).ch a2 (nN (nL J (nT (t3 (z12 x r m h i j l e g d f y) u.size ab.size) ay)))).ch bw (nN (nL J (nT x.size I)))).kp cG)
      refine sv [(vi ((a).Role)),(vs G ((a).Sn).length H),(vi (((i_EpOpen a.Cur (1 - a.Role) b).1).N)),(vs ad (((i_EpOpen a.Cur (1 - a.Role) b).1).Key).length ae),(vi (((i_EpOpen a.Cur (1 - a.Role) b).1).Seq)),(vi ((((i_EpOpen a.Cur (1 - a.Role) b).1).Win).Top)),(vs af ((((i_EpOpen a.Cur (1 - a.Role) b).1).Win).Bits).length ah),(vi (((a).Old).N)),(vs Q (((a).Old).Key).length R),(vi (((a).Old).Seq)),(vi ((((a).Old).Win).Top)),(vs S ((((a).Old).Win).Bits).length T),(vb ((a).HasOld)),(vi ((a).Until)),(vs K ((a).Next).length L)] wN sizeOf_30 hh ?_
      intro c2 dL hi jj
      have hj:=(e9.extk cG).ext dL (fun k hk=>by subst hk;exact nT (z2 w q) aK)
      refine aw (vs a7 ((i_EpOpen a.Cur (1 - a.Role) b).2.1).length a8) ?_
      refine aw (vi 0) ?_
      refine n3 ?_
      have di:=fun (E sz n:Nat) (v:Value) (O:List Value) (o:World.ownsRow ak aj.heap.size E sz v n O) (t:World.ownsRow ak aj.heap.size E sz v n O)=>(own_ch (own_kp (own_ch (own_ch (own_kp (own_kp (own_ch (own_kp (own_kp (own_kp (own_kp (own_kp (own_kp (own_kp (own_kp (own_kp (own_ch (own_kp o r) m (ne2 t (I))) h) i) j) l) e) g) d) f) y) u (ne2 t (nT (z10 r m h i j l e g d f) M))) ab) a1) a2 (ne2 t (nT (nT (z12 r m h i j l e g d f y u) ab.size) ay))) bw (ne2 t (I))) cG) dL (ne1 t (J)))
      have hl:=(di _ _ _ _ _ P P)
      have dM:=fun (E sz n:Nat) (v:Value) (O:List Value) (o:World.ownsRow aO bo.heap.size E sz v n O) (t:World.ownsRow aO bo.heap.size E sz v n O)=>(own_ch (own_kp (own_ch (own_ch (own_kp o a1) a2 (ne2 t (ay))) bw (ne1 t (nL ac (z11 m h i j l e g d f y u)))) cG) dL (ne1 t (nL J (nT (z12 x r m h i j l e g d f y) u.size))))
      have hm:=(dM _ _ _ _ _ au au)
      have hn:=(dM _ _ _ _ _ av av)
      have ho:=(di _ _ _ _ _ am am)
      have hp:=(di _ _ _ _ _ an an)
      have hq:=(di _ _ _ _ _ aa aa)
      have hr:=(dM _ _ _ _ _ ax ax)
      refine ret_3 (.inl rfl) (va [(vi ((a).Role)),(vs G ((a).Sn).length H),(vi (((i_EpOpen a.Cur (1 - a.Role) b).1).N)),(vs ad (((i_EpOpen a.Cur (1 - a.Role) b).1).Key).length ae),(vi (((i_EpOpen a.Cur (1 - a.Role) b).1).Seq)),(vi ((((i_EpOpen a.Cur (1 - a.Role) b).1).Win).Top)),(vs af ((((i_EpOpen a.Cur (1 - a.Role) b).1).Win).Bits).length ah),(vi (((a).Old).N)),(vs Q (((a).Old).Key).length R),(vi (((a).Old).Seq)),(vi ((((a).Old).Win).Top)),(vs S ((((a).Old).Win).Bits).length T),(vb ((a).HasOld)),(vi ((a).Until)),(vs K ((a).Next).length L)]) (vs a7 ((i_EpOpen a.Cur (1 - a.Role) b).2.1).length a8) (vi 0) rfl (rv_c [(vi ((a).Role)),(vs G ((a).Sn).length H),(vi (((i_EpOpen a.Cur (1 - a.Role) b).1).N)),(vs ad (((i_EpOpen a.Cur (1 - a.Role) b).1).Key).length ae),(vi (((i_EpOpen a.Cur (1 - a.Role) b).1).Seq)),(vi ((((i_EpOpen a.Cur (1 - a.Role) b).1).Win).Top)),(vs af ((((i_EpOpen a.Cur (1 - a.Role) b).1).Win).Bits).length ah),(vi (((a).Old).N)),(vs Q (((a).Old).Key).length R),(vi (((a).Old).Seq)),(vi ((((a).Old).Win).Top)),(vs S ((((a).Old).Win).Bits).length T),(vb ((a).HasOld)),(vi ((a).Until)),(vs K ((a).Next).length L)] rfl hi isAgg_30 sizeOf_30) rfl rfl ?_
      refine ⟨hj.keep0,?_⟩
      rw [hf]
      have aG:=z12 r m h i j l e g d f y u
      have dN:=z12 w q s x r m h i j l e g
      exact ⟨_,_,_,_,_,_,_,_,_,_,_,_,_,_,rfl,(own_lo hl (z3 w q s)),aM,(own_lo hm (t5 dN d.size f.size y.size u.size)),dB,(own_lo hn (t5 dN d.size f.size y.size u.size)),dC,(own_lo ho (z3 w q s)),bl,(own_lo hp (z3 w q s)),bm,(own_lo hq (z3 w q s)),ba,(own_lo hr (t5 dN d.size f.size y.size u.size)),dD,⟨⟨(Ap.lt P au aG),⟨(Ap.lt P av aG),⟨(p.1.2.2.1),⟨(p.1.2.2.2.1),⟨(p.1.2.2.2.2.1),⟨(Ap.lt P ax aG),trivial⟩⟩⟩⟩⟩⟩,⟨⟨(bg.1.1),⟨(Ap.lt am au aG).symm,⟨(Ap.lt an au aG).symm,⟨(Ap.lt aa au aG).symm,⟨(bg.1.2.1),trivial⟩⟩⟩⟩⟩,⟨⟨(Ap.lt am av aG).symm,⟨(Ap.lt an av aG).symm,⟨(Ap.lt aa av aG).symm,⟨(bg.2.1.1),trivial⟩⟩⟩⟩,⟨⟨(p.2.2.2.1.1),⟨(p.2.2.2.1.2.1),⟨(Ap.lt am ax aG),trivial⟩⟩⟩,⟨⟨(p.2.2.2.2.1.1),⟨(Ap.lt an ax aG),trivial⟩⟩,⟨⟨(Ap.lt aa ax aG),trivial⟩,⟨trivial,trivial⟩⟩⟩⟩⟩⟩⟩⟩
     refine pu (vp X 12) wN ?_
     have eB:=((((e4.kp ab).kp a1).ch a2 (nN (nL bk (nT (t5 (z12 q s x r m h i j l e g d) f.size y.size u.size ab.size) ay)))).ch bw (nN (nL bk (nT (z3 q s x) I))))
     refine ld (vb a.HasOld) wN isAgg_4 eB ?_
     refine mw (vb a.HasOld) ?_
     rcases bf a.HasOld with aX|aX
     ·iterate 3 refine sk aX ?_
      refine pf (vb false) wN aX ?_
      refine n2 ?_
      refine cf (Eq.refl false) ?_
      have hs:i_ChanOpen a A b=({Role:=(a).Role,Sn:=(a).Sn,Cur:=((i_EpOpen a.Cur (1 - a.Role) b).1),Old:=((a).Old),HasOld:=(a).HasOld,Until:=(a).Until,Next:=(a).Next:PChan},(i_EpOpen a.Cur (1 - a.Role) b).2.1,0):=by rw [bb];simp only [i_ChanOpen_j6,aq,aT];try simp only [aW,bh,aX,cond_true,cond_false]
      exact wj (eA hs _ (Ch.refl _ _))
     refine pu (vp X 13) (wS aX) ?_
     refine ld (vi a.Until) (wS aX) isAgg_3 eB ?_
     refine pu (vb (decide (a.Until=(-1)))) (wS aX) ?_
     refine pk (vb (decide (a.Until=(-1)))) wN aX ?_
     refine n2 ?_
     rcases bf (decide (a.Until=(-1))) with bJ|bJ
     ·have jk:=dF bJ
      refine cf bJ ?_
      have ht:i_ChanOpen a A b=({Role:=(a).Role,Sn:=(a).Sn,Cur:=((i_EpOpen a.Cur (1 - a.Role) b).1),Old:=((a).Old),HasOld:=(a).HasOld,Until:=(a).Until,Next:=(a).Next:PChan},(i_EpOpen a.Cur (1 - a.Role) b).2.1,0):=by rw [bb];simp only [i_ChanOpen_j6,aq,aT];try simp only [aW,bh,aX,bJ,cond_true,cond_false]
      exact wj (eA ht _ (Ch.refl _ _))
     have jl:=dT bJ
     refine ct bJ ?_
     refine wc_region ?_
     refine mw (vi A) ?_
     refine ar (A+5) wN ?_
     refine pu (vp ao 13) wN ?_
     refine st (vi (A+5)) [(vi (A+5))] [(vi ((a).Role)),(vs G ((a).Sn).length H),(vi (((i_EpOpen a.Cur (1 - a.Role) b).1).N)),(vs ad (((i_EpOpen a.Cur (1 - a.Role) b).1).Key).length ae),(vi (((i_EpOpen a.Cur (1 - a.Role) b).1).Seq)),(vi ((((i_EpOpen a.Cur (1 - a.Role) b).1).Win).Top)),(vs af ((((i_EpOpen a.Cur (1 - a.Role) b).1).Win).Bits).length ah),(vi (((a).Old).N)),(vs Q (((a).Old).Key).length R),(vi (((a).Old).Seq)),(vi ((((a).Old).Win).Top)),(vs S ((((a).Old).Win).Bits).length T),(vb ((a).HasOld)),(vi (A+5)),(vs K ((a).Next).length L)] wN sizeOf_3 e8 ?_
     intro c1 dj hu jm
     have hv:=e9.ext dj (fun k hk=>by subst hk;exact nT (z4 w q s x) I)
     refine wl_nil<|wq_blk_normal<|wq_then<|sr ?_
     refine lN [(vi ((a).Role)),(vs G ((a).Sn).length H),(vi (((i_EpOpen a.Cur (1 - a.Role) b).1).N)),(vs ad (((i_EpOpen a.Cur (1 - a.Role) b).1).Key).length ae),(vi (((i_EpOpen a.Cur (1 - a.Role) b).1).Seq)),(vi ((((i_EpOpen a.Cur (1 - a.Role) b).1).Win).Top)),(vs af ((((i_EpOpen a.Cur (1 - a.Role) b).1).Win).Bits).length ah),(vi (((a).Old).N)),(vs Q (((a).Old).Key).length R),(vi (((a).Old).Seq)),(vi ((((a).Old).Win).Top)),(vs S ((((a).Old).Win).Bits).length T),(vb ((a).HasOld)),(vi (A+5)),(vs K ((a).Next).length L)] wN isAgg_30 sizeOf_30 hu ?_
     refine mw (vs a7 ((i_EpOpen a.Cur (1 - a.Role) b).2.1).length a8) ?_
     have dO:=nL J (nT x.size I)
     have hw:=((((((((((((((((((aL.kp x).kp r).ch m (nN dO)).kp h).kp i).kp j).kp l).kp e).kp g).kp d).kp f).kp y).ch u (nN (nL J (nT (z11 x r m h i j l e g d f) M)))).kp ab).kp a1).ch a2 (nN (nL J (nT (t3 (z12 x r m h i j l e g d f y) u.size ab.size) ay)))).ch bw (nN dO)).ch dj (nN dO))
     refine sv [(vi ((a).Role)),(vs G ((a).Sn).length H),(vi (((i_EpOpen a.Cur (1 - a.Role) b).1).N)),(vs ad (((i_EpOpen a.Cur (1 - a.Role) b).1).Key).length ae),(vi (((i_EpOpen a.Cur (1 - a.Role) b).1).Seq)),(vi ((((i_EpOpen a.Cur (1 - a.Role) b).1).Win).Top)),(vs af ((((i_EpOpen a.Cur (1 - a.Role) b).1).Win).Bits).length ah),(vi (((a).Old).N)),(vs Q (((a).Old).Key).length R),(vi (((a).Old).Seq)),(vi ((((a).Old).Win).Top)),(vs S ((((a).Old).Win).Bits).length T),(vb ((a).HasOld)),(vi (A+5)),(vs K ((a).Next).length L)] wN sizeOf_30 hw ?_
     intro c2 dP hx jn
     have hy:=hv.ext dP (fun k hk=>by subst hk;exact nT (z2 w q) aK)
     refine aw (vs a7 ((i_EpOpen a.Cur (1 - a.Role) b).2.1).length a8) ?_
     refine aw (vi 0) ?_
     refine n3 ?_
     have dk:=fun (E sz n:Nat) (v:Value) (O:List Value) (o:World.ownsRow ak aj.heap.size E sz v n O) (t:World.ownsRow ak aj.heap.size E sz v n O)=>(own_ch (own_ch (own_ch (own_ch (own_kp (own_kp (own_ch (own_kp (own_kp (own_kp (own_kp (own_kp (own_kp (own_kp (own_kp (own_kp (own_ch (own_kp o r) m (ne2 t (I))) h) i) j) l) e) g) d) f) y) u (ne2 t (nT (z10 r m h i j l e g d f) M))) ab) a1) a2 (ne2 t (nT (nT (z12 r m h i j l e g d f y u) ab.size) ay))) bw (ne2 t (I))) dj (ne2 t (I))) dP (ne1 t (J)))
     have hz:=(dk _ _ _ _ _ P P)
     have dQ:=fun (E sz n:Nat) (v:Value) (O:List Value) (o:World.ownsRow aO bo.heap.size E sz v n O) (t:World.ownsRow aO bo.heap.size E sz v n O)=>(own_ch (own_ch (own_ch (own_ch (own_kp o a1) a2 (ne2 t (ay))) bw (ne1 t (nL ac (z11 m h i j l e g d f y u)))) dj (ne1 t (nL ac (z11 m h i j l e g d f y u)))) dP (ne1 t (nL J (nT (z12 x r m h i j l e g d f y) u.size))))
     have h0:=(dQ _ _ _ _ _ au au)
     have h1:=(dQ _ _ _ _ _ av av)
     have h2:=(dk _ _ _ _ _ am am)
     have h3:=(dk _ _ _ _ _ an an)
     have h4:=(dk _ _ _ _ _ aa aa)
     have h5:=(dQ _ _ _ _ _ ax ax)
     refine ret_3 (.inl rfl) (va [(vi ((a).Role)),(vs G ((a).Sn).length H),(vi (((i_EpOpen a.Cur (1 - a.Role) b).1).N)),(vs ad (((i_EpOpen a.Cur (1 - a.Role) b).1).Key).length ae),(vi (((i_EpOpen a.Cur (1 - a.Role) b).1).Seq)),(vi ((((i_EpOpen a.Cur (1 - a.Role) b).1).Win).Top)),(vs af ((((i_EpOpen a.Cur (1 - a.Role) b).1).Win).Bits).length ah),(vi (((a).Old).N)),(vs Q (((a).Old).Key).length R),(vi (((a).Old).Seq)),(vi ((((a).Old).Win).Top)),(vs S ((((a).Old).Win).Bits).length T),(vb ((a).HasOld)),(vi (A+5)),(vs K ((a).Next).length L)]) (vs a7 ((i_EpOpen a.Cur (1 - a.Role) b).2.1).length a8) (vi 0) rfl (rv_c [(vi ((a).Role)),(vs G ((a).Sn).length H),(vi (((i_EpOpen a.Cur (1 - a.Role) b).1).N)),(vs ad (((i_EpOpen a.Cur (1 - a.Role) b).1).Key).length ae),(vi (((i_EpOpen a.Cur (1 - a.Role) b).1).Seq)),(vi ((((i_EpOpen a.Cur (1 - a.Role) b).1).Win).Top)),(vs af ((((i_EpOpen a.Cur (1 - a.Role) b).1).Win).Bits).length ah),(vi (((a).Old).N)),(vs Q (((a).Old).Key).length R),(vi (((a).Old).Seq)),(vi ((((a).Old).Win).Top)),(vs S ((((a).Old).Win).Bits).length T),(vb ((a).HasOld)),(vi (A+5)),(vs K ((a).Next).length L)] rfl hx isAgg_30 sizeOf_30) rfl rfl ?_
     refine ⟨hy.keep0,?_⟩
     rw [bb];simp only [i_ChanOpen_j6,aq,aT];try simp only [aW,bh,aX,bJ,cond_true,cond_false]
     have aH:=z12 r m h i j l e g d f y u
     have dR:=z12 w q s x r m h i j l e g
     exact ⟨_,_,_,_,_,_,_,_,_,_,_,_,_,_,rfl,(own_lo hz (z3 w q s)),aM,(own_lo h0 (t5 dR d.size f.size y.size u.size)),dB,(own_lo h1 (t5 dR d.size f.size y.size u.size)),dC,(own_lo h2 (z3 w q s)),bl,(own_lo h3 (z3 w q s)),bm,(own_lo h4 (z3 w q s)),ba,(own_lo h5 (t5 dR d.size f.size y.size u.size)),dD,⟨⟨(Ap.lt P au aH),⟨(Ap.lt P av aH),⟨(p.1.2.2.1),⟨(p.1.2.2.2.1),⟨(p.1.2.2.2.2.1),⟨(Ap.lt P ax aH),trivial⟩⟩⟩⟩⟩⟩,⟨⟨(bg.1.1),⟨(Ap.lt am au aH).symm,⟨(Ap.lt an au aH).symm,⟨(Ap.lt aa au aH).symm,⟨(bg.1.2.1),trivial⟩⟩⟩⟩⟩,⟨⟨(Ap.lt am av aH).symm,⟨(Ap.lt an av aH).symm,⟨(Ap.lt aa av aH).symm,⟨(bg.2.1.1),trivial⟩⟩⟩⟩,⟨⟨(p.2.2.2.1.1),⟨(p.2.2.2.1.2.1),⟨(Ap.lt am ax aH),trivial⟩⟩⟩,⟨⟨(p.2.2.2.2.1.1),⟨(Ap.lt an ax aH),trivial⟩⟩,⟨⟨(Ap.lt aa ax aH),trivial⟩,⟨trivial,trivial⟩⟩⟩⟩⟩⟩⟩⟩
    refine mw (vb (bif a.HasOld then (decide (b.Epoch=a.Old.N)) else (false))) ?_
    refine mw (vb (bif a.HasOld then (decide (b.Epoch=a.Old.N)) else (false))) ?_
    rcases bf (bif a.HasOld then (decide (b.Epoch=a.Old.N)) else (false)) with aU|aU
    ·iterate 3 refine sk aU ?_
     refine pf (vb false) wN aU ?_
     refine mw (vb false) ?_
     iterate 4 refine sk (Eq.refl false) ?_
     refine pf (vb false) wN (Eq.refl false) ?_
     refine n2 ?_
     refine cf (Eq.refl false) ?_
     have h6:i_ChanOpen a A b=(i_ChanOpen_j6 a A b):=by rw [cY];simp only [i_ChanOpen_j5,aU];try simp only [cond_true,cond_false]
     exact wj (dy h6 _ (Ch.refl _ _))
    refine pu (vp X 13) (wS aU) ?_
    have eC:=(((bE.kp e).kp g).kp d)
    refine ld (vi a.Until) (wS aU) isAgg_3 eC ?_
    refine pu (vb (!(decide (a.Until=(-1))))) (wS aU) ?_
    refine pk (vb (!(decide (a.Until=(-1))))) wN aU ?_
    refine mw (vb (!(decide (a.Until=(-1))))) ?_
    rcases bt (decide (a.Until=(-1))) with a9|a9
    ·have jo:=dT a9
     iterate 4 refine sk (cA not a9) ?_
     refine pf (vb false) wN (cA not a9) ?_
     refine n2 ?_
     refine cf (Eq.refl false) ?_
     have h7:i_ChanOpen a A b=(i_ChanOpen_j6 a A b):=by rw [cY];simp only [i_ChanOpen_j5,aU];try simp only [a9,cond_true,cond_false]
     exact wj (dy h7 _ (Ch.refl _ _))
    have jp:=dF a9
    refine mv (vi A) (wS (cA not a9)) ?_
    refine pu (vp X 13) (wS (cA not a9)) ?_
    refine ld (vi a.Until) (wS (cA not a9)) isAgg_3 eC ?_
    refine pu (vb (decide (a.Until < A))) (wS (cA not a9)) ?_
    refine pk (vb (decide (a.Until < A))) wN (cA not a9) ?_
    refine n2 ?_
    rcases bf (decide (a.Until < A)) with bK|bK
    ·have jq:=dF bK
     refine cf bK ?_
     have h8:i_ChanOpen a A b=(i_ChanOpen_j6 a A b):=by rw [cY];simp only [i_ChanOpen_j5,aU];try simp only [a9,bK,cond_true,cond_false]
     exact wj (dy h8 _ (Ch.refl _ _))
    have jr:=dT bK
    refine ct bK ?_
    refine sr ?_
    have h9:=(((((((aV.kp h).kp i).kp j).kp l).kp e).kp g).kp d)
    refine lN (L_30 (a) G H B C D F Q R S T K L) wN isAgg_30 sizeOf_30 h9 ?_
    have hA:=((((((((((aL.kp x).kp r).ch m (nN (nL J (nT x.size I)))).kp h).kp i).kp j).kp l).kp e).kp g).kp d)
    refine sv (L_30 (a) G H B C D F Q R S T K L) wN sizeOf_30 hA ?_
    intro em eD hB js
    have hC:=eo.ext eD (fun k hk=>by subst hk;exact nT (z2 w q) aK)
    refine aw (vs none 0 0) ?_
    refine aw (vi 9) ?_
    refine n1 ?_
    have cu:=fun (E sz n:Nat) (v:Value) (O:List Value) (o:World.ownsRow ak aj.heap.size E sz v n O) (t:World.ownsRow ak aj.heap.size E sz v n O)=>(own_ch (own_kp (own_kp (own_kp (own_kp (own_kp (own_kp (own_kp (own_ch (own_kp o r) m (ne2 t (I))) h) i) j) l) e) g) d) eD (ne1 t (J)))
    have hD:=(cu _ _ _ _ _ P P)
    have hF:=(cu _ _ _ _ _ Y Y)
    have hG:=(cu _ _ _ _ _ Z Z)
    have hH:=(cu _ _ _ _ _ am am)
    have hI:=(cu _ _ _ _ _ an an)
    have hJ:=(cu _ _ _ _ _ aa aa)
    refine ret_3 (.inl rfl) (va (L_30 (a) G H B C D F Q R S T K L)) (vs none 0 0) (vi 9) rfl (rv_c (L_30 (a) G H B C D F Q R S T K L) rfl hB isAgg_30 sizeOf_30) rfl rfl ?_
    refine ⟨hC.keep0,?_⟩
    rw [cY];simp only [i_ChanOpen_j5,aU];try simp only [a9,bK,cond_true,cond_false]
    exact ⟨_,_,_,_,_,_,_,_,_,_,_,_,_,_,rfl,(own_lo hD (z3 w q s)),aM,(own_lo hF (z3 w q s)),aY,(own_lo hG (z3 w q s)),aZ,(own_lo hH (z3 w q s)),bl,(own_lo hI (z3 w q s)),bm,(own_lo hJ (z3 w q s)),ba,(by first|exact own_nil _ _ _ _|exact OLv.nil _ _ _ _),(by simp),⟨⟨(p.1.1),⟨(p.1.2.1),⟨(p.1.2.2.1),⟨(p.1.2.2.2.1),⟨(p.1.2.2.2.2.1),⟨(Ap.nr _),trivial⟩⟩⟩⟩⟩⟩,⟨⟨(p.2.1.1),⟨(p.2.1.2.1),⟨(p.2.1.2.2.1),⟨(p.2.1.2.2.2.1),⟨(Ap.nr _),trivial⟩⟩⟩⟩⟩,⟨⟨(p.2.2.1.1),⟨(p.2.2.1.2.1),⟨(p.2.2.1.2.2.1),⟨(Ap.nr _),trivial⟩⟩⟩⟩,⟨⟨(p.2.2.2.1.1),⟨(p.2.2.2.1.2.1),⟨(Ap.nr _),trivial⟩⟩⟩,⟨⟨(p.2.2.2.2.1.1),⟨(Ap.nr _),trivial⟩⟩,⟨⟨(Ap.nr _),trivial⟩,⟨trivial,trivial⟩⟩⟩⟩⟩⟩⟩⟩
   refine pu (vp aJ 3) wN ?_
   have hK:=((bD.kp e).kp g)
   refine ld (vs b7 b.Sn.length b8) wN isAgg_22 hK ?_
   refine pu (vp X 1) wN ?_
   have hL:=((bE.kp e).kp g)
   refine ld (vs cv a.Sn.length cw) wN isAgg_22 hL ?_
   refine cl wN (ciDiff fb _ b.Sn (mR_22 (cx.from0 cW) cy) _ a.Sn (mR_22 (dl.from0 cW) dm)) ?_
   rintro _ ek ⟨cH,rfl⟩
   refine pu (vb (!(decide ((diffP b.Sn a.Sn)=0)))) wN ?_
   refine mw (vb (!(decide ((diffP b.Sn a.Sn)=0)))) ?_
   rcases bf (decide ((diffP b.Sn a.Sn)=0)) with ai|ai
   ·have jt:=dF ai
    iterate 3 refine sk (cA not ai) ?_
    refine su ?_
    refine su ?_
    iterate 2 refine sk (cA not ai) ?_
    refine su ?_
    refine su ?_
    refine sk (cA not ai) ?_
    refine pk (vb true) wN (cA not ai) ?_
    refine n2 ?_
    refine ct (Eq.refl true) ?_
    have hM:i_ChanOpen a A b=((a),[],8):=by rw [cz];simp only [i_ChanOpen_j3,ai,cond_true,cond_false]
    exact wj (ej hM _ cH)
   have ju:=dT ai
   refine mv (vb (decide (b.Epoch=a.Cur.N))) (wS (cA not ai)) ?_
   refine pu (vb (!(decide (b.Epoch=a.Cur.N)))) (wS (cA not ai)) ?_
   refine mv (vb (!(decide (b.Epoch=a.Cur.N)))) (wS (cA not ai)) ?_
   rcases bt (decide (b.Epoch=a.Cur.N)) with aI|aI
   ·have jv:=dT aI
    iterate 2 refine sk (cA not aI) ?_
    refine pf (vb false) (wS (cA not ai)) (cA not aI) ?_
    refine mv (vb false) (wS (cA not ai)) ?_
    iterate 2 refine sk (Eq.refl false) ?_
    refine pf (vb false) (wS (cA not ai)) (Eq.refl false) ?_
    refine pf (vb false) wN (cA not ai) ?_
    refine n2 ?_
    refine cf (Eq.refl false) ?_
    have hN:i_ChanOpen a A b=(i_ChanOpen_j5 a A b):=by rw [cz];simp only [i_ChanOpen_j3,ai,aI,cond_true,cond_false]
    exact wj (dx hN _ cH)
   have jw:=dF aI
   refine mv (vb (bif a.HasOld then (decide (b.Epoch=a.Old.N)) else (false))) (wS (cA not aI)) ?_
   refine pu (vb (!(bif a.HasOld then (decide (b.Epoch=a.Old.N)) else (false)))) (wS (cA not aI)) ?_
   refine pk (vb (!(bif a.HasOld then (decide (b.Epoch=a.Old.N)) else (false)))) (wS (cA not ai)) (cA not aI) ?_
   refine mv (vb (!(bif a.HasOld then (decide (b.Epoch=a.Old.N)) else (false)))) (wS (cA not ai)) ?_
   rcases bt (bif a.HasOld then (decide (b.Epoch=a.Old.N)) else (false)) with bj|bj
   ·iterate 2 refine sk (cA not bj) ?_
    refine pf (vb false) (wS (cA not ai)) (cA not bj) ?_
    refine pf (vb false) wN (cA not ai) ?_
    refine n2 ?_
    refine cf (Eq.refl false) ?_
    have hO:i_ChanOpen a A b=(i_ChanOpen_j5 a A b):=by rw [cz];simp only [i_ChanOpen_j3,bj];try simp only [ai,aI,cond_true,cond_false]
    exact wj (dx hO _ cH)
   refine mv (vb (bif (decide (0 < (a.Next.length:Int))) then (decide (b.Epoch=(a.Cur.N+1))) else (false))) (wS (cA not bj)) ?_
   refine pu (vb (!(bif (decide (0 < (a.Next.length:Int))) then (decide (b.Epoch=(a.Cur.N+1))) else (false)))) (wS (cA not bj)) ?_
   refine pk (vb (!(bif (decide (0 < (a.Next.length:Int))) then (decide (b.Epoch=(a.Cur.N+1))) else (false)))) (wS (cA not ai)) (cA not bj) ?_
   refine pf (vb (!(bif (decide (0 < (a.Next.length:Int))) then (decide (b.Epoch=(a.Cur.N+1))) else (false)))) wN (cA not ai) ?_
   refine n2 ?_
   rcases bf (bif (decide (0 < (a.Next.length:Int))) then (decide (b.Epoch=(a.Cur.N+1))) else (false)) with cI|cI
   ·refine ct (cA not cI) ?_
    have hP:i_ChanOpen a A b=((a),[],8):=by rw [cz];simp only [i_ChanOpen_j3,bj,cI];try simp only [ai,aI,cond_true,cond_false]
    exact wj (ej hP _ cH)
   refine cf (cA not cI) ?_
   have hQ:i_ChanOpen a A b=(i_ChanOpen_j5 a A b):=by rw [cz];simp only [i_ChanOpen_j3,bj,cI];try simp only [ai,aI,cond_true,cond_false]
   exact wj (dx hQ _ cH)
  refine pu (vp X 14) wN ?_
  have eE:=(bE.kp e)
  refine ld (vs bM a.Next.length bN) wN isAgg_22 eE ?_
  refine ln wN slTy_22 (cJ.from0 eg) ?_
  refine pu (vb (decide (0 < (a.Next.length:Int)))) wN ?_
  refine mw (vb (decide (0 < (a.Next.length:Int)))) ?_
  rcases bf (decide (0 < (a.Next.length:Int))) with az|az
  ·have jx:=dF az
   iterate 7 refine sk az ?_
   refine pf (vb false) wN az ?_
   refine aw (vb false) ?_
   refine n2 ?_
   have hR:i_ChanOpen a A b=(i_ChanOpen_j3 a A b):=by rw [ef];simp only [i_ChanOpen_j2,az,cond_true,cond_false]
   exact wc_join _ (by exact ⟨rfl,rfl,rfl,rfl,rfl,rfl,rfl,rfl,rfl,(cA Value.bool (show (false:Bool)=(bif (decide (0 < (a.Next.length:Int))) then (decide (b.Epoch=(a.Cur.N+1))) else (false)) by simp only [az,cond_true,cond_false])),trivial⟩) (eh hR _ (Ch.refl _ _))
  have jy:=dT az
  refine pu (vp aJ 7) (wS az) ?_
  have hS:=(bD.kp e)
  refine ld (vi b.Epoch) (wS az) isAgg_3 hS ?_
  refine pu (vp X 2) (wS az) ?_
  refine pu (vp X 2) (wS az) ?_
  refine ld (vi a.Cur.N) (wS az) isAgg_3 eE ?_
  refine ar (a.Cur.N+1) (wS az) ?_
  refine pu (vb (decide (b.Epoch=(a.Cur.N+1)))) (wS az) ?_
  refine pk (vb (decide (b.Epoch=(a.Cur.N+1)))) wN az ?_
  refine aw (vb (decide (b.Epoch=(a.Cur.N+1)))) ?_
  refine n2 ?_
  have hT:i_ChanOpen a A b=(i_ChanOpen_j3 a A b):=by rw [ef];simp only [i_ChanOpen_j2,az,cond_true,cond_false]
  exact wc_join _ (by exact ⟨rfl,rfl,rfl,rfl,rfl,rfl,rfl,rfl,rfl,(cA Value.bool (show (decide (b.Epoch=(a.Cur.N+1)):Bool)=(bif (decide (0 < (a.Next.length:Int))) then (decide (b.Epoch=(a.Cur.N+1))) else (false)) by simp only [az,cond_true,cond_false])),trivial⟩) (eh hT _ (Ch.refl _ _))
 refine pu (vp X 12) wN ?_
 refine ld (vb a.HasOld) wN isAgg_4 bE ?_
 refine mw (vb a.HasOld) ?_
 rcases bf a.HasOld with a6|a6
 ·iterate 6 refine sk a6 ?_
  refine pf (vb false) wN a6 ?_
  refine aw (vb false) ?_
  refine n2 ?_
  have hU:i_ChanOpen a A b=(i_ChanOpen_j2 a A b):=by simp only [i_ChanOpen,a0,a3,aN,bC,a6,cond_true,cond_false]
  exact wc_join _ (by exact ⟨rfl,rfl,rfl,rfl,rfl,rfl,rfl,rfl,(cA Value.bool (show (false:Bool)=(bif a.HasOld then (decide (b.Epoch=a.Old.N)) else (false)) by simp only [a6,cond_true,cond_false])),trivial⟩) (ee hU _ (Ch.refl _ _))
 refine pu (vp aJ 7) (wS a6) ?_
 refine ld (vi b.Epoch) (wS a6) isAgg_3 bD ?_
 refine pu (vp X 7) (wS a6) ?_
 refine pu (vp X 7) (wS a6) ?_
 refine ld (vi a.Old.N) (wS a6) isAgg_3 bE ?_
 refine pu (vb (decide (b.Epoch=a.Old.N))) (wS a6) ?_
 refine pk (vb (decide (b.Epoch=a.Old.N))) wN a6 ?_
 refine aw (vb (decide (b.Epoch=a.Old.N))) ?_
 refine n2 ?_
 have hW:i_ChanOpen a A b=(i_ChanOpen_j2 a A b):=by simp only [i_ChanOpen,a0,a3,aN,bC,a6,cond_true,cond_false]
 exact wc_join _ (by exact ⟨rfl,rfl,rfl,rfl,rfl,rfl,rfl,rfl,(cA Value.bool (show (decide (b.Epoch=a.Old.N):Bool)=(bif a.HasOld then (decide (b.Epoch=a.Old.N)) else (false)) by simp only [a6,cond_true,cond_false])),trivial⟩) (ee hW _ (Ch.refl _ _))

def i_Turn (a:PChan):(PChan)×(Bool):=bif (i_ChanOk a) then (bif (decide (a.Role=1)) then (bif (decide (a.Cur.N=4294967295)) then (((a),false)) else (({Role:=(a).Role,Sn:=(a).Sn,Cur:=(i_EpNew (a.Cur.N+1) (derive a.Cur.Key (ByteArray.mk ([114,101,107,101,121]:List UInt8).toArray))),Old:=((a).Cur),HasOld:=true,Until:=(-1),Next:=(a).Next:PChan},true))) else (((a),false))) else (((a),false))
theorem ciTurn (af:World) (aI:Value) (a:PChan) (bl:R_30 af aI a) :Fn Try.prog 33 #[aI] af (fun v ap=>Keep af ap∧O_30_4 ap af.heap.size v (i_Turn a)):=by
 obtain ⟨aq,au,V,W,av,ax,ay,az,a0,a1,a2,a3,rfl,aJ,aK,aA,aB,aL,aM,aN,aO,aP,aQ,aR,aS⟩:=bl
 refine fn_ofS (n:=38) [(va (L_30 a aq au V W av ax ay az a0 a1 a2 a3))] Try.func33 rfl rfl ?_
 refine sr ?_
 refine bx (L_30 a aq au V W av ax ay az a0 a1 a2 a3) wN ?_
 intro y bm cr aC f bn
 refine al Z_30 wN zero_30 ?_
 intro bo ah aT ai b aU
 have O:=((Ch.base af).extk f).extk b
 refine aw (vb false) ?_
 refine nx ?_
 have aV:=(bn.kp b)
 refine lN (L_30 a aq au V W av ax ay az a0 a1 a2 a3) wN isAgg_30 sizeOf_30 aV ?_
 refine cl wN (cicopyChan ah _ a (mR_30 (aJ.from0 O) aK (aA.from0 O) aB (aL.from0 O) aM (aN.from0 O) aO (aP.from0 O) aQ (aR.from0 O) aS)) ?_
 rintro _ a4 ⟨m,⟨q,r,g,i,j,l,aj,ak,am,an,s,t,rfl,X,aW,Y,aX,Z,aY,aZ,bp,ba,bq,aa,bb,d⟩⟩
 refine al Z_30 wN zero_30 ?_
 intro ab cs p br F bu
 refine sv (L_30 (a) q r g i j l aj ak am an s t) wN sizeOf_30 bu ?_
 intro bv D bc cu
 have K:=((O.extk m).extk F).ext D (fun k hk=>by subst hk;exact nT (z3 f b m) p)
 refine n4 ?_
 refine jT1 [(1,(vp y 0)),(2,(vp bo 0)),(3,(vb false)),(4,(vp ab 0))] (i_Turn a=((a),false)) ?_ fun aD=>?_
 ·intro bw bz a5 cv
  refine sr ?_
  have b0:=(bc.kp a5)
  refine lN (L_30 (a) q r g i j l aj ak am an s t) wN isAgg_30 sizeOf_30 b0 ?_
  have b1:=((((aU.kp m).kp F).ch D (nN (nL ai (nT m.size p)))).kp a5)
  refine sv (L_30 (a) q r g i j l aj ak am an s t) wN sizeOf_30 b1 ?_
  intro b2 bd b3 cw
  have b4:=(K.extk a5).ext bd (fun k hk=>by subst hk;exact nT f.size aT)
  refine aw (vb false) ?_
  refine n1 ?_
  have ac:=fun (E sz n:Nat) (v:Value) (L:List Value) (o:World.ownsRow a4 ah.heap.size E sz v n L) (A:World.ownsRow a4 ah.heap.size E sz v n L)=>(own_ch (own_kp (own_ch (own_kp o F) D (ne2 A (p))) a5) bd (ne1 A (ai)))
  have b5:=(ac _ _ _ _ _ X X)
  have b6:=(ac _ _ _ _ _ Y Y)
  have b7:=(ac _ _ _ _ _ Z Z)
  have b8:=(ac _ _ _ _ _ aZ aZ)
  have b9:=(ac _ _ _ _ _ ba ba)
  have bA:=(ac _ _ _ _ _ aa aa)
  refine ret_2 (.inl rfl) (va (L_30 (a) q r g i j l aj ak am an s t)) (vb false) rfl (rv_c (L_30 (a) q r g i j l aj ak am an s t) rfl b3 isAgg_30 sizeOf_30) rfl ?_
  refine ⟨b4.keep0,?_⟩
  rw [bw]
  exact ⟨_,_,_,_,_,_,_,_,_,_,_,_,rfl,(own_lo b5 (z2 f b)),aW,(own_lo b6 (z2 f b)),aX,(own_lo b7 (z2 f b)),aY,(own_lo b8 (z2 f b)),bp,(own_lo b9 (z2 f b)),bq,(own_lo bA (z2 f b)),bb,⟨⟨(d.1.1),⟨(d.1.2.1),⟨(d.1.2.2.1),⟨(d.1.2.2.2.1),⟨(d.1.2.2.2.2.1),trivial⟩⟩⟩⟩⟩,⟨⟨(d.2.1.1),⟨(d.2.1.2.1),⟨(d.2.1.2.2.1),⟨(d.2.1.2.2.2.1),trivial⟩⟩⟩⟩,⟨⟨(d.2.2.1.1),⟨(d.2.2.1.2.1),⟨(d.2.2.1.2.2.1),trivial⟩⟩⟩,⟨⟨(d.2.2.2.1.1),⟨(d.2.2.2.1.2.1),trivial⟩⟩,⟨⟨(d.2.2.2.2.1.1),trivial⟩,⟨trivial,trivial⟩⟩⟩⟩⟩⟩⟩
 have be:=(((aV.kp m).kp F).ch D (nN (nL aC (nT (z2 b m) p))))
 refine lN (L_30 a aq au V W av ax ay az a0 a1 a2 a3) wN isAgg_30 sizeOf_30 be ?_
 refine cl wN (ciChanOk bv _ a (mR_30 (aJ.from0 K) aK (aA.from0 K) aB (aL.from0 K) aM (aN.from0 K) aO (aP.from0 K) aQ (aR.from0 K) aS)) ?_
 rintro _ bz ⟨u,rfl⟩
 refine pu (vb (!(i_ChanOk a))) wN ?_
 refine mw (vb (!(i_ChanOk a))) ?_
 rcases bf (i_ChanOk a) with B|B
 ·iterate 3 refine sk (cA not B) ?_
  refine pk (vb true) wN (cA not B) ?_
  refine mw (vb true) ?_
  iterate 4 refine sk (Eq.refl true) ?_
  refine pk (vb true) wN (Eq.refl true) ?_
  refine n2 ?_
  refine ct (Eq.refl true) ?_
  have bB:i_Turn a=((a),false):=by simp only [i_Turn,B,cond_true,cond_false]
  exact wj (aD bB _ u)
 have cx:=impl_ChanOk_t B
 refine pu (vp y 0) (wS (cA not B)) ?_
 have a6:=(be.kp u)
 refine ld (vi a.Role) (wS (cA not B)) isAgg_3 a6 ?_
 refine pu (vb (!(decide (a.Role=1)))) (wS (cA not B)) ?_
 refine pf (vb (!(decide (a.Role=1)))) wN (cA not B) ?_
 refine mw (vb (!(decide (a.Role=1)))) ?_
 rcases bf (decide (a.Role=1)) with x|x
 ·have cy:=dF x
  iterate 4 refine sk (cA not x) ?_
  refine pk (vb true) wN (cA not x) ?_
  refine n2 ?_
  refine ct (Eq.refl true) ?_
  have bC:i_Turn a=((a),false):=by simp only [i_Turn,B,x,cond_true,cond_false]
  exact wj (aD bC _ u)
 have cz:=dT x
 refine pu (vp y 2) (wS (cA not x)) ?_
 refine pu (vp y 2) (wS (cA not x)) ?_
 refine ld (vi a.Cur.N) (wS (cA not x)) isAgg_3 a6 ?_
 refine pu (vb (decide (a.Cur.N=4294967295))) (wS (cA not x)) ?_
 refine pf (vb (decide (a.Cur.N=4294967295))) wN (cA not x) ?_
 refine n2 ?_
 rcases bt (decide (a.Cur.N=4294967295)) with P|P
 ·have c0:=dT P
  refine ct P ?_
  have bD:i_Turn a=((a),false):=by simp only [i_Turn,B,x,P,cond_true,cond_false]
  exact wj (aD bD _ u)
 have c1:=dF P
 refine cf P ?_
 refine y1 ?_
 refine pu (vp ab 2) wN ?_
 have bg:=(bc.kp u)
 refine lN (L_28 ((a).Cur) g i j l) wN isAgg_28 sizeOf_28 bg ?_
 refine pu (vp ab 7) wN ?_
 refine st (va (L_28 ((a).Cur) g i j l)) (L_28 ((a).Cur) g i j l) [(vi ((a).Role)),(vs q ((a).Sn).length r),(vi (((a).Cur).N)),(vs g (((a).Cur).Key).length i),(vi (((a).Cur).Seq)),(vi ((((a).Cur).Win).Top)),(vs j ((((a).Cur).Win).Bits).length l),(vi (((a).Cur).N)),(vs g (((a).Cur).Key).length i),(vi (((a).Cur).Seq)),(vi ((((a).Cur).Win).Top)),(vs j ((((a).Cur).Win).Bits).length l),(vb ((a).HasOld)),(vi ((a).Until)),(vs s ((a).Next).length t)] wN sizeOf_28 bg ?_
 intro b2 G bE c2
 have bF:=(K.extk u).ext G (fun k hk=>by subst hk;exact nT (z3 f b m) p)
 refine pu (vp ab 12) wN ?_
 refine st (vb true) [(vb true)] [(vi ((a).Role)),(vs q ((a).Sn).length r),(vi (((a).Cur).N)),(vs g (((a).Cur).Key).length i),(vi (((a).Cur).Seq)),(vi ((((a).Cur).Win).Top)),(vs j ((((a).Cur).Win).Bits).length l),(vi (((a).Cur).N)),(vs g (((a).Cur).Key).length i),(vi (((a).Cur).Seq)),(vi ((((a).Cur).Win).Top)),(vs j ((((a).Cur).Win).Bits).length l),(vb true),(vi ((a).Until)),(vs s ((a).Next).length t)] wN sizeOf_4 bE ?_
 intro c3 H bG c4
 have bH:=bF.ext H (fun k hk=>by subst hk;exact nT (z3 f b m) p)
 refine pu (vp ab 13) wN ?_
 refine st (vi (-1)) [(vi (-1))] [(vi ((a).Role)),(vs q ((a).Sn).length r),(vi (((a).Cur).N)),(vs g (((a).Cur).Key).length i),(vi (((a).Cur).Seq)),(vi ((((a).Cur).Win).Top)),(vs j ((((a).Cur).Win).Bits).length l),(vi (((a).Cur).N)),(vs g (((a).Cur).Key).length i),(vi (((a).Cur).Seq)),(vi ((((a).Cur).Win).Top)),(vs j ((((a).Cur).Win).Bits).length l),(vb true),(vi (-1)),(vs s ((a).Next).length t)] wN sizeOf_3 bG ?_
 intro bh I bI c5
 have bi:=bH.ext I (fun k hk=>by subst hk;exact nT (z3 f b m) p)
 refine wl_nil<|wq_then<|wc_seq ?_
 refine wc_drawT ([(27,[],[],(fun _ v _=>v=(vp y 2))),(28,[],[0],(fun _ v _=>v=(vp y 2))),(29,[],[0,1],(fun _ v _=>v=(vi a.Cur.N))),(30,[],[0,1,2],(fun _ v _=>v=(vi (a.Cur.N+1)))),(31,[],[],(fun _ v _=>v=(vp y 2))),(32,[],[4],(fun _ v _=>v=(vp y 3))),(33,[],[4,5],(fun _ v _=>v=(vs V a.Cur.Key.length W))),(34,[],[4,5,6],(fun _ v w=>O_22 w bh.heap.size v (derive a.Cur.Key (ByteArray.mk ([114,101,107,101,121]:List UInt8).toArray))))]:GV) (fun _ ap=>Keep bh ap) [] mixed rfl (by kernel_rfl) (by kernel_rfl) ?_ (fun _ _ h=>h) (fun _ _ _ _ h _ k=>h.trans k) trivial ?_ ?_ ?_
 ·exact ⟨hV,hE,⟨hV,hE,⟨hV,hE,⟨hV,hE,⟨hV,hE,⟨hV,hE,⟨hV,hE,⟨(fun e v w bm h hk=>by obtain ⟨bJ,bK,he,bL,bM,hap⟩:=h;exact ⟨bJ,bK,he,own_kp bL hk,bM,hap⟩),hE,trivial⟩⟩⟩⟩⟩⟩⟩⟩
 ·exact trivial
 ·refine ⟨?_,⟨?_,⟨?_,⟨?_,⟨?_,⟨?_,⟨?_,⟨?_,trivial⟩⟩⟩⟩⟩⟩⟩⟩
  ·intro _ C c6 _
   rintro _ _ _ _ _ _ _ _
   refine sw ?_
   refine pu (vp y 2) wN ?_
   exact f1
  ·intro _ C c7 _
   rintro _ rfl _ _ _ _ _ _ _
   refine sw ?_
   refine pu (vp y 2) wN ?_
   exact f1
  ·intro _ C bN _
   rintro _ rfl _ rfl _ _ _ _ _ _
   refine sw ?_
   have aE:=nL aC (nT (z2 b m) p)
   have bO:=((((a6.ch G (nN aE)).ch H (nN aE)).ch I (nN aE)).kp bN)
   refine ld (vi a.Cur.N) wN isAgg_3 bO ?_
   exact f1
  ·intro _ C c8 _
   rintro _ rfl _ rfl _ rfl _ _ _ _ _
   refine sw ?_
   refine ar (a.Cur.N+1) wN ?_
   exact f1
  ·intro _ C c9 _
   rintro _ _ _ _ _ _ _ _
   refine sw ?_
   refine pu (vp y 2) wN ?_
   exact f1
  ·intro _ C cC _
   rintro _ _ _ _ _ rfl _ _ _
   refine sw ?_
   refine pu (vp y 3) wN ?_
   exact f1
  ·intro _ C bP _
   rintro _ _ _ _ _ rfl _ rfl _ _
   refine sw ?_
   have aF:=nL aC (nT (z2 b m) p)
   have bQ:=((((a6.ch G (nN aF)).ch H (nN aF)).ch I (nN aF)).kp bP)
   refine ld (vs V a.Cur.Key.length W) wN isAgg_22 bQ ?_
   exact f1
  ·intro _ C bj _
   have bR:=bi.extk bj
   rintro _ _ _ _ _ rfl _ rfl _ rfl _
   refine sw ?_
   refine cl wN (ciDerive C _ a.Cur.Key (mR_22 (aA.from0 bR) aB) _ (ByteArray.mk ([114,101,107,101,121]:List UInt8).toArray) (mR_9) (by first|omega|decide)) ?_
   rintro _ aG ⟨bS,⟨cD,cE,rfl,bT,bU,bW⟩⟩
   have cF:=derive_le a.Cur.Key (ByteArray.mk ([114,101,107,101,121]:List UInt8).toArray)
   exact wl_finT bS ⟨_,_,rfl,(own_lo bT bj.size),bU,bW⟩
 ·intro _ C J
  rintro _ rfl _ rfl _ rfl _ rfl _ rfl _ rfl _ rfl _ ⟨cG,cH,rfl,bX,bY,cI⟩
  have cJ:=derive_le a.Cur.Key (ByteArray.mk ([114,101,107,101,121]:List UInt8).toArray)
  refine sw ?_
  refine cl wN (ciEpNew C (a.Cur.N+1) _ (derive a.Cur.Key (ByteArray.mk ([114,101,107,101,121]:List UInt8).toArray)) (mR_22 (Rd.of_own bX) bY)) ?_
  rintro _ aG ⟨a7,⟨Q,R,S,T,rfl,ad,bZ,ae,ca,cb⟩⟩
  refine pu (vp ab 2) wN ?_
  have cc:=((bI.kp J).kp a7)
  refine st (va (L_28 (i_EpNew (a.Cur.N+1) (derive a.Cur.Key (ByteArray.mk ([114,101,107,101,121]:List UInt8).toArray))) Q R S T)) (L_28 (i_EpNew (a.Cur.N+1) (derive a.Cur.Key (ByteArray.mk ([114,101,107,101,121]:List UInt8).toArray))) Q R S T) [(vi ((a).Role)),(vs q ((a).Sn).length r),(vi ((i_EpNew (a.Cur.N+1) (derive a.Cur.Key (ByteArray.mk ([114,101,107,101,121]:List UInt8).toArray))).N)),(vs Q ((i_EpNew (a.Cur.N+1) (derive a.Cur.Key (ByteArray.mk ([114,101,107,101,121]:List UInt8).toArray))).Key).length R),(vi ((i_EpNew (a.Cur.N+1) (derive a.Cur.Key (ByteArray.mk ([114,101,107,101,121]:List UInt8).toArray))).Seq)),(vi (((i_EpNew (a.Cur.N+1) (derive a.Cur.Key (ByteArray.mk ([114,101,107,101,121]:List UInt8).toArray))).Win).Top)),(vs S (((i_EpNew (a.Cur.N+1) (derive a.Cur.Key (ByteArray.mk ([114,101,107,101,121]:List UInt8).toArray))).Win).Bits).length T),(vi (((a).Cur).N)),(vs g (((a).Cur).Key).length i),(vi (((a).Cur).Seq)),(vi ((((a).Cur).Win).Top)),(vs j ((((a).Cur).Win).Bits).length l),(vb true),(vi (-1)),(vs s ((a).Next).length t)] wN sizeOf_28 cc ?_
  intro cK a8 cd cL
  have ce:=((bi.extk J).extk a7).ext a8 (fun k hk=>by subst hk;exact nT (z3 f b m) p)
  refine nx ?_
  refine lN [(vi ((a).Role)),(vs q ((a).Sn).length r),(vi ((i_EpNew (a.Cur.N+1) (derive a.Cur.Key (ByteArray.mk ([114,101,107,101,121]:List UInt8).toArray))).N)),(vs Q ((i_EpNew (a.Cur.N+1) (derive a.Cur.Key (ByteArray.mk ([114,101,107,101,121]:List UInt8).toArray))).Key).length R),(vi ((i_EpNew (a.Cur.N+1) (derive a.Cur.Key (ByteArray.mk ([114,101,107,101,121]:List UInt8).toArray))).Seq)),(vi (((i_EpNew (a.Cur.N+1) (derive a.Cur.Key (ByteArray.mk ([114,101,107,101,121]:List UInt8).toArray))).Win).Top)),(vs S (((i_EpNew (a.Cur.N+1) (derive a.Cur.Key (ByteArray.mk ([114,101,107,101,121]:List UInt8).toArray))).Win).Bits).length T),(vi (((a).Cur).N)),(vs g (((a).Cur).Key).length i),(vi (((a).Cur).Seq)),(vi ((((a).Cur).Win).Top)),(vs j ((((a).Cur).Win).Bits).length l),(vb true),(vi (-1)),(vs s ((a).Next).length t)] wN isAgg_30 sizeOf_30 cd ?_
  have ao:=nL ai (nT m.size p)
  have cg:=((((((((((aU.kp m).kp F).ch D (nN ao)).kp u).ch G (nN ao)).ch H (nN ao)).ch I (nN ao)).kp J).kp a7).ch a8 (nN ao))
  refine sv [(vi ((a).Role)),(vs q ((a).Sn).length r),(vi ((i_EpNew (a.Cur.N+1) (derive a.Cur.Key (ByteArray.mk ([114,101,107,101,121]:List UInt8).toArray))).N)),(vs Q ((i_EpNew (a.Cur.N+1) (derive a.Cur.Key (ByteArray.mk ([114,101,107,101,121]:List UInt8).toArray))).Key).length R),(vi ((i_EpNew (a.Cur.N+1) (derive a.Cur.Key (ByteArray.mk ([114,101,107,101,121]:List UInt8).toArray))).Seq)),(vi (((i_EpNew (a.Cur.N+1) (derive a.Cur.Key (ByteArray.mk ([114,101,107,101,121]:List UInt8).toArray))).Win).Top)),(vs S (((i_EpNew (a.Cur.N+1) (derive a.Cur.Key (ByteArray.mk ([114,101,107,101,121]:List UInt8).toArray))).Win).Bits).length T),(vi (((a).Cur).N)),(vs g (((a).Cur).Key).length i),(vi (((a).Cur).Seq)),(vi ((((a).Cur).Win).Top)),(vs j ((((a).Cur).Win).Bits).length l),(vb true),(vi (-1)),(vs s ((a).Next).length t)] wN sizeOf_30 cg ?_
  intro cM aH ci cN
  have cj:=ce.ext aH (fun k hk=>by subst hk;exact nT f.size aT)
  refine aw (vb true) ?_
  refine n3 ?_
  have a9:=fun (E sz n:Nat) (v:Value) (L:List Value) (o:World.ownsRow a4 ah.heap.size E sz v n L) (A:World.ownsRow a4 ah.heap.size E sz v n L)=>(own_ch (own_ch (own_kp (own_kp (own_ch (own_ch (own_ch (own_kp (own_ch (own_kp o F) D (ne2 A (p))) u) G (ne2 A (p))) H (ne2 A (p))) I (ne2 A (p))) J) a7) a8 (ne2 A (p))) aH (ne1 A (ai)))
  have ck:=(a9 _ _ _ _ _ X X)
  have bk:=fun (E sz n:Nat) (v:Value) (L:List Value) (o:World.ownsRow aG C.heap.size E sz v n L) (A:World.ownsRow aG C.heap.size E sz v n L)=>(own_ch (own_ch o a8 (ne1 A (nL br (z6 D u G H I J)))) aH (ne1 A (nL ai (z8 m F D u G H I J))))
  have cm:=(bk _ _ _ _ _ ad ad)
  have cn:=(bk _ _ _ _ _ ae ae)
  have co:=(a9 _ _ _ _ _ Y Y)
  have cp:=(a9 _ _ _ _ _ Z Z)
  have cq:=(a9 _ _ _ _ _ aa aa)
  refine ret_2 (.inl rfl) (va [(vi ((a).Role)),(vs q ((a).Sn).length r),(vi ((i_EpNew (a.Cur.N+1) (derive a.Cur.Key (ByteArray.mk ([114,101,107,101,121]:List UInt8).toArray))).N)),(vs Q ((i_EpNew (a.Cur.N+1) (derive a.Cur.Key (ByteArray.mk ([114,101,107,101,121]:List UInt8).toArray))).Key).length R),(vi ((i_EpNew (a.Cur.N+1) (derive a.Cur.Key (ByteArray.mk ([114,101,107,101,121]:List UInt8).toArray))).Seq)),(vi (((i_EpNew (a.Cur.N+1) (derive a.Cur.Key (ByteArray.mk ([114,101,107,101,121]:List UInt8).toArray))).Win).Top)),(vs S (((i_EpNew (a.Cur.N+1) (derive a.Cur.Key (ByteArray.mk ([114,101,107,101,121]:List UInt8).toArray))).Win).Bits).length T),(vi (((a).Cur).N)),(vs g (((a).Cur).Key).length i),(vi (((a).Cur).Seq)),(vi ((((a).Cur).Win).Top)),(vs j ((((a).Cur).Win).Bits).length l),(vb true),(vi (-1)),(vs s ((a).Next).length t)]) (vb true) rfl (rv_c [(vi ((a).Role)),(vs q ((a).Sn).length r),(vi ((i_EpNew (a.Cur.N+1) (derive a.Cur.Key (ByteArray.mk ([114,101,107,101,121]:List UInt8).toArray))).N)),(vs Q ((i_EpNew (a.Cur.N+1) (derive a.Cur.Key (ByteArray.mk ([114,101,107,101,121]:List UInt8).toArray))).Key).length R),(vi ((i_EpNew (a.Cur.N+1) (derive a.Cur.Key (ByteArray.mk ([114,101,107,101,121]:List UInt8).toArray))).Seq)),(vi (((i_EpNew (a.Cur.N+1) (derive a.Cur.Key (ByteArray.mk ([114,101,107,101,121]:List UInt8).toArray))).Win).Top)),(vs S (((i_EpNew (a.Cur.N+1) (derive a.Cur.Key (ByteArray.mk ([114,101,107,101,121]:List UInt8).toArray))).Win).Bits).length T),(vi (((a).Cur).N)),(vs g (((a).Cur).Key).length i),(vi (((a).Cur).Seq)),(vi ((((a).Cur).Win).Top)),(vs j ((((a).Cur).Win).Bits).length l),(vb true),(vi (-1)),(vs s ((a).Next).length t)] rfl ci isAgg_30 sizeOf_30) rfl ?_
  refine ⟨cj.keep0,?_⟩
  simp only [i_Turn,B,x,P,cond_true,cond_false]
  have M:=z7 F D u G H I J
  exact ⟨_,_,_,_,_,_,_,_,_,_,_,_,rfl,(own_lo ck (z2 f b)),aW,(own_lo cm (z10 f b m F D u G H I J)),bZ,(own_lo cn (z10 f b m F D u G H I J)),ca,(own_lo co (z2 f b)),aX,(own_lo cp (z2 f b)),aY,(own_lo cq (z2 f b)),bb,⟨⟨(Ap.lt X ad M),⟨(Ap.lt X ae M),⟨(d.1.1),⟨(d.1.2.1),⟨(d.1.2.2.2.2.1),trivial⟩⟩⟩⟩⟩,⟨⟨(cb.1.1),⟨(Ap.lt Y ad M).symm,⟨(Ap.lt Z ad M).symm,⟨(Ap.lt aa ad M).symm,trivial⟩⟩⟩⟩,⟨⟨(Ap.lt Y ae M).symm,⟨(Ap.lt Z ae M).symm,⟨(Ap.lt aa ae M).symm,trivial⟩⟩⟩,⟨⟨(d.2.1.1),⟨(d.2.1.2.2.2.1),trivial⟩⟩,⟨⟨(d.2.2.1.2.2.1),trivial⟩,⟨trivial,trivial⟩⟩⟩⟩⟩⟩⟩
end Go.Proofs.Ytacoceibbheccaa.K
