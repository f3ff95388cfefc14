import Derived.Test.YtjcahjhnnagkdaaCore
import Derived.Test.YtjcahjhnnagkdaaProg
import Derived.Test.YtjcahjhnnagkdaaHeld
import Derived.Test.YtjcahjhnnagkdaaFun
import Derived.Test.YtjcahjhnnagkdaaFunZ
import Derived.Test.YtjcahjhnnagkdaaSqz
namespace Go.Proofs.Ytjcahjhnnagkdaa.K
open Go.RowKit
set_option linter.unusedVariables false
set_option linter.unusedSimpArgs false
set_option maxRecDepth 100000
set_option maxHeartbeats 4000000
def LT_144 : LTy (PNote) := { E := 144, Eb := 5, sz := 12, enc := fun e => [vi e.1.Kind, vi e.1.Id, vi e.1.Role, vs (adr2 e.2 0).1 e.1.Cn.length (adr2 e.2 0).2, vs (adr2 e.2 1).1 e.1.Sn.length (adr2 e.2 1).2, vi e.1.Epoch, vi e.1.Seq, vs (adr2 e.2 2).1 e.1.Body.length (adr2 e.2 2).2, vs (adr2 e.2 3).1 e.1.Key.length (adr2 e.2 3).2, vi e.1.A.Host, vi e.1.A.Port, vi e.1.Now], bs := fun x => [x.Cn, x.Sn, x.Body, x.Key], len := fun _ => rfl, one := fun _ => one_all rfl, pos := by decide, ne := by decide }
def z_PNote : PNote := { Kind := 0, Id := 0, Role := 0, Cn := [], Sn := [], Epoch := 0, Seq := 0, Body := [], Key := [], A := { Host := 0, Port := 0 : PAddr }, Now := 0 : PNote }
def LT_41 : LTy (PNote) := { E := 41, Eb := 5, sz := 12, enc := fun e => [vi e.1.Kind, vi e.1.Id, vi e.1.Role, vs (adr2 e.2 0).1 e.1.Cn.length (adr2 e.2 0).2, vs (adr2 e.2 1).1 e.1.Sn.length (adr2 e.2 1).2, vi e.1.Epoch, vi e.1.Seq, vs (adr2 e.2 2).1 e.1.Body.length (adr2 e.2 2).2, vs (adr2 e.2 3).1 e.1.Key.length (adr2 e.2 3).2, vi e.1.A.Host, vi e.1.A.Port, vi e.1.Now], bs := fun x => [x.Cn, x.Sn, x.Body, x.Key], len := fun _ => rfl, one := fun _ => one_all rfl, pos := by decide, ne := by decide }
def LT_166 : LTy (PCand) := { E := 166, Eb := 5, sz := 4, enc := fun e => [vi e.1.A.Host, vi e.1.A.Port, vs (adr2 e.2 0).1 e.1.Draw.length (adr2 e.2 0).2, vi e.1.Until], bs := fun x => [x.Draw], len := fun _ => rfl, one := fun _ => one_all rfl, pos := by decide, ne := by decide }
def z_PCand : PCand := { A := { Host := 0, Port := 0 : PAddr }, Draw := [], Until := 0 : PCand }
def LT_54 : LTy (PCand) := { E := 54, Eb := 5, sz := 4, enc := fun e => [vi e.1.A.Host, vi e.1.A.Port, vs (adr2 e.2 0).1 e.1.Draw.length (adr2 e.2 0).2, vi e.1.Until], bs := fun x => [x.Draw], len := fun _ => rfl, one := fun _ => one_all rfl, pos := by decide, ne := by decide }
def enc_PCredit (x : PCredit) : List Value := [.int .i64 x.A.Host, .int .i64 x.A.Port, .int .i64 x.Got, .int .i64 x.Sent]
theorem enc_PCredit_len : ∀ a, (enc_PCredit a).length = 4 := fun _ => rfl
theorem enc_PCredit_one : ∀ a, ∀ u ∈ enc_PCredit a, u.oneCell' = true := fun _ => (one_cons rfl (one_cons rfl (one_cons rfl (one_cons rfl one_nil))))
def z_PCredit : PCredit := { A := { Host := 0, Port := 0 : PAddr }, Got := 0, Sent := 0 : PCredit }
def creditAt (b : List PCredit) (a : PAddr) : Int := findF (fun c : PCredit => decide (c.A.Host = a.Host) && decide (c.A.Port = a.Port)) b
theorem creditAt_range (a : List PCredit) (b : PAddr) : -1 ≤ creditAt a b ∧ creditAt a b < (a.length : Int) := findF_range a

def candAt (b : PPaths) (a : PAddr) : Int := findF (fun c : PCand => decide (c.A.Host = a.Host) && decide (c.A.Port = a.Port)) b.Cands
theorem candAt_range (a : PPaths) (b : PAddr) : -1 ≤ candAt a b ∧ candAt a b < (a.Cands.length : Int) := findF_range a.Cands
theorem slTy_22 : SlTy Try.prog 22 5 1 1 (v8 0) := slTy Try.underlying22 (by kernel_rfl) rfl rfl
theorem isAgg_5 : ∀ w, (isAgg 5).run Try.prog w = .ok false w := fun w => by kernel_rfl
theorem sizeOf_5 : ∀ w, (sizeOf 5).run Try.prog w = .ok 1 w := fun w => by kernel_rfl
def R_22 (w : World) (v : Value) (x : (List UInt8)) : Prop := ∃ (a : Option Addr) (b : Nat), v = .slice a x.length b ∧ Rd w 1 (.slice a x.length b) x.length (x.map bV) ∧ x.length ≤ 1073741824
def O_22 (w : World) (lo : Nat) (v : Value) (x : (List UInt8)) : Prop := ∃ (a : Option Addr) (b : Nat), v = .slice a x.length b ∧ w.ownsRow lo 5 1 (.slice a x.length b) x.length (x.map bV) ∧ x.length ≤ 1073741824 ∧ Aps [(a, b)]
theorem cltoByteS (b : World) (q : Value) (a : List UInt8) (w : R_22 b q a)  : Fn Try.prog 58 #[q] b (fun v h => Keep b h ∧ O_22 h b.heap.size v (cpB a)) := by
 obtain ⟨f, g, rfl, l, I⟩ := w
 refine fn_ofS (n := 22) [(vs f a.length g)] Try.func58 rfl rfl ?_
 refine sr ?_
 refine aw (vs none 0 0) ?_
 refine nx ?_
 refine mw (vs f a.length g) ?_
 refine ln wN slTy_22 l ?_
 refine wl_makeB (a.length) wN rfl rfl rfl slTy_22 (a.length : Int) rfl (by omega) (by first | (simp only [List.length_append, List.length_cons, List.length_nil, List.length_replicate, List.length_take, List.length_drop]; omega) | omega) (by first | (simp only [List.length_append, List.length_cons, List.length_nil, List.length_replicate, List.length_take, List.length_drop]; omega) | omega) ?_
 intro d e o y p
 have A := (Ch.base b).extk y
 refine aw (vs d (List.replicate a.length (0 : UInt8)).length e) ?_
 refine n4 ?_
 refine aw (vi 0) ?_
 refine wl_nil <| wq_then <| wc_block ?_
 have B : ((List.replicate a.length (0 : UInt8)) : List UInt8) = a.take 0 ++ List.replicate (a.length - 0) (0 : UInt8) := by first | exact cpB_next (by omega) | simp
 refine wc_loopP [(0, (vs f a.length g)), (2, (vs none 0 0)), (3, (vs d (List.replicate a.length (0 : UInt8)).length e)), (4, (vi ((0 : Nat) : Int)))] ⟨rfl, rfl, rfl, (cA (Value.int .i64) (show (0 : Int) = ((0 : Nat) : Int) by omega)), trivial⟩ (fun e' h => ∃ (k : Nat) (r : Env), e' = pt r [(0, (vs f a.length g)), (2, (vs none 0 0)), (3, (vs d (List.replicate a.length (0 : UInt8)).length e)), (4, (vi ((k : Nat) : Int)))] ∧ Ch (fun k => b.heap.size ≤ k) b h ∧ Ch (fun k => b.heap.size ≤ k) o h ∧ k ≤ a.length ∧ World.ownsRow h b.heap.size 5 1 (.slice d (List.replicate a.length (0 : UInt8)).length e) (List.replicate a.length (0 : UInt8)).length ((a.take k ++ List.replicate (a.length - k) (0 : UInt8)).map bV)) (fun e' _ => a.length - ((intOf (e' 4))).toNat) ?_ ?_
 ·exact fun u => ⟨0, u, rfl, A, (Ch.refl (fun k => b.heap.size ≤ k) o), (by omega), (by rw [← B]; exact p)⟩
 ·rintro _ C ⟨k, r, rfl, i, D, J, m⟩
  refine wc_seq <| sr ?_
  refine mw (vi ((k : Nat) : Int)) ?_
  refine mw (vs f a.length g) ?_
  refine ln wN slTy_22 (l.from0 i) ?_
  refine pu (vb (decide (((k : Nat) : Int) < (a.length : Int)))) wN ?_
  refine n2 ?_
  rcases bf (decide (((k : Nat) : Int) < (a.length : Int))) with j | j
  ·have K := dF j
   refine cf j ?_
   refine wc_exit <| wq_then_exit <| wq_then_exit <| wq_blk_exit <| wq_then <| sr ?_
   refine mw (vs d (List.replicate a.length (0 : UInt8)).length e) ?_
   refine aw (vs d (List.replicate a.length (0 : UInt8)).length e) ?_
   refine n3 ?_
   refine rt (vs d (List.replicate a.length (0 : UInt8)).length e) ?_
   refine ⟨i.keep0, ?_⟩
   have E : cpB a = (a.take k ++ List.replicate (a.length - k) (0 : UInt8)) := by exact cpB_end (by omega)
   rw [E]
   have s : (List.replicate a.length (0 : UInt8)).length = ((a.take k ++ List.replicate (a.length - k) (0 : UInt8))).length := by first | (simp only [List.length_append, List.length_take, List.length_replicate, List.length_set, List.length_map]; done) | (simp only [List.length_append, List.length_take, List.length_replicate, List.length_set, List.length_map]; omega)
   rw [s] at m ⊢
   exact ⟨_, _, rfl, m, (by rw [← s]; rw [List.length_replicate]; first | assumption | omega), ⟨trivial, trivial⟩⟩
  have L := dT j
  refine ct j ?_
  refine wc_skip <| wq_then <| wc_seq <| wc_block <| wc_region ?_
  refine mw (vs d (List.replicate a.length (0 : UInt8)).length e) ?_
  refine mw (vi ((k : Nat) : Int)) ?_
  refine mw (vs f a.length g) ?_
  refine mw (vi ((k : Nat) : Int)) ?_
  refine ix wN ((k : Nat) : Int) slTy_22 (l.from0 i) ?_
  refine eb (x := a) k wN isAgg_5 (l.from0 i) ?_
  refine ix wN ((k : Nat) : Int) slTy_22 (Rd.of_own m) ?_
  refine wl_storeB (a.take k ++ List.replicate (a.length - k) (0 : UInt8)) (k) ((a.getD k 0)) wN rfl rfl rfl (by simp) rfl sizeOf_5 m (by first | omega | (simp only [List.length_append, List.length_replicate, List.length_take, List.length_set, List.length_map]; omega)) ?_
  intro M t F
  have G := i.ext t (fun k hk => nT (Nat.le_refl b.heap.size) (own_lt p k hk).1)
  refine wl_nil <| wq_blk_normal <| wq_then <| wc_region ?_
  refine mw (vi ((k : Nat) : Int)) ?_
  refine ar (((k : Nat) : Int) + 1) wN ?_
  refine aw (vi (((k : Nat) : Int) + 1)) ?_
  refine wl_nil ?_
  have H : (((a.take k ++ List.replicate (a.length - k) (0 : UInt8)).set k (a.getD k 0)) : List UInt8) = a.take (k + 1) ++ List.replicate (a.length - (k + 1)) (0 : UInt8) := by first | exact cpB_next (by omega) | simp
  refine wq_loopP (w0 := C) [(0, (vs f a.length g)), (2, (vs none 0 0)), (3, (vs d (List.replicate a.length (0 : UInt8)).length e)), (4, (vi (((k + 1) : Nat) : Int)))] ?_ ?_ ?_
  · exact ⟨rfl, rfl, rfl, (cA (Value.int .i64) (show ((((k : Nat) : Int) + 1) : Int) = (((k + 1) : Nat) : Int) by omega)), trivial⟩
  · exact fun u => ⟨(k + 1), u, rfl, G, (((Ch.refl (fun k => b.heap.size ≤ k) o).ext D (fun k hk => hk)).ext t (fun k hk => nT (Nat.le_refl b.heap.size) (own_lt p k hk).1)), (by omega), (by rw [← H]; exact F)⟩
  · show a.length - ((((k + 1) : Nat) : Int)).toNat < a.length - (((k : Nat) : Int)).toNat; omega

abbrev L_26 (x : PAddr)  : List Value := [vi x.Host, vi x.Port]
theorem zero_26 : ∀ w, (zeroValue 26).run Try.prog w = .ok (va [(vi 0), (vi 0)]) w := fun w => by kernel_rfl
theorem isAgg_3 : ∀ w, (isAgg 3).run Try.prog w = .ok false w := fun w => by kernel_rfl
theorem sizeOf_3 : ∀ w, (sizeOf 3).run Try.prog w = .ok 1 w := fun w => by kernel_rfl
theorem isAgg_26 : ∀ w, (isAgg 26).run Try.prog w = .ok true w := fun w => by kernel_rfl
theorem sizeOf_26 : ∀ w, (sizeOf 26).run Try.prog w = .ok 2 w := fun w => by kernel_rfl
def R_48 (w : World) (v : Value) (x : (PAddr)) : Prop := v = .agg #[.int .i64 x.Host, .int .i64 x.Port]
def O_26 (w : World) (lo : Nat) (v : Value) (x : (PAddr)) : Prop := v = .agg #[.int .i64 x.Host, .int .i64 x.Port]
def l_toAddr (a : PAddr) : (PAddr) := a
theorem cltoAddr (b : World) (i : Value) (a : PAddr) (r : R_48 b i a)  : Fn Try.prog 34 #[i] b (fun v j => Keep b j ∧ O_26 j b.heap.size v (l_toAddr a)) := by
 obtain rfl := r
 refine fn_ofS (n := 11) [(va (L_26 a))] Try.func34 rfl rfl ?_
 refine sr ?_
 refine bx (L_26 a) wN ?_
 intro l K L s f t
 refine al [(vi 0), (vi 0)] wN zero_26 ?_
 intro M N u m d w
 have x := ((Ch.base b).extk f).extk d
 refine nx ?_
 refine al [(vi 0), (vi 0)] wN zero_26 ?_
 intro o O e P g y
 refine nx ?_
 refine pu (vp l 0) wN ?_
 have p := ((t.kp d).kp g)
 refine ld (vi a.Host) wN isAgg_3 p ?_
 refine pu (vp o 0) wN ?_
 refine st (vi a.Host) [(vi a.Host)] [(vi a.Host), (vi 0)] wN sizeOf_3 y ?_
 intro Q h A R
 have B := (x.extk g).ext h (fun k hk => by subst hk; exact nT (z2 f d) e)
 refine nx ?_
 refine pu (vp l 1) wN ?_
 have C := (p.ch h (nN (nL s (nT d.size e))))
 refine ld (vi a.Port) wN isAgg_3 C ?_
 refine pu (vp o 1) wN ?_
 refine st (vi a.Port) [(vi a.Port)] (L_26 a) wN sizeOf_3 A ?_
 intro S q D T
 have E := B.ext q (fun k hk => by subst hk; exact nT (z2 f d) e)
 refine nx ?_
 refine lN (L_26 a) wN isAgg_26 sizeOf_26 D ?_
 have F := (((w.kp g).ch h (nN (nL m (e)))).ch q (nN (nL m (e))))
 refine sv (L_26 a) wN sizeOf_26 F ?_
 intro V G H W
 have I := E.ext G (fun k hk => by subst hk; exact nT f.size u)
 refine n3 ?_
 refine ret_1 (.inl rfl) (va (L_26 a)) rfl (rv_c (L_26 a) rfl H isAgg_26 sizeOf_26) ?_
 refine ⟨I.keep0, ?_⟩
 have J : l_toAddr a = a := by rfl
 rw [J]
 exact rfl

def O_4 (w : World) (lo : Nat) (v : Value) (x : (Bool)) : Prop := v = .bool x
def s_l1In (a : Int) (b : Int) (d : Int) : (Bool) := bif (decide (b ≤ a)) then (decide (a ≤ d)) else (false)
theorem csl1In (f : World) (a : Int) (e : Int) (d : Int)  : Fn Try.prog 86 #[(vi a), (vi e), (vi d)] f (fun v g => Keep f g ∧ O_4 g f.heap.size v (s_l1In a e d)) := by
 refine fn_ofS (n := 15) [(vi a), (vi e), (vi d)] Try.func86 rfl rfl ?_
 refine sr ?_
 refine aw (vb false) ?_
 refine nx ?_
 refine mw (vi a) ?_
 refine mw (vi e) ?_
 refine pu (vb (decide (e ≤ a))) wN ?_
 refine mw (vb (decide (e ≤ a))) ?_
 rcases bf (decide (e ≤ a)) with b | b
 ·have h := dF b
  iterate 3 refine sk b ?_
  refine pf (vb false) wN b ?_
  refine aw (vb false) ?_
  refine n3 ?_
  refine rt (vb false) ?_
  refine ⟨Ch.refl _ _, ?_⟩
  simp only [s_l1In, b, cond_true, cond_false]
  exact rfl
 have i := dT b
 refine mv (vi a) (wS b) ?_
 refine mv (vi d) (wS b) ?_
 refine pu (vb (decide (a ≤ d))) (wS b) ?_
 refine pk (vb (decide (a ≤ d))) wN b ?_
 refine aw (vb (decide (a ≤ d))) ?_
 refine n3 ?_
 refine rt (vb (decide (a ≤ d))) ?_
 refine ⟨Ch.refl _ _, ?_⟩
 simp only [s_l1In, b, cond_true, cond_false]
 exact rfl
theorem spec_l1In_t {n a b : Int} (h : s_l1In n a b = true) : a ≤ n ∧ n ≤ b := by
  unfold s_l1In at h
  by_cases h1 : a ≤ n <;> simp [h1] at h
  exact ⟨h1, h⟩
theorem spec_l1In_f {n a b : Int} (h : s_l1In n a b = false) : n < a ∨ b < n := by
  unfold s_l1In at h
  by_cases h1 : a ≤ n <;> simp [h1] at h <;> omega

def s_PskOk (a : List UInt8) : (Bool) := (s_l1In (a.length : Int) 1 32)
theorem csPskOk (b : World) (d : Value) (a : List UInt8) (h : R_22 b d a)  : Fn Try.prog 117 #[d] b (fun v e => Keep b e ∧ O_4 e b.heap.size v (s_PskOk a)) := by
 obtain ⟨f, g, rfl, i, m⟩ := h
 refine fn_ofS (n := 6) [(vs f a.length g)] Try.func117 rfl rfl ?_
 refine sr ?_
 refine aw (vb false) ?_
 refine nx ?_
 refine mw (vs f a.length g) ?_
 refine ln wN slTy_22 i ?_
 refine cl wN (csl1In b (a.length : Int) 1 32) ?_
 rintro _ o ⟨j, rfl⟩
 have k := (Ch.base b).extk j
 refine aw (vb (s_l1In (a.length : Int) 1 32)) ?_
 refine n3 ?_
 refine rt (vb (s_l1In (a.length : Int) 1 32)) ?_
 refine ⟨k.keep0, ?_⟩
 have l : s_PskOk a = (s_l1In (a.length : Int) 1 32) := by rfl
 rw [l]
 exact rfl

def R_26 (w : World) (v : Value) (x : (PAddr)) : Prop := v = .agg #[.int .i64 x.Host, .int .i64 x.Port]
def s_AddrOk (a : PAddr) : (Bool) := bif (s_l1In a.Host 0 4294967295) then ((s_l1In a.Port 0 65535)) else (false)
theorem csAddrOk (d : World) (e : Value) (a : PAddr) (k : R_26 d e a)  : Fn Try.prog 85 #[e] d (fun v f => Keep d f ∧ O_4 f d.heap.size v (s_AddrOk a)) := by
 obtain rfl := k
 refine fn_ofS (n := 11) [(va (L_26 a))] Try.func85 rfl rfl ?_
 refine sr ?_
 refine bx (L_26 a) wN ?_
 intro g l s t m h
 refine aw (vb false) ?_
 refine nx ?_
 refine pu (vp g 0) wN ?_
 refine ld (vi a.Host) wN isAgg_3 h ?_
 refine cl wN (csl1In l a.Host 0 4294967295) ?_
 rintro _ o ⟨i, rfl⟩
 have j := ((Ch.base d).extk m).extk i
 refine mw (vb (s_l1In a.Host 0 4294967295)) ?_
 rcases bf (s_l1In a.Host 0 4294967295) with b | b
 ·have u := spec_l1In_f b
  iterate 3 refine sk b ?_
  refine pf (vb false) wN b ?_
  refine aw (vb false) ?_
  refine n3 ?_
  refine rt (vb false) ?_
  refine ⟨j.keep0, ?_⟩
  simp only [s_AddrOk, b, cond_true, cond_false]
  exact rfl
 have w := spec_l1In_t b
 refine pu (vp g 1) (wS b) ?_
 have p := (h.kp i)
 refine ld (vi a.Port) (wS b) isAgg_3 p ?_
 refine cl (wS b) (csl1In o a.Port 0 65535) ?_
 rintro _ x ⟨q, rfl⟩
 have r := j.extk q
 refine pk (vb (s_l1In a.Port 0 65535)) wN b ?_
 refine aw (vb (s_l1In a.Port 0 65535)) ?_
 refine n3 ?_
 refine rt (vb (s_l1In a.Port 0 65535)) ?_
 refine ⟨r.keep0, ?_⟩
 simp only [s_AddrOk, b, cond_true, cond_false]
 exact rfl

abbrev Z_98 : List Value := [(vi 0), (vs none 0 0), (vi 0), (vi 0), (vi 0), (vs none 0 0), (vi 0), (vi 0), (vs none 0 0), (vs none 0 0), (vi 0), (vs none 0 0), (vs none 0 0), (vi 0), (vi 0), (vs none 0 0), (vs none 0 0), (vi 0), (vs none 0 0), (vi 0), (vs none 0 0), (vi 0), (vi 0), (vs none 0 0), (vi 0), (vs none 0 0), (vi 0), (vi 0), (vs none 0 0), (vb false), (vi 0), (vs none 0 0), (vb false), (vi 0), (vi 0), (vi 0), (vb false), (vi 0), (vi 0), (vi 0), (vi 0)]
theorem zero_98 : ∀ w, (zeroValue 98).run Try.prog w = .ok (va Z_98) w := fun w => by kernel_rfl
theorem sizeOf_98 : ∀ w, (sizeOf 98).run Try.prog w = .ok 41 w := fun w => by kernel_rfl
theorem isAgg_98 : ∀ w, (isAgg 98).run Try.prog w = .ok true w := fun w => by kernel_rfl
theorem mixed : Try.prog.follows .mixedOrders = true := by kernel_rfl
def O_98 (w : World) (lo : Nat) (v : Value) (x : (PClient)) : Prop := ∃ (a : Option Addr) (b : Nat) (d : Option Addr) (e : Nat) (f : Option Addr) (g : Nat) (h : Option Addr) (i : Nat) (j : Option Addr) (k : Nat) (l : Option Addr) (m : Nat) (o : Option Addr) (p : Nat) (q : Option Addr) (r : Nat) (s : Option Addr) (t : Nat) (u : Option Addr) (y : Nat) (A : Option Addr) (B : Nat) (D : Option Addr) (E : Nat) (F : Option Addr) (G : Nat) (H : Option Addr) (I : Nat), v = .agg #[.int .i64 x.Id, .slice a x.Psk.length b, .int .i64 x.At.Host, .int .i64 x.At.Port, .int .i64 x.St, .slice d x.Cn.length e, .int .i64 x.Fin.Kind, .int .i64 x.Fin.Id, .slice f x.Fin.Cn.length g, .slice h x.Fin.Sn.length i, .int .i64 x.Fin.Tick, .slice j x.Fin.Cookie.length k, .slice l x.Fin.Proof.length m, .int .i64 x.Fin.Epoch, .int .i64 x.Fin.Seq, .slice o x.Fin.Body.length p, .slice q x.Fin.Tag.length r, .int .i64 x.C.Role, .slice s x.C.Sn.length t, .int .i64 x.C.Cur.N, .slice u x.C.Cur.Key.length y, .int .i64 x.C.Cur.Seq, .int .i64 x.C.Cur.Win.Top, .slice A x.C.Cur.Win.Bits.length B, .int .i64 x.C.Old.N, .slice D x.C.Old.Key.length E, .int .i64 x.C.Old.Seq, .int .i64 x.C.Old.Win.Top, .slice F x.C.Old.Win.Bits.length G, .bool x.C.HasOld, .int .i64 x.C.Until, .slice H x.C.Next.length I, .bool x.T.On, .int .i64 x.T.Due, .int .i64 x.T.Wait, .int .i64 x.T.Tries, .bool x.R.On, .int .i64 x.R.Due, .int .i64 x.R.Wait, .int .i64 x.R.Tries, .int .i64 x.Last] ∧ w.ownsRow lo 5 1 (.slice a x.Psk.length b) x.Psk.length (x.Psk.map bV) ∧ x.Psk.length ≤ 1073741824 ∧ w.ownsRow lo 5 1 (.slice d x.Cn.length e) x.Cn.length (x.Cn.map bV) ∧ x.Cn.length ≤ 1073741824 ∧ w.ownsRow lo 5 1 (.slice f x.Fin.Cn.length g) x.Fin.Cn.length (x.Fin.Cn.map bV) ∧ x.Fin.Cn.length ≤ 1073741824 ∧ w.ownsRow lo 5 1 (.slice h x.Fin.Sn.length i) x.Fin.Sn.length (x.Fin.Sn.map bV) ∧ x.Fin.Sn.length ≤ 1073741824 ∧ w.ownsRow lo 5 1 (.slice j x.Fin.Cookie.length k) x.Fin.Cookie.length (x.Fin.Cookie.map bV) ∧ x.Fin.Cookie.length ≤ 1073741824 ∧ w.ownsRow lo 5 1 (.slice l x.Fin.Proof.length m) x.Fin.Proof.length (x.Fin.Proof.map bV) ∧ x.Fin.Proof.length ≤ 1073741824 ∧ w.ownsRow lo 5 1 (.slice o x.Fin.Body.length p) x.Fin.Body.length (x.Fin.Body.map bV) ∧ x.Fin.Body.length ≤ 1073741824 ∧ w.ownsRow lo 5 1 (.slice q x.Fin.Tag.length r) x.Fin.Tag.length (x.Fin.Tag.map bV) ∧ x.Fin.Tag.length ≤ 1073741824 ∧ w.ownsRow lo 5 1 (.slice s x.C.Sn.length t) x.C.Sn.length (x.C.Sn.map bV) ∧ x.C.Sn.length ≤ 1073741824 ∧ w.ownsRow lo 5 1 (.slice u x.C.Cur.Key.length y) x.C.Cur.Key.length (x.C.Cur.Key.map bV) ∧ x.C.Cur.Key.length ≤ 1073741824 ∧ w.ownsRow lo 3 1 (.slice A x.C.Cur.Win.Bits.length B) x.C.Cur.Win.Bits.length (x.C.Cur.Win.Bits.map iV) ∧ x.C.Cur.Win.Bits.length ≤ 1073741824 ∧ w.ownsRow lo 5 1 (.slice D x.C.Old.Key.length E) x.C.Old.Key.length (x.C.Old.Key.map bV) ∧ x.C.Old.Key.length ≤ 1073741824 ∧ w.ownsRow lo 3 1 (.slice F x.C.Old.Win.Bits.length G) x.C.Old.Win.Bits.length (x.C.Old.Win.Bits.map iV) ∧ x.C.Old.Win.Bits.length ≤ 1073741824 ∧ w.ownsRow lo 5 1 (.slice H x.C.Next.length I) x.C.Next.length (x.C.Next.map bV) ∧ x.C.Next.length ≤ 1073741824 ∧ Aps [(a, b), (d, e), (f, g), (h, i), (j, k), (l, m), (o, p), (q, r), (s, t), (u, y), (A, B), (D, E), (F, G), (H, I)]
theorem mR_22 {w : World} {x : List UInt8} {a : Option Addr} {b : Nat} (d : Rd w 1 (.slice a x.length b) x.length (x.map bV)) (e : x.length ≤ 1073741824) : R_22 w (vs a x.length b) x := ⟨_, _, rfl, d, e⟩
theorem mR_26 {w : World} {x : PAddr} : R_26 w (va (L_26 x)) x := rfl
def s_ClientNew (a : Int) (b : List UInt8) (d : PAddr) : (PClient) := bif (s_l1In a 1 9) then (bif (s_PskOk b) then (bif (s_AddrOk d) then ({ Id := a, Psk := b, At := d, St := 0, Cn := [], Fin := { Kind := 0, Id := 0, Cn := [], Sn := [], Tick := 0, Cookie := [], Proof := [], Epoch := 0, Seq := 0, Body := [], Tag := [] : PFrame }, C := { Role := 0, Sn := [], Cur := { N := 0, Key := [], Seq := 0, Win := { Top := 0, Bits := [] : PWin } : PEp }, Old := { N := 0, Key := [], Seq := 0, Win := { Top := 0, Bits := [] : PWin } : PEp }, HasOld := false, Until := 0, Next := [] : PChan }, T := { On := false, Due := 0, Wait := 0, Tries := 0 : PTimer }, R := { On := false, Due := 0, Wait := 0, Tries := 0 : PTimer }, Last := 0 : PClient }) else ({ Id := 0, Psk := [], At := { Host := 0, Port := 0 : PAddr }, St := 0, Cn := [], Fin := { Kind := 0, Id := 0, Cn := [], Sn := [], Tick := 0, Cookie := [], Proof := [], Epoch := 0, Seq := 0, Body := [], Tag := [] : PFrame }, C := { Role := 0, Sn := [], Cur := { N := 0, Key := [], Seq := 0, Win := { Top := 0, Bits := [] : PWin } : PEp }, Old := { N := 0, Key := [], Seq := 0, Win := { Top := 0, Bits := [] : PWin } : PEp }, HasOld := false, Until := 0, Next := [] : PChan }, T := { On := false, Due := 0, Wait := 0, Tries := 0 : PTimer }, R := { On := false, Due := 0, Wait := 0, Tries := 0 : PTimer }, Last := 0 : PClient })) else ({ Id := 0, Psk := [], At := { Host := 0, Port := 0 : PAddr }, St := 0, Cn := [], Fin := { Kind := 0, Id := 0, Cn := [], Sn := [], Tick := 0, Cookie := [], Proof := [], Epoch := 0, Seq := 0, Body := [], Tag := [] : PFrame }, C := { Role := 0, Sn := [], Cur := { N := 0, Key := [], Seq := 0, Win := { Top := 0, Bits := [] : PWin } : PEp }, Old := { N := 0, Key := [], Seq := 0, Win := { Top := 0, Bits := [] : PWin } : PEp }, HasOld := false, Until := 0, Next := [] : PChan }, T := { On := false, Due := 0, Wait := 0, Tries := 0 : PTimer }, R := { On := false, Due := 0, Wait := 0, Tries := 0 : PTimer }, Last := 0 : PClient })) else ({ Id := 0, Psk := [], At := { Host := 0, Port := 0 : PAddr }, St := 0, Cn := [], Fin := { Kind := 0, Id := 0, Cn := [], Sn := [], Tick := 0, Cookie := [], Proof := [], Epoch := 0, Seq := 0, Body := [], Tag := [] : PFrame }, C := { Role := 0, Sn := [], Cur := { N := 0, Key := [], Seq := 0, Win := { Top := 0, Bits := [] : PWin } : PEp }, Old := { N := 0, Key := [], Seq := 0, Win := { Top := 0, Bits := [] : PWin } : PEp }, HasOld := false, Until := 0, Next := [] : PChan }, T := { On := false, Due := 0, Wait := 0, Tries := 0 : PTimer }, R := { On := false, Due := 0, Wait := 0, Tries := 0 : PTimer }, Last := 0 : PClient })
theorem csClientNew (m : World) (d : Int) (G : Value) (a : List UInt8) (ad : R_22 m G a) (H : Value) (b : PAddr) (ae : R_26 m H b)  : Fn Try.prog 64 #[(vi d), G, H] m (fun v s => Keep m s ∧ O_98 s m.heap.size v (s_ClientNew d a b)) := by
 obtain ⟨i, p, rfl, I, J⟩ := ad
 obtain rfl := ae
 refine fn_ofS (n := 27) [(vi d), (vs i a.length p), (va (L_26 b))] Try.func64 rfl rfl ?_
 refine sr ?_
 refine bx (L_26 b) wN ?_
 intro af K aF aG t ah
 refine al Z_98 wN zero_98 ?_
 intro ai aj L ak y M
 have O := ((Ch.base m).extk t).extk y
 refine n4 ?_
 refine jT1 [(0, (vi d)), (1, (vs i a.length p)), (5, (vp af 0)), (6, (vp ai 0))] (s_ClientNew d a b = { Id := 0, Psk := [], At := { Host := 0, Port := 0 : PAddr }, St := 0, Cn := [], Fin := { Kind := 0, Id := 0, Cn := [], Sn := [], Tick := 0, Cookie := [], Proof := [], Epoch := 0, Seq := 0, Body := [], Tag := [] : PFrame }, C := { Role := 0, Sn := [], Cur := { N := 0, Key := [], Seq := 0, Win := { Top := 0, Bits := [] : PWin } : PEp }, Old := { N := 0, Key := [], Seq := 0, Win := { Top := 0, Bits := [] : PWin } : PEp }, HasOld := false, Until := 0, Next := [] : PChan }, T := { On := false, Due := 0, Wait := 0, Tries := 0 : PTimer }, R := { On := false, Due := 0, Wait := 0, Tries := 0 : PTimer }, Last := 0 : PClient }) ?_ fun A => ?_
 ·intro am P Q aH
  refine sr ?_
  refine pu (va Z_98) wN ?_
  have an := (M.kp Q)
  refine sv Z_98 wN sizeOf_98 an ?_
  intro S ao ap aI
  have aq := (O.extk Q).ext ao (fun k hk => by subst hk; exact nT t.size L)
  refine n1 ?_
  refine ret_1 (.inl rfl) (va Z_98) rfl (rv_c Z_98 rfl ap isAgg_98 sizeOf_98) ?_
  refine ⟨aq.keep0, ?_⟩
  rw [am]
  exact ⟨_, _, _, _, _, _, _, _, _, _, _, _, _, _, _, _, _, _, _, _, _, _, _, _, _, _, _, _, rfl, (by first | exact own_nil _ _ _ _ | exact OLv.nil _ _ _ _), (by simp), (by first | exact own_nil _ _ _ _ | exact OLv.nil _ _ _ _), (by simp), (by first | exact own_nil _ _ _ _ | exact OLv.nil _ _ _ _), (by simp), (by first | exact own_nil _ _ _ _ | exact OLv.nil _ _ _ _), (by simp), (by first | exact own_nil _ _ _ _ | exact OLv.nil _ _ _ _), (by simp), (by first | exact own_nil _ _ _ _ | exact OLv.nil _ _ _ _), (by simp), (by first | exact own_nil _ _ _ _ | exact OLv.nil _ _ _ _), (by simp), (by first | exact own_nil _ _ _ _ | exact OLv.nil _ _ _ _), (by simp), (by first | exact own_nil _ _ _ _ | exact OLv.nil _ _ _ _), (by simp), (by first | exact own_nil _ _ _ _ | exact OLv.nil _ _ _ _), (by simp), (by first | exact own_nil _ _ _ _ | exact OLv.nil _ _ _ _), (by simp), (by first | exact own_nil _ _ _ _ | exact OLv.nil _ _ _ _), (by simp), (by first | exact own_nil _ _ _ _ | exact OLv.nil _ _ _ _), (by simp), (by first | exact own_nil _ _ _ _ | exact OLv.nil _ _ _ _), (by simp), ⟨⟨(Ap.nl _), ⟨(Ap.nl _), ⟨(Ap.nl _), ⟨(Ap.nl _), ⟨(Ap.nl _), ⟨(Ap.nl _), ⟨(Ap.nl _), ⟨(Ap.nl _), ⟨(Ap.nl _), ⟨(Ap.nl _), ⟨(Ap.nl _), ⟨(Ap.nl _), ⟨(Ap.nl _), trivial⟩⟩⟩⟩⟩⟩⟩⟩⟩⟩⟩⟩⟩, ⟨⟨(Ap.nl _), ⟨(Ap.nl _), ⟨(Ap.nl _), ⟨(Ap.nl _), ⟨(Ap.nl _), ⟨(Ap.nl _), ⟨(Ap.nl _), ⟨(Ap.nl _), ⟨(Ap.nl _), ⟨(Ap.nl _), ⟨(Ap.nl _), ⟨(Ap.nl _), trivial⟩⟩⟩⟩⟩⟩⟩⟩⟩⟩⟩⟩, ⟨⟨(Ap.nl _), ⟨(Ap.nl _), ⟨(Ap.nl _), ⟨(Ap.nl _), ⟨(Ap.nl _), ⟨(Ap.nl _), ⟨(Ap.nl _), ⟨(Ap.nl _), ⟨(Ap.nl _), ⟨(Ap.nl _), ⟨(Ap.nl _), trivial⟩⟩⟩⟩⟩⟩⟩⟩⟩⟩⟩, ⟨⟨(Ap.nl _), ⟨(Ap.nl _), ⟨(Ap.nl _), ⟨(Ap.nl _), ⟨(Ap.nl _), ⟨(Ap.nl _), ⟨(Ap.nl _), ⟨(Ap.nl _), ⟨(Ap.nl _), ⟨(Ap.nl _), trivial⟩⟩⟩⟩⟩⟩⟩⟩⟩⟩, ⟨⟨(Ap.nl _), ⟨(Ap.nl _), ⟨(Ap.nl _), ⟨(Ap.nl _), ⟨(Ap.nl _), ⟨(Ap.nl _), ⟨(Ap.nl _), ⟨(Ap.nl _), ⟨(Ap.nl _), trivial⟩⟩⟩⟩⟩⟩⟩⟩⟩, ⟨⟨(Ap.nl _), ⟨(Ap.nl _), ⟨(Ap.nl _), ⟨(Ap.nl _), ⟨(Ap.nl _), ⟨(Ap.nl _), ⟨(Ap.nl _), ⟨(Ap.nl _), trivial⟩⟩⟩⟩⟩⟩⟩⟩, ⟨⟨(Ap.nl _), ⟨(Ap.nl _), ⟨(Ap.nl _), ⟨(Ap.nl _), ⟨(Ap.nl _), ⟨(Ap.nl _), ⟨(Ap.nl _), trivial⟩⟩⟩⟩⟩⟩⟩, ⟨⟨(Ap.nl _), ⟨(Ap.nl _), ⟨(Ap.nl _), ⟨(Ap.nl _), ⟨(Ap.nl _), ⟨(Ap.nl _), trivial⟩⟩⟩⟩⟩⟩, ⟨⟨(Ap.nl _), ⟨(Ap.nl _), ⟨(Ap.nl _), ⟨(Ap.nl _), ⟨(Ap.nl _), trivial⟩⟩⟩⟩⟩, ⟨⟨(Ap.nl _), ⟨(Ap.nl _), ⟨(Ap.nl _), ⟨(Ap.nl _), trivial⟩⟩⟩⟩, ⟨⟨(Ap.nl _), ⟨(Ap.nl _), ⟨(Ap.nl _), trivial⟩⟩⟩, ⟨⟨(Ap.nl _), ⟨(Ap.nl _), trivial⟩⟩, ⟨⟨(Ap.nl _), trivial⟩, ⟨trivial, trivial⟩⟩⟩⟩⟩⟩⟩⟩⟩⟩⟩⟩⟩⟩⟩
 refine mw (vi d) ?_
 refine cl wN (csl1In aj d 1 9) ?_
 rintro _ P ⟨j, rfl⟩
 have V := O.extk j
 refine pu (vb (!(s_l1In d 1 9))) wN ?_
 refine mw (vb (!(s_l1In d 1 9))) ?_
 rcases bf (s_l1In d 1 9) with f | f
 ·have aJ := spec_l1In_f f
  iterate 3 refine sk (cA not f) ?_
  refine pk (vb true) wN (cA not f) ?_
  refine mw (vb true) ?_
  iterate 3 refine sk (Eq.refl true) ?_
  refine pk (vb true) wN (Eq.refl true) ?_
  refine n2 ?_
  refine ct (Eq.refl true) ?_
  have au : s_ClientNew d a b = { Id := 0, Psk := [], At := { Host := 0, Port := 0 : PAddr }, St := 0, Cn := [], Fin := { Kind := 0, Id := 0, Cn := [], Sn := [], Tick := 0, Cookie := [], Proof := [], Epoch := 0, Seq := 0, Body := [], Tag := [] : PFrame }, C := { Role := 0, Sn := [], Cur := { N := 0, Key := [], Seq := 0, Win := { Top := 0, Bits := [] : PWin } : PEp }, Old := { N := 0, Key := [], Seq := 0, Win := { Top := 0, Bits := [] : PWin } : PEp }, HasOld := false, Until := 0, Next := [] : PChan }, T := { On := false, Due := 0, Wait := 0, Tries := 0 : PTimer }, R := { On := false, Due := 0, Wait := 0, Tries := 0 : PTimer }, Last := 0 : PClient } := by simp only [s_ClientNew, f, cond_true, cond_false]
  exact wj (A au _ j)
 have aK := spec_l1In_t f
 refine mv (vs i a.length p) (wS (cA not f)) ?_
 refine cl (wS (cA not f)) (csPskOk P _ a (mR_22 (I.from0 V) J)) ?_
 rintro _ S ⟨l, rfl⟩
 refine pu (vb (!(s_PskOk a))) (wS (cA not f)) ?_
 refine pf (vb (!(s_PskOk a))) wN (cA not f) ?_
 refine mw (vb (!(s_PskOk a))) ?_
 rcases bf (s_PskOk a) with g | g
 ·iterate 3 refine sk (cA not g) ?_
  refine pk (vb true) wN (cA not g) ?_
  refine n2 ?_
  refine ct (Eq.refl true) ?_
  have av : s_ClientNew d a b = { Id := 0, Psk := [], At := { Host := 0, Port := 0 : PAddr }, St := 0, Cn := [], Fin := { Kind := 0, Id := 0, Cn := [], Sn := [], Tick := 0, Cookie := [], Proof := [], Epoch := 0, Seq := 0, Body := [], Tag := [] : PFrame }, C := { Role := 0, Sn := [], Cur := { N := 0, Key := [], Seq := 0, Win := { Top := 0, Bits := [] : PWin } : PEp }, Old := { N := 0, Key := [], Seq := 0, Win := { Top := 0, Bits := [] : PWin } : PEp }, HasOld := false, Until := 0, Next := [] : PChan }, T := { On := false, Due := 0, Wait := 0, Tries := 0 : PTimer }, R := { On := false, Due := 0, Wait := 0, Tries := 0 : PTimer }, Last := 0 : PClient } := by simp only [s_ClientNew, f, g, cond_true, cond_false]
  exact wj (A av _ (j.trans l))
 have W := (((ah.kp y).kp j).kp l)
 refine lN (L_26 b) (wS (cA not g)) isAgg_26 sizeOf_26 W ?_
 refine cl (wS (cA not g)) (csAddrOk S _ b (mR_26)) ?_
 rintro _ B ⟨o, rfl⟩
 have X := (V.extk l).extk o
 refine pu (vb (!(s_AddrOk b))) (wS (cA not g)) ?_
 refine pf (vb (!(s_AddrOk b))) wN (cA not g) ?_
 refine n2 ?_
 rcases bf (s_AddrOk b) with q | q
 ·refine ct (cA not q) ?_
  have ax : s_ClientNew d a b = { Id := 0, Psk := [], At := { Host := 0, Port := 0 : PAddr }, St := 0, Cn := [], Fin := { Kind := 0, Id := 0, Cn := [], Sn := [], Tick := 0, Cookie := [], Proof := [], Epoch := 0, Seq := 0, Body := [], Tag := [] : PFrame }, C := { Role := 0, Sn := [], Cur := { N := 0, Key := [], Seq := 0, Win := { Top := 0, Bits := [] : PWin } : PEp }, Old := { N := 0, Key := [], Seq := 0, Win := { Top := 0, Bits := [] : PWin } : PEp }, HasOld := false, Until := 0, Next := [] : PChan }, T := { On := false, Due := 0, Wait := 0, Tries := 0 : PTimer }, R := { On := false, Due := 0, Wait := 0, Tries := 0 : PTimer }, Last := 0 : PClient } := by simp only [s_ClientNew, f, g, q, cond_true, cond_false]
  exact wj (A ax _ ((j.trans l).trans o))
 refine cf (cA not q) ?_
 refine wc_skip <| wq_then <| wc_seq ?_
 refine wc_drawT ([(21, [], [], (fun _ v _ => v = (vi d))), (22, [], [], (fun _ v w => ∃ a0 : Addr, v = .slice (some a0) 0 0 ∧ w.ownsRow B.heap.size 5 1 (.slice (some a0) 0 0) 0 [])), (23, [], [], (fun _ v _ => v = (vs i a.length p))), (24, [], [1, 2], (fun _ v w => ∃ (i : Option Addr) (D : Nat), v = .slice i a.length D ∧ w.ownsRow B.heap.size 5 1 (.slice i a.length D) a.length (a.map bV) ∧ a.length ≤ 1073741824 ∧ Aps [(i, D)])), (25, [], [], (fun _ v _ => v = (va (L_26 b))))] : GV) (fun _ s => Keep B s) [] mixed rfl (by kernel_rfl) (by kernel_rfl) ?_ (fun _ _ h => h) (fun _ _ _ _ h _ k => h.trans k) trivial ?_ ?_ ?_
 ·exact ⟨hV, hE, ⟨(fun e v w K h hk => by obtain ⟨E, he, F⟩ := h; exact ⟨E, he, own_kp F hk⟩), hE, ⟨hV, hE, ⟨(fun e v w K h hk => by obtain ⟨E, ay, he, F, az, hap⟩ := h; exact ⟨E, ay, he, own_kp F hk, az, hap⟩), hE, ⟨hV, hE, trivial⟩⟩⟩⟩⟩
 ·exact trivial
 ·refine ⟨?_, ⟨?_, ⟨?_, ⟨?_, ⟨?_, trivial⟩⟩⟩⟩⟩
  ·intro _ r aL _
   rintro _ _ _ _ _
   show WL _ _ _ _ _ _ _
   refine mw (vi d) ?_
   exact f1
  ·intro _ r a1 _
   rintro _ _ _ _ _
   show WL _ _ _ _ _ _ _
   refine wl_lit0 wN rfl rfl slTy_22 (fun w => by kernel_rfl) ?_
   intro aM Y a2 a3
   exact wl_finT a2 ⟨_, rfl, own_lo a3 a1.size⟩
  ·intro _ r aN _
   rintro _ _ _ _ _
   show WL _ _ _ _ _ _ _
   refine mw (vs i a.length p) ?_
   exact f1
  ·intro _ r Z _
   have a4 := X.extk Z
   rintro _ _ ⟨aO, rfl, a5⟩ _ rfl _ _
   show WL _ _ _ _ _ _ _
   refine ap0 a wN slTy_22 a5 (I.from0 a4) Z.size ?_
   intro aP aQ Y a6 a7 aR
   exact wl_finT a6 ⟨_, _, rfl, a7, J, ⟨trivial, trivial⟩⟩
  ·intro _ r a8 _
   rintro _ _ _ _ _
   show WL _ _ _ _ _ _ _
   have a9 := ((W.kp o).kp a8)
   refine lN (L_26 b) wN isAgg_26 sizeOf_26 a9 ?_
   exact f1
 ·intro _ r aa
  rintro _ rfl _ ⟨aS, rfl, aT⟩ _ rfl _ ⟨u, x, rfl, ab, aA, -⟩ _ rfl
  show WL _ _ _ _ _ _ _
  refine pu (va [(vi d), (vs u a.length x), (vi b.Host), (vi b.Port), (vi 0), (vs none 0 0), (vi 0), (vi 0), (vs none 0 0), (vs none 0 0), (vi 0), (vs none 0 0), (vs none 0 0), (vi 0), (vi 0), (vs none 0 0), (vs none 0 0), (vi 0), (vs none 0 0), (vi 0), (vs none 0 0), (vi 0), (vi 0), (vs none 0 0), (vi 0), (vs none 0 0), (vi 0), (vi 0), (vs none 0 0), (vb false), (vi 0), (vs none 0 0), (vb false), (vi 0), (vi 0), (vi 0), (vb false), (vi 0), (vi 0), (vi 0), (vi 0)]) wN ?_
  have aB := ((((M.kp j).kp l).kp o).kp aa)
  refine sv [(vi d), (vs u a.length x), (vi b.Host), (vi b.Port), (vi 0), (vs none 0 0), (vi 0), (vi 0), (vs none 0 0), (vs none 0 0), (vi 0), (vs none 0 0), (vs none 0 0), (vi 0), (vi 0), (vs none 0 0), (vs none 0 0), (vi 0), (vs none 0 0), (vi 0), (vs none 0 0), (vi 0), (vi 0), (vs none 0 0), (vi 0), (vs none 0 0), (vi 0), (vi 0), (vs none 0 0), (vb false), (vi 0), (vs none 0 0), (vb false), (vi 0), (vi 0), (vi 0), (vb false), (vi 0), (vi 0), (vi 0), (vi 0)] wN sizeOf_98 aB ?_
  intro Y ac aC aU
  have aD := (X.extk aa).ext ac (fun k hk => by subst hk; exact nT t.size L)
  refine n3 ?_
  have aE := (own_ch ab ac (ne1 ab (nL ak (z3 j l o))))
  refine ret_1 (.inl rfl) (va [(vi d), (vs u a.length x), (vi b.Host), (vi b.Port), (vi 0), (vs none 0 0), (vi 0), (vi 0), (vs none 0 0), (vs none 0 0), (vi 0), (vs none 0 0), (vs none 0 0), (vi 0), (vi 0), (vs none 0 0), (vs none 0 0), (vi 0), (vs none 0 0), (vi 0), (vs none 0 0), (vi 0), (vi 0), (vs none 0 0), (vi 0), (vs none 0 0), (vi 0), (vi 0), (vs none 0 0), (vb false), (vi 0), (vs none 0 0), (vb false), (vi 0), (vi 0), (vi 0), (vb false), (vi 0), (vi 0), (vi 0), (vi 0)]) rfl (rv_c [(vi d), (vs u a.length x), (vi b.Host), (vi b.Port), (vi 0), (vs none 0 0), (vi 0), (vi 0), (vs none 0 0), (vs none 0 0), (vi 0), (vs none 0 0), (vs none 0 0), (vi 0), (vi 0), (vs none 0 0), (vs none 0 0), (vi 0), (vs none 0 0), (vi 0), (vs none 0 0), (vi 0), (vi 0), (vs none 0 0), (vi 0), (vs none 0 0), (vi 0), (vi 0), (vs none 0 0), (vb false), (vi 0), (vs none 0 0), (vb false), (vi 0), (vi 0), (vi 0), (vb false), (vi 0), (vi 0), (vi 0), (vi 0)] rfl aC isAgg_98 sizeOf_98) ?_
  refine ⟨aD.keep0, ?_⟩
  simp only [s_ClientNew, f, g, q, cond_true, cond_false]
  exact ⟨_, _, _, _, _, _, _, _, _, _, _, _, _, _, _, _, _, _, _, _, _, _, _, _, _, _, _, _, rfl, (own_lo aE (z5 t y j l o)), aA, (by first | exact own_nil _ _ _ _ | exact OLv.nil _ _ _ _), (by simp), (by first | exact own_nil _ _ _ _ | exact OLv.nil _ _ _ _), (by simp), (by first | exact own_nil _ _ _ _ | exact OLv.nil _ _ _ _), (by simp), (by first | exact own_nil _ _ _ _ | exact OLv.nil _ _ _ _), (by simp), (by first | exact own_nil _ _ _ _ | exact OLv.nil _ _ _ _), (by simp), (by first | exact own_nil _ _ _ _ | exact OLv.nil _ _ _ _), (by simp), (by first | exact own_nil _ _ _ _ | exact OLv.nil _ _ _ _), (by simp), (by first | exact own_nil _ _ _ _ | exact OLv.nil _ _ _ _), (by simp), (by first | exact own_nil _ _ _ _ | exact OLv.nil _ _ _ _), (by simp), (by first | exact own_nil _ _ _ _ | exact OLv.nil _ _ _ _), (by simp), (by first | exact own_nil _ _ _ _ | exact OLv.nil _ _ _ _), (by simp), (by first | exact own_nil _ _ _ _ | exact OLv.nil _ _ _ _), (by simp), (by first | exact own_nil _ _ _ _ | exact OLv.nil _ _ _ _), (by simp), ⟨⟨(Ap.nr _), ⟨(Ap.nr _), ⟨(Ap.nr _), ⟨(Ap.nr _), ⟨(Ap.nr _), ⟨(Ap.nr _), ⟨(Ap.nr _), ⟨(Ap.nr _), ⟨(Ap.nr _), ⟨(Ap.nr _), ⟨(Ap.nr _), ⟨(Ap.nr _), ⟨(Ap.nr _), trivial⟩⟩⟩⟩⟩⟩⟩⟩⟩⟩⟩⟩⟩, ⟨⟨(Ap.nl _), ⟨(Ap.nl _), ⟨(Ap.nl _), ⟨(Ap.nl _), ⟨(Ap.nl _), ⟨(Ap.nl _), ⟨(Ap.nl _), ⟨(Ap.nl _), ⟨(Ap.nl _), ⟨(Ap.nl _), ⟨(Ap.nl _), ⟨(Ap.nl _), trivial⟩⟩⟩⟩⟩⟩⟩⟩⟩⟩⟩⟩, ⟨⟨(Ap.nl _), ⟨(Ap.nl _), ⟨(Ap.nl _), ⟨(Ap.nl _), ⟨(Ap.nl _), ⟨(Ap.nl _), ⟨(Ap.nl _), ⟨(Ap.nl _), ⟨(Ap.nl _), ⟨(Ap.nl _), ⟨(Ap.nl _), trivial⟩⟩⟩⟩⟩⟩⟩⟩⟩⟩⟩, ⟨⟨(Ap.nl _), ⟨(Ap.nl _), ⟨(Ap.nl _), ⟨(Ap.nl _), ⟨(Ap.nl _), ⟨(Ap.nl _), ⟨(Ap.nl _), ⟨(Ap.nl _), ⟨(Ap.nl _), ⟨(Ap.nl _), trivial⟩⟩⟩⟩⟩⟩⟩⟩⟩⟩, ⟨⟨(Ap.nl _), ⟨(Ap.nl _), ⟨(Ap.nl _), ⟨(Ap.nl _), ⟨(Ap.nl _), ⟨(Ap.nl _), ⟨(Ap.nl _), ⟨(Ap.nl _), ⟨(Ap.nl _), trivial⟩⟩⟩⟩⟩⟩⟩⟩⟩, ⟨⟨(Ap.nl _), ⟨(Ap.nl _), ⟨(Ap.nl _), ⟨(Ap.nl _), ⟨(Ap.nl _), ⟨(Ap.nl _), ⟨(Ap.nl _), ⟨(Ap.nl _), trivial⟩⟩⟩⟩⟩⟩⟩⟩, ⟨⟨(Ap.nl _), ⟨(Ap.nl _), ⟨(Ap.nl _), ⟨(Ap.nl _), ⟨(Ap.nl _), ⟨(Ap.nl _), ⟨(Ap.nl _), trivial⟩⟩⟩⟩⟩⟩⟩, ⟨⟨(Ap.nl _), ⟨(Ap.nl _), ⟨(Ap.nl _), ⟨(Ap.nl _), ⟨(Ap.nl _), ⟨(Ap.nl _), trivial⟩⟩⟩⟩⟩⟩, ⟨⟨(Ap.nl _), ⟨(Ap.nl _), ⟨(Ap.nl _), ⟨(Ap.nl _), ⟨(Ap.nl _), trivial⟩⟩⟩⟩⟩, ⟨⟨(Ap.nl _), ⟨(Ap.nl _), ⟨(Ap.nl _), ⟨(Ap.nl _), trivial⟩⟩⟩⟩, ⟨⟨(Ap.nl _), ⟨(Ap.nl _), ⟨(Ap.nl _), trivial⟩⟩⟩, ⟨⟨(Ap.nl _), ⟨(Ap.nl _), trivial⟩⟩, ⟨⟨(Ap.nl _), trivial⟩, ⟨trivial, trivial⟩⟩⟩⟩⟩⟩⟩⟩⟩⟩⟩⟩⟩⟩⟩

def i_clone (a : List UInt8) : (List UInt8) := a
theorem ciclone (b : World) (d : Value) (a : List UInt8) (l : R_22 b d a)  : Fn Try.prog 110 #[d] b (fun v e => Keep b e ∧ O_22 e b.heap.size v (i_clone a)) := by
 obtain ⟨f, g, rfl, m, o⟩ := l
 refine fn_ofS (n := 6) [(vs f a.length g)] Try.func110 rfl rfl ?_
 refine sr ?_
 refine aw (vs none 0 0) ?_
 refine nx ?_
 refine wl_lit0 wN rfl rfl slTy_22 (fun w => by kernel_rfl) ?_
 intro u x h p
 have i := (Ch.base b).extk h
 refine mw (vs f a.length g) ?_
 refine ap0 a wN slTy_22 p (m.from0 i) h.size ?_
 intro j k y q r A
 have s := i.extk q
 refine aw (vs j a.length k) ?_
 refine n3 ?_
 refine rt (vs j a.length k) ?_
 refine ⟨s.keep0, ?_⟩
 have t : i_clone a = a := by rfl
 rw [t]
 exact ⟨_, _, rfl, r, o, ⟨trivial, trivial⟩⟩

def i_within (a : Int) (b : Int) (d : Int) : (Bool) := bif (decide (b ≤ a)) then (decide (a ≤ d)) else (false)
theorem ciwithin (f : World) (a : Int) (e : Int) (d : Int)  : Fn Try.prog 82 #[(vi a), (vi e), (vi d)] f (fun v g => Keep f g ∧ O_4 g f.heap.size v (i_within a e d)) := by
 refine fn_ofS (n := 15) [(vi a), (vi e), (vi d)] Try.func82 rfl rfl ?_
 refine sr ?_
 refine aw (vb false) ?_
 refine nx ?_
 refine mw (vi a) ?_
 refine mw (vi e) ?_
 refine pu (vb (decide (e ≤ a))) wN ?_
 refine mw (vb (decide (e ≤ a))) ?_
 rcases bf (decide (e ≤ a)) with b | b
 ·have h := dF b
  iterate 3 refine sk b ?_
  refine pf (vb false) wN b ?_
  refine aw (vb false) ?_
  refine n3 ?_
  refine rt (vb false) ?_
  refine ⟨Ch.refl _ _, ?_⟩
  simp only [i_within, b, cond_true, cond_false]
  exact rfl
 have i := dT b
 refine mv (vi a) (wS b) ?_
 refine mv (vi d) (wS b) ?_
 refine pu (vb (decide (a ≤ d))) (wS b) ?_
 refine pk (vb (decide (a ≤ d))) wN b ?_
 refine aw (vb (decide (a ≤ d))) ?_
 refine n3 ?_
 refine rt (vb (decide (a ≤ d))) ?_
 refine ⟨Ch.refl _ _, ?_⟩
 simp only [i_within, b, cond_true, cond_false]
 exact rfl
theorem impl_within_t {n a b : Int} (h : i_within n a b = true) : a ≤ n ∧ n ≤ b := by
  unfold i_within at h
  by_cases h1 : a ≤ n <;> simp [h1] at h
  exact ⟨h1, h⟩
theorem impl_within_f {n a b : Int} (h : i_within n a b = false) : n < a ∨ b < n := by
  unfold i_within at h
  by_cases h1 : a ≤ n <;> simp [h1] at h <;> omega

def i_PskOk (a : List UInt8) : (Bool) := (i_within (a.length : Int) 1 32)
theorem ciPskOk (b : World) (d : Value) (a : List UInt8) (h : R_22 b d a)  : Fn Try.prog 136 #[d] b (fun v e => Keep b e ∧ O_4 e b.heap.size v (i_PskOk a)) := by
 obtain ⟨f, g, rfl, i, m⟩ := h
 refine fn_ofS (n := 6) [(vs f a.length g)] Try.func136 rfl rfl ?_
 refine sr ?_
 refine aw (vb false) ?_
 refine nx ?_
 refine mw (vs f a.length g) ?_
 refine ln wN slTy_22 i ?_
 refine cl wN (ciwithin b (a.length : Int) 1 32) ?_
 rintro _ o ⟨j, rfl⟩
 have k := (Ch.base b).extk j
 refine aw (vb (i_within (a.length : Int) 1 32)) ?_
 refine n3 ?_
 refine rt (vb (i_within (a.length : Int) 1 32)) ?_
 refine ⟨k.keep0, ?_⟩
 have l : i_PskOk a = (i_within (a.length : Int) 1 32) := by rfl
 rw [l]
 exact rfl

def i_AddrOk (a : PAddr) : (Bool) := bif (i_within a.Host 0 4294967295) then ((i_within a.Port 0 65535)) else (false)
theorem ciAddrOk (d : World) (e : Value) (a : PAddr) (k : R_26 d e a)  : Fn Try.prog 81 #[e] d (fun v f => Keep d f ∧ O_4 f d.heap.size v (i_AddrOk a)) := by
 obtain rfl := k
 refine fn_ofS (n := 11) [(va (L_26 a))] Try.func81 rfl rfl ?_
 refine sr ?_
 refine bx (L_26 a) wN ?_
 intro g l s t m h
 refine aw (vb false) ?_
 refine nx ?_
 refine pu (vp g 0) wN ?_
 refine ld (vi a.Host) wN isAgg_3 h ?_
 refine cl wN (ciwithin l a.Host 0 4294967295) ?_
 rintro _ o ⟨i, rfl⟩
 have j := ((Ch.base d).extk m).extk i
 refine mw (vb (i_within a.Host 0 4294967295)) ?_
 rcases bf (i_within a.Host 0 4294967295) with b | b
 ·have u := impl_within_f b
  iterate 3 refine sk b ?_
  refine pf (vb false) wN b ?_
  refine aw (vb false) ?_
  refine n3 ?_
  refine rt (vb false) ?_
  refine ⟨j.keep0, ?_⟩
  simp only [i_AddrOk, b, cond_true, cond_false]
  exact rfl
 have w := impl_within_t b
 refine pu (vp g 1) (wS b) ?_
 have p := (h.kp i)
 refine ld (vi a.Port) (wS b) isAgg_3 p ?_
 refine cl (wS b) (ciwithin o a.Port 0 65535) ?_
 rintro _ x ⟨q, rfl⟩
 have r := j.extk q
 refine pk (vb (i_within a.Port 0 65535)) wN b ?_
 refine aw (vb (i_within a.Port 0 65535)) ?_
 refine n3 ?_
 refine rt (vb (i_within a.Port 0 65535)) ?_
 refine ⟨r.keep0, ?_⟩
 simp only [i_AddrOk, b, cond_true, cond_false]
 exact rfl

def b_Equal (a : List UInt8) (b : List UInt8) : (Bool) := (eqS (ByteArray.mk a.toArray) (ByteArray.mk b.toArray))
theorem cbEqual (d : World) (e : Value) (a : List UInt8) (l : R_22 d e a) (f : Value) (b : List UInt8) (m : R_22 d f b)  : Fn Try.prog 93 #[e, f] d (fun v g => Keep d g ∧ O_4 g d.heap.size v (b_Equal a b)) := by
 obtain ⟨h, i, rfl, o, r⟩ := l
 obtain ⟨j, k, rfl, p, s⟩ := m
 refine fn_ofS (n := 10) [(vs h a.length i), (vs j b.length k)] Try.func93 rfl rfl ?_
 refine sr ?_
 refine aw (vb false) ?_
 refine nx ?_
 refine mw (vs h a.length i) ?_
 refine wl_b2s a wN rfl rfl rfl rfl Try.underlying22 Try.underlying5 Try.underlying9 o ?_
 refine mw (vs j b.length k) ?_
 refine wl_b2s b wN rfl rfl rfl rfl Try.underlying22 Try.underlying5 Try.underlying9 p ?_
 refine pu (vb (eqS (ByteArray.mk a.toArray) (ByteArray.mk b.toArray))) wN ?_
 refine aw (vb (eqS (ByteArray.mk a.toArray) (ByteArray.mk b.toArray))) ?_
 refine n3 ?_
 refine rt (vb (eqS (ByteArray.mk a.toArray) (ByteArray.mk b.toArray))) ?_
 refine ⟨Ch.refl _ _, ?_⟩
 have q : b_Equal a b = (eqS (ByteArray.mk a.toArray) (ByteArray.mk b.toArray)) := by rfl
 rw [q]
 exact rfl

abbrev L_87 (x : PFrame) (a : Option Addr) (b : Nat) (d : Option Addr) (e : Nat) (f : Option Addr) (g : Nat) (h : Option Addr) (i : Nat) (j : Option Addr) (k : Nat) (l : Option Addr) (m : Nat) : List Value := [vi x.Kind, vi x.Id, vs a x.Cn.length b, vs d x.Sn.length e, vi x.Tick, vs f x.Cookie.length g, vs h x.Proof.length i, vi x.Epoch, vi x.Seq, vs j x.Body.length k, vs l x.Tag.length m]
theorem isAgg_22 : ∀ w, (isAgg 22).run Try.prog w = .ok false w := fun w => by kernel_rfl
def R_87 (w : World) (v : Value) (x : (PFrame)) : Prop := ∃ (a : Option Addr) (b : Nat) (d : Option Addr) (e : Nat) (f : Option Addr) (g : Nat) (h : Option Addr) (i : Nat) (j : Option Addr) (k : Nat) (l : Option Addr) (m : Nat), v = .agg #[.int .i64 x.Kind, .int .i64 x.Id, .slice a x.Cn.length b, .slice d x.Sn.length e, .int .i64 x.Tick, .slice f x.Cookie.length g, .slice h x.Proof.length i, .int .i64 x.Epoch, .int .i64 x.Seq, .slice j x.Body.length k, .slice l x.Tag.length m] ∧ Rd w 1 (.slice a x.Cn.length b) x.Cn.length (x.Cn.map bV) ∧ x.Cn.length ≤ 1073741824 ∧ Rd w 1 (.slice d x.Sn.length e) x.Sn.length (x.Sn.map bV) ∧ x.Sn.length ≤ 1073741824 ∧ Rd w 1 (.slice f x.Cookie.length g) x.Cookie.length (x.Cookie.map bV) ∧ x.Cookie.length ≤ 1073741824 ∧ Rd w 1 (.slice h x.Proof.length i) x.Proof.length (x.Proof.map bV) ∧ x.Proof.length ≤ 1073741824 ∧ Rd w 1 (.slice j x.Body.length k) x.Body.length (x.Body.map bV) ∧ x.Body.length ≤ 1073741824 ∧ Rd w 1 (.slice l x.Tag.length m) x.Tag.length (x.Tag.map bV) ∧ x.Tag.length ≤ 1073741824
def i_sameFrame (a : PFrame) (b : PFrame) : (Bool) := bif (decide (a.Kind = b.Kind)) then (bif (decide (a.Id = b.Id)) then (bif (decide (a.Tick = b.Tick)) then (bif (decide (a.Epoch = b.Epoch)) then (bif (decide (a.Seq = b.Seq)) then (bif (b_Equal a.Cn b.Cn) then (bif (b_Equal a.Sn b.Sn) then (bif (b_Equal a.Cookie b.Cookie) then (bif (b_Equal a.Proof b.Proof) then (bif (b_Equal a.Body b.Body) then ((b_Equal a.Tag b.Tag)) else (false)) else (false)) else (false)) else (false)) else (false)) else (false)) else (false)) else (false)) else (false)) else (false)
theorem cisameFrame (t : World) (af : Value) (a : PFrame) (ax : R_87 t af a) (ah : Value) (b : PFrame) (ay : R_87 t ah b)  : Fn Try.prog 137 #[af, ah] t (fun v ai => Keep t ai ∧ O_4 ai t.heap.size v (i_sameFrame a b)) := by
 obtain ⟨B, C, D, E, F, G, H, I, J, K, L, M, rfl, az, a0, a1, a2, a3, a4, a5, a6, a7, a8, a9, aA⟩ := ax
 obtain ⟨N, O, P, Q, R, S, T, V, W, X, Y, Z, rfl, aB, aC, aD, aE, aF, aG, aH, aI, aJ, aK, aL, aM⟩ := ay
 refine fn_ofS (n := 80) [(va (L_87 a B C D E F G H I J K L M)), (va (L_87 b N O P Q R S T V W X Y Z))] Try.func137 rfl rfl ?_
 refine sr ?_
 refine bx (L_87 a B C D E F G H I J K L M) wN ?_
 intro m aZ ba bb aN aO
 refine bx (L_87 b N O P Q R S T V W X Y Z) wN ?_
 intro o aP bc bd aj r
 have q := ((Ch.base t).extk aN).extk aj
 refine aw (vb false) ?_
 refine nx ?_
 refine pu (vp m 0) wN ?_
 have s := (aO.kp aj)
 refine ld (vi a.Kind) wN isAgg_3 s ?_
 refine pu (vp o 0) wN ?_
 refine ld (vi b.Kind) wN isAgg_3 r ?_
 refine pu (vb (decide (a.Kind = b.Kind))) wN ?_
 refine mw (vb (decide (a.Kind = b.Kind))) ?_
 rcases bf (decide (a.Kind = b.Kind)) with d | d
 ·have be := dF d
  iterate 5 refine sk d ?_
  refine pf (vb false) wN d ?_
  refine mw (vb false) ?_
  iterate 5 refine sk (Eq.refl false) ?_
  refine pf (vb false) wN (Eq.refl false) ?_
  refine mw (vb false) ?_
  iterate 5 refine sk (Eq.refl false) ?_
  refine pf (vb false) wN (Eq.refl false) ?_
  refine mw (vb false) ?_
  iterate 5 refine sk (Eq.refl false) ?_
  refine pf (vb false) wN (Eq.refl false) ?_
  refine mw (vb false) ?_
  iterate 5 refine sk (Eq.refl false) ?_
  refine pf (vb false) wN (Eq.refl false) ?_
  refine mw (vb false) ?_
  iterate 5 refine sk (Eq.refl false) ?_
  refine pf (vb false) wN (Eq.refl false) ?_
  refine mw (vb false) ?_
  iterate 5 refine sk (Eq.refl false) ?_
  refine pf (vb false) wN (Eq.refl false) ?_
  refine mw (vb false) ?_
  iterate 5 refine sk (Eq.refl false) ?_
  refine pf (vb false) wN (Eq.refl false) ?_
  refine mw (vb false) ?_
  iterate 5 refine sk (Eq.refl false) ?_
  refine pf (vb false) wN (Eq.refl false) ?_
  refine mw (vb false) ?_
  iterate 5 refine sk (Eq.refl false) ?_
  refine pf (vb false) wN (Eq.refl false) ?_
  refine aw (vb false) ?_
  refine n3 ?_
  refine rt (vb false) ?_
  refine ⟨q.keep0, ?_⟩
  simp only [i_sameFrame, d, cond_true, cond_false]
  exact rfl
 have bg := dT d
 refine pu (vp m 1) (wS d) ?_
 refine ld (vi a.Id) (wS d) isAgg_3 s ?_
 refine pu (vp o 1) (wS d) ?_
 refine ld (vi b.Id) (wS d) isAgg_3 r ?_
 refine pu (vb (decide (a.Id = b.Id))) (wS d) ?_
 refine pk (vb (decide (a.Id = b.Id))) wN d ?_
 refine mw (vb (decide (a.Id = b.Id))) ?_
 rcases bf (decide (a.Id = b.Id)) with e | e
 ·have bh := dF e
  iterate 5 refine sk e ?_
  refine pf (vb false) wN e ?_
  refine mw (vb false) ?_
  iterate 5 refine sk (Eq.refl false) ?_
  refine pf (vb false) wN (Eq.refl false) ?_
  refine mw (vb false) ?_
  iterate 5 refine sk (Eq.refl false) ?_
  refine pf (vb false) wN (Eq.refl false) ?_
  refine mw (vb false) ?_
  iterate 5 refine sk (Eq.refl false) ?_
  refine pf (vb false) wN (Eq.refl false) ?_
  refine mw (vb false) ?_
  iterate 5 refine sk (Eq.refl false) ?_
  refine pf (vb false) wN (Eq.refl false) ?_
  refine mw (vb false) ?_
  iterate 5 refine sk (Eq.refl false) ?_
  refine pf (vb false) wN (Eq.refl false) ?_
  refine mw (vb false) ?_
  iterate 5 refine sk (Eq.refl false) ?_
  refine pf (vb false) wN (Eq.refl false) ?_
  refine mw (vb false) ?_
  iterate 5 refine sk (Eq.refl false) ?_
  refine pf (vb false) wN (Eq.refl false) ?_
  refine mw (vb false) ?_
  iterate 5 refine sk (Eq.refl false) ?_
  refine pf (vb false) wN (Eq.refl false) ?_
  refine aw (vb false) ?_
  refine n3 ?_
  refine rt (vb false) ?_
  refine ⟨q.keep0, ?_⟩
  simp only [i_sameFrame, d, e, cond_true, cond_false]
  exact rfl
 have bi := dT e
 refine pu (vp m 4) (wS e) ?_
 refine ld (vi a.Tick) (wS e) isAgg_3 s ?_
 refine pu (vp o 4) (wS e) ?_
 refine ld (vi b.Tick) (wS e) isAgg_3 r ?_
 refine pu (vb (decide (a.Tick = b.Tick))) (wS e) ?_
 refine pk (vb (decide (a.Tick = b.Tick))) wN e ?_
 refine mw (vb (decide (a.Tick = b.Tick))) ?_
 rcases bf (decide (a.Tick = b.Tick)) with f | f
 ·have bj := dF f
  iterate 5 refine sk f ?_
  refine pf (vb false) wN f ?_
  refine mw (vb false) ?_
  iterate 5 refine sk (Eq.refl false) ?_
  refine pf (vb false) wN (Eq.refl false) ?_
  refine mw (vb false) ?_
  iterate 5 refine sk (Eq.refl false) ?_
  refine pf (vb false) wN (Eq.refl false) ?_
  refine mw (vb false) ?_
  iterate 5 refine sk (Eq.refl false) ?_
  refine pf (vb false) wN (Eq.refl false) ?_
  refine mw (vb false) ?_
  iterate 5 refine sk (Eq.refl false) ?_
  refine pf (vb false) wN (Eq.refl false) ?_
  refine mw (vb false) ?_
  iterate 5 refine sk (Eq.refl false) ?_
  refine pf (vb false) wN (Eq.refl false) ?_
  refine mw (vb false) ?_
  iterate 5 refine sk (Eq.refl false) ?_
  refine pf (vb false) wN (Eq.refl false) ?_
  refine mw (vb false) ?_
  iterate 5 refine sk (Eq.refl false) ?_
  refine pf (vb false) wN (Eq.refl false) ?_
  refine aw (vb false) ?_
  refine n3 ?_
  refine rt (vb false) ?_
  refine ⟨q.keep0, ?_⟩
  simp only [i_sameFrame, d, e, f, cond_true, cond_false]
  exact rfl
 have bk := dT f
 refine pu (vp m 7) (wS f) ?_
 refine ld (vi a.Epoch) (wS f) isAgg_3 s ?_
 refine pu (vp o 7) (wS f) ?_
 refine ld (vi b.Epoch) (wS f) isAgg_3 r ?_
 refine pu (vb (decide (a.Epoch = b.Epoch))) (wS f) ?_
 refine pk (vb (decide (a.Epoch = b.Epoch))) wN f ?_
 refine mw (vb (decide (a.Epoch = b.Epoch))) ?_
 rcases bf (decide (a.Epoch = b.Epoch)) with g | g
 ·have bl := dF g
  iterate 5 refine sk g ?_
  refine pf (vb false) wN g ?_
  refine mw (vb false) ?_
  iterate 5 refine sk (Eq.refl false) ?_
  refine pf (vb false) wN (Eq.refl false) ?_
  refine mw (vb false) ?_
  iterate 5 refine sk (Eq.refl false) ?_
  refine pf (vb false) wN (Eq.refl false) ?_
  refine mw (vb false) ?_
  iterate 5 refine sk (Eq.refl false) ?_
  refine pf (vb false) wN (Eq.refl false) ?_
  refine mw (vb false) ?_
  iterate 5 refine sk (Eq.refl false) ?_
  refine pf (vb false) wN (Eq.refl false) ?_
  refine mw (vb false) ?_
  iterate 5 refine sk (Eq.refl false) ?_
  refine pf (vb false) wN (Eq.refl false) ?_
  refine mw (vb false) ?_
  iterate 5 refine sk (Eq.refl false) ?_
  refine pf (vb false) wN (Eq.refl false) ?_
  refine aw (vb false) ?_
  refine n3 ?_
  refine rt (vb false) ?_
  refine ⟨q.keep0, ?_⟩
  simp only [i_sameFrame, d, e, f, g, cond_true, cond_false]
  exact rfl
 have bm := dT g
 refine pu (vp m 8) (wS g) ?_
 refine ld (vi a.Seq) (wS g) isAgg_3 s ?_
 refine pu (vp o 8) (wS g) ?_
 refine ld (vi b.Seq) (wS g) isAgg_3 r ?_
 refine pu (vb (decide (a.Seq = b.Seq))) (wS g) ?_
 refine pk (vb (decide (a.Seq = b.Seq))) wN g ?_
 refine mw (vb (decide (a.Seq = b.Seq))) ?_
 rcases bf (decide (a.Seq = b.Seq)) with h | h
 ·have bn := dF h
  iterate 5 refine sk h ?_
  refine pf (vb false) wN h ?_
  refine mw (vb false) ?_
  iterate 5 refine sk (Eq.refl false) ?_
  refine pf (vb false) wN (Eq.refl false) ?_
  refine mw (vb false) ?_
  iterate 5 refine sk (Eq.refl false) ?_
  refine pf (vb false) wN (Eq.refl false) ?_
  refine mw (vb false) ?_
  iterate 5 refine sk (Eq.refl false) ?_
  refine pf (vb false) wN (Eq.refl false) ?_
  refine mw (vb false) ?_
  iterate 5 refine sk (Eq.refl false) ?_
  refine pf (vb false) wN (Eq.refl false) ?_
  refine mw (vb false) ?_
  iterate 5 refine sk (Eq.refl false) ?_
  refine pf (vb false) wN (Eq.refl false) ?_
  refine aw (vb false) ?_
  refine n3 ?_
  refine rt (vb false) ?_
  refine ⟨q.keep0, ?_⟩
  simp only [i_sameFrame, d, e, f, g, h, cond_true, cond_false]
  exact rfl
 have bo := dT h
 refine pu (vp m 2) (wS h) ?_
 refine ld (vs B a.Cn.length C) (wS h) isAgg_22 s ?_
 refine pu (vp o 2) (wS h) ?_
 refine ld (vs N b.Cn.length O) (wS h) isAgg_22 r ?_
 refine cl (wS h) (cbEqual aP _ a.Cn (mR_22 (az.from0 q) a0) _ b.Cn (mR_22 (aB.from0 q) aC)) ?_
 rintro _ aQ ⟨aa, rfl⟩
 have u := q.extk aa
 refine pk (vb (b_Equal a.Cn b.Cn)) wN h ?_
 refine mw (vb (b_Equal a.Cn b.Cn)) ?_
 rcases bf (b_Equal a.Cn b.Cn) with i | i
 ·iterate 5 refine sk i ?_
  refine pf (vb false) wN i ?_
  refine mw (vb false) ?_
  iterate 5 refine sk (Eq.refl false) ?_
  refine pf (vb false) wN (Eq.refl false) ?_
  refine mw (vb false) ?_
  iterate 5 refine sk (Eq.refl false) ?_
  refine pf (vb false) wN (Eq.refl false) ?_
  refine mw (vb false) ?_
  iterate 5 refine sk (Eq.refl false) ?_
  refine pf (vb false) wN (Eq.refl false) ?_
  refine mw (vb false) ?_
  iterate 5 refine sk (Eq.refl false) ?_
  refine pf (vb false) wN (Eq.refl false) ?_
  refine aw (vb false) ?_
  refine n3 ?_
  refine rt (vb false) ?_
  refine ⟨u.keep0, ?_⟩
  simp only [i_sameFrame, d, e, f, g, h, i, cond_true, cond_false]
  exact rfl
 refine pu (vp m 3) (wS i) ?_
 have ak := (s.kp aa)
 refine ld (vs D a.Sn.length E) (wS i) isAgg_22 ak ?_
 refine pu (vp o 3) (wS i) ?_
 have am := (r.kp aa)
 refine ld (vs P b.Sn.length Q) (wS i) isAgg_22 am ?_
 refine cl (wS i) (cbEqual aQ _ a.Sn (mR_22 (a1.from0 u) a2) _ b.Sn (mR_22 (aD.from0 u) aE)) ?_
 rintro _ aR ⟨ab, rfl⟩
 have w := u.extk ab
 refine pk (vb (b_Equal a.Sn b.Sn)) wN i ?_
 refine mw (vb (b_Equal a.Sn b.Sn)) ?_
 rcases bf (b_Equal a.Sn b.Sn) with j | j
 ·iterate 5 refine sk j ?_
  refine pf (vb false) wN j ?_
  refine mw (vb false) ?_
  iterate 5 refine sk (Eq.refl false) ?_
  refine pf (vb false) wN (Eq.refl false) ?_
  refine mw (vb false) ?_
  iterate 5 refine sk (Eq.refl false) ?_
  refine pf (vb false) wN (Eq.refl false) ?_
  refine mw (vb false) ?_
  iterate 5 refine sk (Eq.refl false) ?_
  refine pf (vb false) wN (Eq.refl false) ?_
  refine aw (vb false) ?_
  refine n3 ?_
  refine rt (vb false) ?_
  refine ⟨w.keep0, ?_⟩
  simp only [i_sameFrame, d, e, f, g, h, i, j, cond_true, cond_false]
  exact rfl
 refine pu (vp m 5) (wS j) ?_
 have an := (ak.kp ab)
 refine ld (vs F a.Cookie.length G) (wS j) isAgg_22 an ?_
 refine pu (vp o 5) (wS j) ?_
 have ao := (am.kp ab)
 refine ld (vs R b.Cookie.length S) (wS j) isAgg_22 ao ?_
 refine cl (wS j) (cbEqual aR _ a.Cookie (mR_22 (a3.from0 w) a4) _ b.Cookie (mR_22 (aF.from0 w) aG)) ?_
 rintro _ aS ⟨ac, rfl⟩
 have x := w.extk ac
 refine pk (vb (b_Equal a.Cookie b.Cookie)) wN j ?_
 refine mw (vb (b_Equal a.Cookie b.Cookie)) ?_
 rcases bf (b_Equal a.Cookie b.Cookie) with k | k
 ·iterate 5 refine sk k ?_
  refine pf (vb false) wN k ?_
  refine mw (vb false) ?_
  iterate 5 refine sk (Eq.refl false) ?_
  refine pf (vb false) wN (Eq.refl false) ?_
  refine mw (vb false) ?_
  iterate 5 refine sk (Eq.refl false) ?_
  refine pf (vb false) wN (Eq.refl false) ?_
  refine aw (vb false) ?_
  refine n3 ?_
  refine rt (vb false) ?_
  refine ⟨x.keep0, ?_⟩
  simp only [i_sameFrame, d, e, f, g, h, i, j, k, cond_true, cond_false]
  exact rfl
 refine pu (vp m 6) (wS k) ?_
 have ap := (an.kp ac)
 refine ld (vs H a.Proof.length I) (wS k) isAgg_22 ap ?_
 refine pu (vp o 6) (wS k) ?_
 have aq := (ao.kp ac)
 refine ld (vs T b.Proof.length V) (wS k) isAgg_22 aq ?_
 refine cl (wS k) (cbEqual aS _ a.Proof (mR_22 (a5.from0 x) a6) _ b.Proof (mR_22 (aH.from0 x) aI)) ?_
 rintro _ aT ⟨ad, rfl⟩
 have y := x.extk ad
 refine pk (vb (b_Equal a.Proof b.Proof)) wN k ?_
 refine mw (vb (b_Equal a.Proof b.Proof)) ?_
 rcases bf (b_Equal a.Proof b.Proof) with l | l
 ·iterate 5 refine sk l ?_
  refine pf (vb false) wN l ?_
  refine mw (vb false) ?_
  iterate 5 refine sk (Eq.refl false) ?_
  refine pf (vb false) wN (Eq.refl false) ?_
  refine aw (vb false) ?_
  refine n3 ?_
  refine rt (vb false) ?_
  refine ⟨y.keep0, ?_⟩
  simp only [i_sameFrame, d, e, f, g, h, i, j, k, l, cond_true, cond_false]
  exact rfl
 refine pu (vp m 9) (wS l) ?_
 have au := (ap.kp ad)
 refine ld (vs J a.Body.length K) (wS l) isAgg_22 au ?_
 refine pu (vp o 9) (wS l) ?_
 have av := (aq.kp ad)
 refine ld (vs W b.Body.length X) (wS l) isAgg_22 av ?_
 refine cl (wS l) (cbEqual aT _ a.Body (mR_22 (a7.from0 y) a8) _ b.Body (mR_22 (aJ.from0 y) aK)) ?_
 rintro _ aU ⟨ae, rfl⟩
 have A := y.extk ae
 refine pk (vb (b_Equal a.Body b.Body)) wN l ?_
 refine mw (vb (b_Equal a.Body b.Body)) ?_
 rcases bf (b_Equal a.Body b.Body) with p | p
 ·iterate 5 refine sk p ?_
  refine pf (vb false) wN p ?_
  refine aw (vb false) ?_
  refine n3 ?_
  refine rt (vb false) ?_
  refine ⟨A.keep0, ?_⟩
  simp only [i_sameFrame, d, e, f, g, h, i, j, k, l, p, cond_true, cond_false]
  exact rfl
 refine pu (vp m 10) (wS p) ?_
 have aV := (au.kp ae)
 refine ld (vs L a.Tag.length M) (wS p) isAgg_22 aV ?_
 refine pu (vp o 10) (wS p) ?_
 have aW := (av.kp ae)
 refine ld (vs Y b.Tag.length Z) (wS p) isAgg_22 aW ?_
 refine cl (wS p) (cbEqual aU _ a.Tag (mR_22 (a9.from0 A) aA) _ b.Tag (mR_22 (aL.from0 A) aM)) ?_
 rintro _ bp ⟨aX, rfl⟩
 have aY := A.extk aX
 refine pk (vb (b_Equal a.Tag b.Tag)) wN p ?_
 refine aw (vb (b_Equal a.Tag b.Tag)) ?_
 refine n3 ?_
 refine rt (vb (b_Equal a.Tag b.Tag)) ?_
 refine ⟨aY.keep0, ?_⟩
 simp only [i_sameFrame, d, e, f, g, h, i, j, k, l, p, cond_true, cond_false]
 exact rfl

theorem slTy_88 : SlTy Try.prog 88 3 1 8 (vi 0) := slTy Try.underlying88 (by kernel_rfl) rfl rfl
def R_88 (w : World) (v : Value) (x : (List Int)) : Prop := ∃ (a : Option Addr) (b : Nat), v = .slice a x.length b ∧ Rd w 1 (.slice a x.length b) x.length (x.map iV) ∧ x.length ≤ 1073741824
theorem cisameInts (d : World) (r : Value) (a : List Int) (w : R_88 d r a) (s : Value) (b : List Int) (y : R_88 d s b)  : Fn Try.prog 174 #[r, s] d (fun v j => Keep d j ∧ O_4 j d.heap.size v (eqI a b)) := by
 obtain ⟨f, g, rfl, p, F⟩ := w
 obtain ⟨h, i, rfl, q, G⟩ := y
 refine fn_ofS (n := 26) [(vs f a.length g), (vs h b.length i)] Try.func174 rfl rfl ?_
 refine sr ?_
 refine aw (vb false) ?_
 refine n4 ?_
 refine mw (vs f a.length g) ?_
 refine ln wN slTy_88 p ?_
 refine mw (vs h b.length i) ?_
 refine ln wN slTy_88 q ?_
 refine pu (vb (!(decide ((a.length : Int) = (b.length : Int))))) wN ?_
 refine n2 ?_
 rcases bf (decide ((a.length : Int) = (b.length : Int))) with l | l
 ·have H := dF l
  refine ct (cA not l) ?_
  refine sr ?_
  refine aw (vb false) ?_
  refine n1 ?_
  refine rt (vb false) ?_
  refine ⟨Ch.refl _ _, ?_⟩
  have A : eqI a b = false := by first | exact eqI_len (by assumption) | exact eqI_el (by assumption) | exact eqI_all (by assumption) (by omega) (by omega)
  rw [A]
  exact rfl
 have I := dT l
 refine cf (cA not l) ?_
 refine y2 ?_
 refine mw (vs f a.length g) ?_
 refine ln wN slTy_88 p ?_
 refine mw (vi 0) ?_
 refine wl_nil <| wq_then <| wc_block ?_
 refine wc_loopP [(1, (vs h b.length i)), (12, (vs f a.length g)), (13, (vi (a.length : Int))), (14, (vi ((0 : Nat) : Int)))] ⟨rfl, rfl, rfl, (cA (Value.int .i64) (show (0 : Int) = ((0 : Nat) : Int) by omega)), trivial⟩ (fun e' j => ∃ (k : Nat) (t : Env), e' = pt t [(1, (vs h b.length i)), (12, (vs f a.length g)), (13, (vi (a.length : Int))), (14, (vi ((k : Nat) : Int)))] ∧ Ch (fun k => d.heap.size ≤ k) d j ∧ Ch (fun k => d.heap.size ≤ k) d j ∧ k ≤ a.length ∧ a.take k = b.take k) (fun e' _ => a.length - ((intOf (e' 14))).toNat) ?_ ?_
 ·exact fun u => ⟨0, u, rfl, (Ch.base d), (Ch.refl (fun k => d.heap.size ≤ k) d), (by omega), (by first | rfl | exact eqI_next (by assumption) (by omega) (by omega) (by assumption))⟩
 ·rintro _ B ⟨k, t, rfl, e, C, J, K⟩
  refine sr ?_
  refine pu (vb (decide (((k : Nat) : Int) < (a.length : Int)))) wN ?_
  refine wl_nil <| wq_then <| wc_seq ?_
  rcases bf (decide (((k : Nat) : Int) < (a.length : Int))) with m | m
  ·have L := dF m
   refine cf m ?_
   refine wc_exit <| wq_then_exit <| wq_then_exit <| wq_blk_exit <| wq_then <| sr ?_
   refine aw (vb true) ?_
   refine n3 ?_
   refine rt (vb true) ?_
   refine ⟨e.keep0, ?_⟩
   have D : eqI a b = true := by first | exact eqI_len (by assumption) | exact eqI_el (by assumption) | exact eqI_all (by assumption) (by omega) (by omega)
   rw [D]
   exact rfl
  have M := dT m
  refine ct m ?_
  refine wc_skip <| wq_then <| wc_seq <| wc_block <| sr ?_
  refine mw (vi ((k : Nat) : Int)) ?_
  refine ix wN ((k : Nat) : Int) slTy_88 (p.from0 e) ?_
  refine ei (x := a) k wN isAgg_3 (p.from0 e) ?_
  refine aw (vi ((k : Nat) : Int)) ?_
  refine aw (vi (a.getD k 0)) ?_
  refine nx ?_
  refine mw (vi (a.getD k 0)) ?_
  refine mw (vs h b.length i) ?_
  refine mw (vi ((k : Nat) : Int)) ?_
  refine ix wN ((k : Nat) : Int) slTy_88 (q.from0 e) ?_
  refine ei (x := b) k wN isAgg_3 (q.from0 e) ?_
  refine pu (vb (!(decide ((a.getD k 0) = (b.getD k 0))))) wN ?_
  refine n2 ?_
  rcases bf (decide ((a.getD k 0) = (b.getD k 0))) with o | o
  ·have N := dF o
   refine ct (cA not o) ?_
   refine sr ?_
   refine aw (vb false) ?_
   refine wl_nil <| wq_then <| wc_ret <| wq_blk_ret <| wq_then_ret <| wq_then_ret <| wq_blk_ret <| wq_then_ret ?_
   refine rt (vb false) ?_
   refine ⟨e.keep0, ?_⟩
   have E : eqI a b = false := by first | exact eqI_len (by assumption) | exact eqI_el (by assumption) | exact eqI_all (by assumption) (by omega) (by omega)
   rw [E]
   exact rfl
  have O := dT o
  refine cf (cA not o) ?_
  refine wc_skip <| wq_blk_normal <| wq_then <| wc_region ?_
  refine ar (((k : Nat) : Int) + 1) wN ?_
  refine mw (vi (((k : Nat) : Int) + 1)) ?_
  refine wl_nil ?_
  refine wq_loopP (w0 := B) [(1, (vs h b.length i)), (12, (vs f a.length g)), (13, (vi (a.length : Int))), (14, (vi (((k + 1) : Nat) : Int)))] ?_ ?_ ?_
  · exact ⟨rfl, rfl, rfl, (cA (Value.int .i64) (show ((((k : Nat) : Int) + 1) : Int) = (((k + 1) : Nat) : Int) by omega)), trivial⟩
  · exact fun u => ⟨(k + 1), u, rfl, e, ((Ch.refl (fun k => d.heap.size ≤ k) d).ext C (fun k hk => hk)), (by omega), (by first | rfl | exact eqI_next (by assumption) (by omega) (by omega) (by assumption))⟩
  · show a.length - ((((k + 1) : Nat) : Int)).toNat < a.length - (((k : Nat) : Int)).toNat; omega

abbrev L_92 (x : PEp) (a : Option Addr) (b : Nat) (d : Option Addr) (e : Nat) : List Value := [vi x.N, vs a x.Key.length b, vi x.Seq, vi x.Win.Top, vs d x.Win.Bits.length e]
theorem isAgg_88 : ∀ w, (isAgg 88).run Try.prog w = .ok false w := fun w => by kernel_rfl
def R_92 (w : World) (v : Value) (x : (PEp)) : Prop := ∃ (a : Option Addr) (b : Nat) (d : Option Addr) (e : Nat), v = .agg #[.int .i64 x.N, .slice a x.Key.length b, .int .i64 x.Seq, .int .i64 x.Win.Top, .slice d x.Win.Bits.length e] ∧ Rd w 1 (.slice a x.Key.length b) x.Key.length (x.Key.map bV) ∧ x.Key.length ≤ 1073741824 ∧ Rd w 1 (.slice d x.Win.Bits.length e) x.Win.Bits.length (x.Win.Bits.map iV) ∧ x.Win.Bits.length ≤ 1073741824
theorem mR_88 {w : World} {x : List Int} {a : Option Addr} {b : Nat} (d : Rd w 1 (.slice a x.length b) x.length (x.map iV)) (e : x.length ≤ 1073741824) : R_88 w (vs a x.length b) x := ⟨_, _, rfl, d, e⟩
def i_sameEp (a : PEp) (b : PEp) : (Bool) := bif (decide (a.N = b.N)) then (bif (b_Equal a.Key b.Key) then (bif (decide (a.Seq = b.Seq)) then (bif (decide (a.Win.Top = b.Win.Top)) then ((eqI a.Win.Bits b.Win.Bits)) else (false)) else (false)) else (false)) else (false)
theorem cisameEp (j : World) (C : Value) (a : PEp) (G : R_92 j C a) (D : Value) (b : PEp) (H : R_92 j D b)  : Fn Try.prog 159 #[C, D] j (fun v E => Keep j E ∧ O_4 E j.heap.size v (i_sameEp a b)) := by
 obtain ⟨m, o, p, q, rfl, I, J, K, L⟩ := G
 obtain ⟨r, s, t, u, rfl, M, O, P, Q⟩ := H
 refine fn_ofS (n := 42) [(va (L_92 a m o p q)), (va (L_92 b r s t u))] Try.func159 rfl rfl ?_
 refine sr ?_
 refine bx (L_92 a m o p q) wN ?_
 intro h Y Z aa R S
 refine bx (L_92 b r s t u) wN ?_
 intro i T ab ac F w
 have l := ((Ch.base j).extk R).extk F
 refine aw (vb false) ?_
 refine nx ?_
 refine pu (vp h 0) wN ?_
 have x := (S.kp F)
 refine ld (vi a.N) wN isAgg_3 x ?_
 refine pu (vp i 0) wN ?_
 refine ld (vi b.N) wN isAgg_3 w ?_
 refine pu (vb (decide (a.N = b.N))) wN ?_
 refine mw (vb (decide (a.N = b.N))) ?_
 rcases bf (decide (a.N = b.N)) with d | d
 ·have ad := dF d
  iterate 5 refine sk d ?_
  refine pf (vb false) wN d ?_
  refine mw (vb false) ?_
  iterate 5 refine sk (Eq.refl false) ?_
  refine pf (vb false) wN (Eq.refl false) ?_
  refine mw (vb false) ?_
  iterate 7 refine sk (Eq.refl false) ?_
  refine pf (vb false) wN (Eq.refl false) ?_
  refine mw (vb false) ?_
  iterate 7 refine sk (Eq.refl false) ?_
  refine pf (vb false) wN (Eq.refl false) ?_
  refine aw (vb false) ?_
  refine n3 ?_
  refine rt (vb false) ?_
  refine ⟨l.keep0, ?_⟩
  simp only [i_sameEp, d, cond_true, cond_false]
  exact rfl
 have ae := dT d
 refine pu (vp h 1) (wS d) ?_
 refine ld (vs m a.Key.length o) (wS d) isAgg_22 x ?_
 refine pu (vp i 1) (wS d) ?_
 refine ld (vs r b.Key.length s) (wS d) isAgg_22 w ?_
 refine cl (wS d) (cbEqual T _ a.Key (mR_22 (I.from0 l) J) _ b.Key (mR_22 (M.from0 l) O)) ?_
 rintro _ V ⟨y, rfl⟩
 have k := l.extk y
 refine pk (vb (b_Equal a.Key b.Key)) wN d ?_
 refine mw (vb (b_Equal a.Key b.Key)) ?_
 rcases bf (b_Equal a.Key b.Key) with g | g
 ·iterate 5 refine sk g ?_
  refine pf (vb false) wN g ?_
  refine mw (vb false) ?_
  iterate 7 refine sk (Eq.refl false) ?_
  refine pf (vb false) wN (Eq.refl false) ?_
  refine mw (vb false) ?_
  iterate 7 refine sk (Eq.refl false) ?_
  refine pf (vb false) wN (Eq.refl false) ?_
  refine aw (vb false) ?_
  refine n3 ?_
  refine rt (vb false) ?_
  refine ⟨k.keep0, ?_⟩
  simp only [i_sameEp, d, g, cond_true, cond_false]
  exact rfl
 refine pu (vp h 2) (wS g) ?_
 have A := (x.kp y)
 refine ld (vi a.Seq) (wS g) isAgg_3 A ?_
 refine pu (vp i 2) (wS g) ?_
 have B := (w.kp y)
 refine ld (vi b.Seq) (wS g) isAgg_3 B ?_
 refine pu (vb (decide (a.Seq = b.Seq))) (wS g) ?_
 refine pk (vb (decide (a.Seq = b.Seq))) wN g ?_
 refine mw (vb (decide (a.Seq = b.Seq))) ?_
 rcases bf (decide (a.Seq = b.Seq)) with e | e
 ·have af := dF e
  iterate 7 refine sk e ?_
  refine pf (vb false) wN e ?_
  refine mw (vb false) ?_
  iterate 7 refine sk (Eq.refl false) ?_
  refine pf (vb false) wN (Eq.refl false) ?_
  refine aw (vb false) ?_
  refine n3 ?_
  refine rt (vb false) ?_
  refine ⟨k.keep0, ?_⟩
  simp only [i_sameEp, d, g, e, cond_true, cond_false]
  exact rfl
 have ah := dT e
 refine pu (vp h 3) (wS e) ?_
 refine pu (vp h 3) (wS e) ?_
 refine ld (vi a.Win.Top) (wS e) isAgg_3 A ?_
 refine pu (vp i 3) (wS e) ?_
 refine pu (vp i 3) (wS e) ?_
 refine ld (vi b.Win.Top) (wS e) isAgg_3 B ?_
 refine pu (vb (decide (a.Win.Top = b.Win.Top))) (wS e) ?_
 refine pk (vb (decide (a.Win.Top = b.Win.Top))) wN e ?_
 refine mw (vb (decide (a.Win.Top = b.Win.Top))) ?_
 rcases bf (decide (a.Win.Top = b.Win.Top)) with f | f
 ·have ai := dF f
  iterate 7 refine sk f ?_
  refine pf (vb false) wN f ?_
  refine aw (vb false) ?_
  refine n3 ?_
  refine rt (vb false) ?_
  refine ⟨k.keep0, ?_⟩
  simp only [i_sameEp, d, g, e, f, cond_true, cond_false]
  exact rfl
 have aj := dT f
 refine pu (vp h 3) (wS f) ?_
 refine pu (vp h 4) (wS f) ?_
 refine ld (vs p a.Win.Bits.length q) (wS f) isAgg_88 A ?_
 refine pu (vp i 3) (wS f) ?_
 refine pu (vp i 4) (wS f) ?_
 refine ld (vs t b.Win.Bits.length u) (wS f) isAgg_88 B ?_
 refine cl (wS f) (cisameInts V _ a.Win.Bits (mR_88 (K.from0 k) L) _ b.Win.Bits (mR_88 (P.from0 k) Q)) ?_
 rintro _ ak ⟨W, rfl⟩
 have X := k.extk W
 refine pk (vb (eqI a.Win.Bits b.Win.Bits)) wN f ?_
 refine aw (vb (eqI a.Win.Bits b.Win.Bits)) ?_
 refine n3 ?_
 refine rt (vb (eqI a.Win.Bits b.Win.Bits)) ?_
 refine ⟨X.keep0, ?_⟩
 simp only [i_sameEp, d, g, e, f, cond_true, cond_false]
 exact rfl

abbrev L_94 (x : PChan) (a : Option Addr) (b : Nat) (d : Option Addr) (e : Nat) (f : Option Addr) (g : Nat) (h : Option Addr) (i : Nat) (j : Option Addr) (k : Nat) (l : Option Addr) (m : Nat) : List Value := [vi x.Role, vs a x.Sn.length b, vi x.Cur.N, vs d x.Cur.Key.length e, vi x.Cur.Seq, vi x.Cur.Win.Top, vs f x.Cur.Win.Bits.length g, vi x.Old.N, vs h x.Old.Key.length i, vi x.Old.Seq, vi x.Old.Win.Top, vs j x.Old.Win.Bits.length k, vb x.HasOld, vi x.Until, vs l x.Next.length m]
theorem isAgg_92 : ∀ w, (isAgg 92).run Try.prog w = .ok true w := fun w => by kernel_rfl
theorem sizeOf_92 : ∀ w, (sizeOf 92).run Try.prog w = .ok 5 w := fun w => by kernel_rfl
abbrev Z_92 : List Value := [(vi 0), (vs none 0 0), (vi 0), (vi 0), (vs none 0 0)]
theorem isAgg_4 : ∀ w, (isAgg 4).run Try.prog w = .ok false w := fun w => by kernel_rfl
def R_94 (w : World) (v : Value) (x : (PChan)) : Prop := ∃ (a : Option Addr) (b : Nat) (d : Option Addr) (e : Nat) (f : Option Addr) (g : Nat) (h : Option Addr) (i : Nat) (j : Option Addr) (k : Nat) (l : Option Addr) (m : Nat), v = .agg #[.int .i64 x.Role, .slice a x.Sn.length b, .int .i64 x.Cur.N, .slice d x.Cur.Key.length e, .int .i64 x.Cur.Seq, .int .i64 x.Cur.Win.Top, .slice f x.Cur.Win.Bits.length g, .int .i64 x.Old.N, .slice h x.Old.Key.length i, .int .i64 x.Old.Seq, .int .i64 x.Old.Win.Top, .slice j x.Old.Win.Bits.length k, .bool x.HasOld, .int .i64 x.Until, .slice l x.Next.length m] ∧ Rd w 1 (.slice a x.Sn.length b) x.Sn.length (x.Sn.map bV) ∧ x.Sn.length ≤ 1073741824 ∧ Rd w 1 (.slice d x.Cur.Key.length e) x.Cur.Key.length (x.Cur.Key.map bV) ∧ x.Cur.Key.length ≤ 1073741824 ∧ Rd w 1 (.slice f x.Cur.Win.Bits.length g) x.Cur.Win.Bits.length (x.Cur.Win.Bits.map iV) ∧ x.Cur.Win.Bits.length ≤ 1073741824 ∧ Rd w 1 (.slice h x.Old.Key.length i) x.Old.Key.length (x.Old.Key.map bV) ∧ x.Old.Key.length ≤ 1073741824 ∧ Rd w 1 (.slice j x.Old.Win.Bits.length k) x.Old.Win.Bits.length (x.Old.Win.Bits.map iV) ∧ x.Old.Win.Bits.length ≤ 1073741824 ∧ Rd w 1 (.slice l x.Next.length m) x.Next.length (x.Next.map bV) ∧ x.Next.length ≤ 1073741824
theorem mR_92 {w : World} {x : PEp} {a : Option Addr} {b : Nat} {d : Option Addr} {e : Nat} (f : Rd w 1 (.slice a x.Key.length b) x.Key.length (x.Key.map bV)) (g : x.Key.length ≤ 1073741824) (h : Rd w 1 (.slice d x.Win.Bits.length e) x.Win.Bits.length (x.Win.Bits.map iV)) (i : x.Win.Bits.length ≤ 1073741824) : R_92 w (va (L_92 x a b d e)) x := ⟨_, _, _, _, rfl, f, g, h, i⟩
def i_isZeroChan (a : PChan) : (Bool) := bif (decide (a.Role = 0)) then (bif (decide ((a.Sn.length : Int) = 0)) then (bif (i_sameEp a.Cur { N := 0, Key := [], Seq := 0, Win := { Top := 0, Bits := [] : PWin } : PEp }) then (bif (i_sameEp a.Old { N := 0, Key := [], Seq := 0, Win := { Top := 0, Bits := [] : PWin } : PEp }) then (bif a.HasOld then (false) else (bif (decide (a.Until = 0)) then (decide ((a.Next.length : Int) = 0)) else (false))) else (false)) else (false)) else (false)) else (false)
theorem ciisZeroChan (k : World) (E : Value) (a : PChan) (L : R_94 k E a)  : Fn Try.prog 138 #[E] k (fun v F => Keep k F ∧ O_4 F k.heap.size v (i_isZeroChan a)) := by
 obtain ⟨p, q, r, s, t, u, w, x, y, A, B, C, rfl, M, Z, O, P, Q, R, S, T, V, W, X, aa⟩ := L
 refine fn_ofS (n := 40) [(va (L_94 a p q r s t u w x y A B C))] Try.func138 rfl rfl ?_
 refine sr ?_
 refine bx (L_94 a p q r s t u w x y A B C) wN ?_
 intro i G ab ac Y m
 have j := (Ch.base k).extk Y
 refine aw (vb false) ?_
 refine nx ?_
 refine pu (vp i 0) wN ?_
 refine ld (vi a.Role) wN isAgg_3 m ?_
 refine pu (vb (decide (a.Role = 0))) wN ?_
 refine mw (vb (decide (a.Role = 0))) ?_
 rcases bf (decide (a.Role = 0)) with b | b
 ·have ad := dF b
  iterate 4 refine sk b ?_
  refine pf (vb false) wN b ?_
  refine mw (vb false) ?_
  iterate 4 refine sk (Eq.refl false) ?_
  refine pf (vb false) wN (Eq.refl false) ?_
  refine mw (vb false) ?_
  iterate 4 refine sk (Eq.refl false) ?_
  refine pf (vb false) wN (Eq.refl false) ?_
  refine mw (vb false) ?_
  iterate 3 refine sk (Eq.refl false) ?_
  refine pf (vb false) wN (Eq.refl false) ?_
  refine mw (vb false) ?_
  iterate 3 refine sk (Eq.refl false) ?_
  refine pf (vb false) wN (Eq.refl false) ?_
  refine mw (vb false) ?_
  iterate 4 refine sk (Eq.refl false) ?_
  refine pf (vb false) wN (Eq.refl false) ?_
  refine aw (vb false) ?_
  refine n3 ?_
  refine rt (vb false) ?_
  refine ⟨j.keep0, ?_⟩
  simp only [i_isZeroChan, b, cond_true, cond_false]
  exact rfl
 have ae := dT b
 refine pu (vp i 1) (wS b) ?_
 refine ld (vs p a.Sn.length q) (wS b) isAgg_22 m ?_
 refine ln (wS b) slTy_22 (M.from0 j) ?_
 refine pu (vb (decide ((a.Sn.length : Int) = 0))) (wS b) ?_
 refine pk (vb (decide ((a.Sn.length : Int) = 0))) wN b ?_
 refine mw (vb (decide ((a.Sn.length : Int) = 0))) ?_
 rcases bf (decide ((a.Sn.length : Int) = 0)) with d | d
 ·have af := dF d
  iterate 4 refine sk d ?_
  refine pf (vb false) wN d ?_
  refine mw (vb false) ?_
  iterate 4 refine sk (Eq.refl false) ?_
  refine pf (vb false) wN (Eq.refl false) ?_
  refine mw (vb false) ?_
  iterate 3 refine sk (Eq.refl false) ?_
  refine pf (vb false) wN (Eq.refl false) ?_
  refine mw (vb false) ?_
  iterate 3 refine sk (Eq.refl false) ?_
  refine pf (vb false) wN (Eq.refl false) ?_
  refine mw (vb false) ?_
  iterate 4 refine sk (Eq.refl false) ?_
  refine pf (vb false) wN (Eq.refl false) ?_
  refine aw (vb false) ?_
  refine n3 ?_
  refine rt (vb false) ?_
  refine ⟨j.keep0, ?_⟩
  simp only [i_isZeroChan, b, d, cond_true, cond_false]
  exact rfl
 have ah := dT d
 refine pu (vp i 2) (wS d) ?_
 refine lN (L_92 a.Cur r s t u) (wS d) isAgg_92 sizeOf_92 m ?_
 refine pu (va Z_92) (wS d) ?_
 refine cl (wS d) (cisameEp G _ a.Cur (mR_92 (O.from0 j) P (Q.from0 j) R) _ _ (show R_92 G (va Z_92) { N := 0, Key := [], Seq := 0, Win := { Top := 0, Bits := [] : PWin } : PEp } from ⟨_, _, _, _, rfl, (Rd.nil _ _), (by simp), (Rd.nil _ _), (by simp)⟩)) ?_
 rintro _ H ⟨I, rfl⟩
 have o := j.extk I
 refine pk (vb (i_sameEp a.Cur { N := 0, Key := [], Seq := 0, Win := { Top := 0, Bits := [] : PWin } : PEp })) wN d ?_
 refine mw (vb (i_sameEp a.Cur { N := 0, Key := [], Seq := 0, Win := { Top := 0, Bits := [] : PWin } : PEp })) ?_
 rcases bf (i_sameEp a.Cur { N := 0, Key := [], Seq := 0, Win := { Top := 0, Bits := [] : PWin } : PEp }) with e | e
 ·iterate 4 refine sk e ?_
  refine pf (vb false) wN e ?_
  refine mw (vb false) ?_
  iterate 3 refine sk (Eq.refl false) ?_
  refine pf (vb false) wN (Eq.refl false) ?_
  refine mw (vb false) ?_
  iterate 3 refine sk (Eq.refl false) ?_
  refine pf (vb false) wN (Eq.refl false) ?_
  refine mw (vb false) ?_
  iterate 4 refine sk (Eq.refl false) ?_
  refine pf (vb false) wN (Eq.refl false) ?_
  refine aw (vb false) ?_
  refine n3 ?_
  refine rt (vb false) ?_
  refine ⟨o.keep0, ?_⟩
  simp only [i_isZeroChan, b, d, e, cond_true, cond_false]
  exact rfl
 refine pu (vp i 7) (wS e) ?_
 have J := (m.kp I)
 refine lN (L_92 a.Old w x y A) (wS e) isAgg_92 sizeOf_92 J ?_
 refine pu (va Z_92) (wS e) ?_
 refine cl (wS e) (cisameEp H _ a.Old (mR_92 (S.from0 o) T (V.from0 o) W) _ _ (show R_92 H (va Z_92) { N := 0, Key := [], Seq := 0, Win := { Top := 0, Bits := [] : PWin } : PEp } from ⟨_, _, _, _, rfl, (Rd.nil _ _), (by simp), (Rd.nil _ _), (by simp)⟩)) ?_
 rintro _ ai ⟨K, rfl⟩
 have l := o.extk K
 refine pk (vb (i_sameEp a.Old { N := 0, Key := [], Seq := 0, Win := { Top := 0, Bits := [] : PWin } : PEp })) wN e ?_
 refine mw (vb (i_sameEp a.Old { N := 0, Key := [], Seq := 0, Win := { Top := 0, Bits := [] : PWin } : PEp })) ?_
 rcases bf (i_sameEp a.Old { N := 0, Key := [], Seq := 0, Win := { Top := 0, Bits := [] : PWin } : PEp }) with g | g
 ·iterate 3 refine sk g ?_
  refine pf (vb false) wN g ?_
  refine mw (vb false) ?_
  iterate 3 refine sk (Eq.refl false) ?_
  refine pf (vb false) wN (Eq.refl false) ?_
  refine mw (vb false) ?_
  iterate 4 refine sk (Eq.refl false) ?_
  refine pf (vb false) wN (Eq.refl false) ?_
  refine aw (vb false) ?_
  refine n3 ?_
  refine rt (vb false) ?_
  refine ⟨l.keep0, ?_⟩
  simp only [i_isZeroChan, b, d, e, g, cond_true, cond_false]
  exact rfl
 refine pu (vp i 12) (wS g) ?_
 have D := (J.kp K)
 refine ld (vb a.HasOld) (wS g) isAgg_4 D ?_
 refine pu (vb (!a.HasOld)) (wS g) ?_
 refine pk (vb (!a.HasOld)) wN g ?_
 refine mw (vb (!a.HasOld)) ?_
 rcases bt a.HasOld with h | h
 ·iterate 3 refine sk (cA not h) ?_
  refine pf (vb false) wN (cA not h) ?_
  refine mw (vb false) ?_
  iterate 4 refine sk (Eq.refl false) ?_
  refine pf (vb false) wN (Eq.refl false) ?_
  refine aw (vb false) ?_
  refine n3 ?_
  refine rt (vb false) ?_
  refine ⟨l.keep0, ?_⟩
  simp only [i_isZeroChan, b, d, e, g, h, cond_true, cond_false]
  exact rfl
 refine pu (vp i 13) (wS (cA not h)) ?_
 refine ld (vi a.Until) (wS (cA not h)) isAgg_3 D ?_
 refine pu (vb (decide (a.Until = 0))) (wS (cA not h)) ?_
 refine pk (vb (decide (a.Until = 0))) wN (cA not h) ?_
 refine mw (vb (decide (a.Until = 0))) ?_
 rcases bf (decide (a.Until = 0)) with f | f
 ·have aj := dF f
  iterate 4 refine sk f ?_
  refine pf (vb false) wN f ?_
  refine aw (vb false) ?_
  refine n3 ?_
  refine rt (vb false) ?_
  refine ⟨l.keep0, ?_⟩
  simp only [i_isZeroChan, b, d, e, g, h, f, cond_true, cond_false]
  exact rfl
 have ak := dT f
 refine pu (vp i 14) (wS f) ?_
 refine ld (vs B a.Next.length C) (wS f) isAgg_22 D ?_
 refine ln (wS f) slTy_22 (X.from0 l) ?_
 refine pu (vb (decide ((a.Next.length : Int) = 0))) (wS f) ?_
 refine pk (vb (decide ((a.Next.length : Int) = 0))) wN f ?_
 refine aw (vb (decide ((a.Next.length : Int) = 0))) ?_
 refine n3 ?_
 refine rt (vb (decide ((a.Next.length : Int) = 0))) ?_
 refine ⟨l.keep0, ?_⟩
 simp only [i_isZeroChan, b, d, e, g, h, f, cond_true, cond_false]
 exact rfl

def i_isNonce (a : List UInt8) : (Bool) := decide ((a.length : Int) = 12)
theorem ciisNonce (b : World) (d : Value) (a : List UInt8) (h : R_22 b d a)  : Fn Try.prog 108 #[d] b (fun v e => Keep b e ∧ O_4 e b.heap.size v (i_isNonce a)) := by
 obtain ⟨f, g, rfl, i, k⟩ := h
 refine fn_ofS (n := 6) [(vs f a.length g)] Try.func108 rfl rfl ?_
 refine sr ?_
 refine aw (vb false) ?_
 refine nx ?_
 refine mw (vs f a.length g) ?_
 refine ln wN slTy_22 i ?_
 refine pu (vb (decide ((a.length : Int) = 12))) wN ?_
 refine aw (vb (decide ((a.length : Int) = 12))) ?_
 refine n3 ?_
 refine rt (vb (decide ((a.length : Int) = 12))) ?_
 refine ⟨Ch.refl _ _, ?_⟩
 have j : i_isNonce a = decide ((a.length : Int) = 12) := by rfl
 rw [j]
 exact rfl

abbrev L_96 (x : PTimer)  : List Value := [vb x.On, vi x.Due, vi x.Wait, vi x.Tries]
theorem isAgg_96 : ∀ w, (isAgg 96).run Try.prog w = .ok true w := fun w => by kernel_rfl
theorem sizeOf_96 : ∀ w, (sizeOf 96).run Try.prog w = .ok 4 w := fun w => by kernel_rfl
abbrev Z_96 : List Value := [(vb false), (vi 0), (vi 0), (vi 0)]
theorem guardt_96 : Try.prog.eqGuardType Try.prog.depth 96 = false := by kernel_rfl
theorem aggeq_96 (a b : Bool) (d e : Int) (f g : Int) (h i : Int) (w : World) : (Op.equalIn 10000 96 (.agg #[.bool a, .int .i64 d, .int .i64 f, .int .i64 h]) (.agg #[.bool b, .int .i64 e, .int .i64 g, .int .i64 i])).run Try.prog w = .ok (((a == b) && (decide (d = e) && (decide (f = g) && decide (h = i))))) w := by
  rw [run_equalIn_struct w 9999 96 _ _ (by kernel_rfl) (by kernel_rfl)]
  simp [Program.fieldsOf, Op.eqFields, go_sem, Try.underlying3, Try.underlying4, Try.underlying96]
  by_cases h0 : a = b <;> by_cases h1 : d = e <;> by_cases h2 : f = g <;> by_cases h3 : h = i <;> simp [*]
def R_96 (w : World) (v : Value) (x : (PTimer)) : Prop := v = .agg #[.bool x.On, .int .i64 x.Due, .int .i64 x.Wait, .int .i64 x.Tries]
def i_TimerOk (a : PTimer) : (Bool) := bif a.On then (bif (decide (a.Wait = 1)) then (bif (i_within a.Due 0 1000008) then ((i_within a.Tries 1 5)) else (false)) else (bif (decide (a.Wait = 2)) then (bif (i_within a.Due 0 1000008) then ((i_within a.Tries 1 5)) else (false)) else (bif (decide (a.Wait = 4)) then (bif (i_within a.Due 0 1000008) then ((i_within a.Tries 1 5)) else (false)) else (bif (i_within a.Due 0 1000008) then (bif (decide (a.Wait = 8)) then ((i_within a.Tries 1 5)) else (false)) else (false))))) else (((a.On == false) && (decide (a.Due = 0) && (decide (a.Wait = 0) && decide (a.Tries = 0)))))
theorem ciTimerOk (p : World) (u : Value) (a : PTimer) (F : R_96 p u a)  : Fn Try.prog 139 #[u] p (fun v w => Keep p w ∧ O_4 w p.heap.size v (i_TimerOk a)) := by
 obtain rfl := F
 refine fn_ofS (n := 39) [(va (L_96 a))] Try.func139 rfl rfl ?_
 refine sr ?_
 refine bx (L_96 a) wN ?_
 intro g q T V G e
 have r := (Ch.base p).extk G
 refine aw (vb false) ?_
 refine n4 ?_
 refine pu (vp g 0) wN ?_
 refine ld (vb a.On) wN isAgg_4 e ?_
 refine pu (vb (!a.On)) wN ?_
 refine n2 ?_
 rcases bf a.On with h | h
 ·refine ct (cA not h) ?_
  refine sr ?_
  refine lN (L_96 a) wN isAgg_96 sizeOf_96 e ?_
  refine pu (va Z_96) wN ?_
  refine wl_aggeq (((a.On == false) && (decide (a.Due = 0) && (decide (a.Wait = 0) && decide (a.Tries = 0))))) wN rfl rfl rfl rfl rfl guardt_96 (aggeq_96 a.On false a.Due 0 a.Wait 0 a.Tries 0 q) ?_
  refine aw (vb ((a.On == false) && (decide (a.Due = 0) && (decide (a.Wait = 0) && decide (a.Tries = 0))))) ?_
  refine n1 ?_
  refine rt (vb ((a.On == false) && (decide (a.Due = 0) && (decide (a.Wait = 0) && decide (a.Tries = 0))))) ?_
  refine ⟨r.keep0, ?_⟩
  simp only [i_TimerOk, h, cond_true, cond_false]
  exact rfl
 refine cf (cA not h) ?_
 refine y1 ?_
 refine pu (vp g 2) wN ?_
 refine ld (vi a.Wait) wN isAgg_3 e ?_
 refine pu (vb (decide (a.Wait = 1))) wN ?_
 refine mw (vb (decide (a.Wait = 1))) ?_
 rcases bt (decide (a.Wait = 1)) with b | b
 ·have W := dT b
  iterate 3 refine sk b ?_
  refine pk (vb true) wN b ?_
  refine mw (vb true) ?_
  iterate 3 refine sk (Eq.refl true) ?_
  refine pk (vb true) wN (Eq.refl true) ?_
  refine mw (vb true) ?_
  iterate 3 refine sk (Eq.refl true) ?_
  refine pk (vb true) wN (Eq.refl true) ?_
  refine aw (vb true) ?_
  refine nx ?_
  refine pu (vp g 1) wN ?_
  refine ld (vi a.Due) wN isAgg_3 e ?_
  refine cl wN (ciwithin q a.Due 0 1000008) ?_
  rintro _ o ⟨x, rfl⟩
  have y := r.extk x
  refine mw (vb (i_within a.Due 0 1000008)) ?_
  rcases bf (i_within a.Due 0 1000008) with k | k
  ·have X := impl_within_f k
   refine sk k ?_
   refine pf (vb false) wN k ?_
   refine mw (vb false) ?_
   iterate 3 refine sk (Eq.refl false) ?_
   refine pf (vb false) wN (Eq.refl false) ?_
   refine aw (vb false) ?_
   refine n3 ?_
   refine rt (vb false) ?_
   refine ⟨y.keep0, ?_⟩
   simp only [i_TimerOk, h, b, k, cond_true, cond_false]
   exact rfl
  have Y := impl_within_t k
  refine mv (vb true) (wS k) ?_
  refine pk (vb true) wN k ?_
  refine mw (vb true) ?_
  refine pu (vp g 3) (wS (Eq.refl true)) ?_
  have H := (e.kp x)
  refine ld (vi a.Tries) (wS (Eq.refl true)) isAgg_3 H ?_
  refine cl (wS (Eq.refl true)) (ciwithin o a.Tries 1 5) ?_
  rintro _ s ⟨I, rfl⟩
  have J := y.extk I
  refine pk (vb (i_within a.Tries 1 5)) wN (Eq.refl true) ?_
  refine aw (vb (i_within a.Tries 1 5)) ?_
  refine n3 ?_
  refine rt (vb (i_within a.Tries 1 5)) ?_
  refine ⟨J.keep0, ?_⟩
  simp only [i_TimerOk, h, b, k, cond_true, cond_false]
  exact rfl
 have Z := dF b
 refine pu (vp g 2) (wS b) ?_
 refine ld (vi a.Wait) (wS b) isAgg_3 e ?_
 refine pu (vb (decide (a.Wait = 2))) (wS b) ?_
 refine pf (vb (decide (a.Wait = 2))) wN b ?_
 refine mw (vb (decide (a.Wait = 2))) ?_
 rcases bt (decide (a.Wait = 2)) with d | d
 ·have aa := dT d
  iterate 3 refine sk d ?_
  refine pk (vb true) wN d ?_
  refine mw (vb true) ?_
  iterate 3 refine sk (Eq.refl true) ?_
  refine pk (vb true) wN (Eq.refl true) ?_
  refine aw (vb true) ?_
  refine nx ?_
  refine pu (vp g 1) wN ?_
  refine ld (vi a.Due) wN isAgg_3 e ?_
  refine cl wN (ciwithin q a.Due 0 1000008) ?_
  rintro _ o ⟨A, rfl⟩
  have B := r.extk A
  refine mw (vb (i_within a.Due 0 1000008)) ?_
  rcases bf (i_within a.Due 0 1000008) with l | l
  ·have ab := impl_within_f l
   refine sk l ?_
   refine pf (vb false) wN l ?_
   refine mw (vb false) ?_
   iterate 3 refine sk (Eq.refl false) ?_
   refine pf (vb false) wN (Eq.refl false) ?_
   refine aw (vb false) ?_
   refine n3 ?_
   refine rt (vb false) ?_
   refine ⟨B.keep0, ?_⟩
   simp only [i_TimerOk, h, b, d, l, cond_true, cond_false]
   exact rfl
  have ac := impl_within_t l
  refine mv (vb true) (wS l) ?_
  refine pk (vb true) wN l ?_
  refine mw (vb true) ?_
  refine pu (vp g 3) (wS (Eq.refl true)) ?_
  have K := (e.kp A)
  refine ld (vi a.Tries) (wS (Eq.refl true)) isAgg_3 K ?_
  refine cl (wS (Eq.refl true)) (ciwithin o a.Tries 1 5) ?_
  rintro _ s ⟨L, rfl⟩
  have M := B.extk L
  refine pk (vb (i_within a.Tries 1 5)) wN (Eq.refl true) ?_
  refine aw (vb (i_within a.Tries 1 5)) ?_
  refine n3 ?_
  refine rt (vb (i_within a.Tries 1 5)) ?_
  refine ⟨M.keep0, ?_⟩
  simp only [i_TimerOk, h, b, d, l, cond_true, cond_false]
  exact rfl
 have ad := dF d
 refine pu (vp g 2) (wS d) ?_
 refine ld (vi a.Wait) (wS d) isAgg_3 e ?_
 refine pu (vb (decide (a.Wait = 4))) (wS d) ?_
 refine pf (vb (decide (a.Wait = 4))) wN d ?_
 refine mw (vb (decide (a.Wait = 4))) ?_
 rcases bt (decide (a.Wait = 4)) with f | f
 ·have ae := dT f
  iterate 3 refine sk f ?_
  refine pk (vb true) wN f ?_
  refine aw (vb true) ?_
  refine nx ?_
  refine pu (vp g 1) wN ?_
  refine ld (vi a.Due) wN isAgg_3 e ?_
  refine cl wN (ciwithin q a.Due 0 1000008) ?_
  rintro _ o ⟨C, rfl⟩
  have D := r.extk C
  refine mw (vb (i_within a.Due 0 1000008)) ?_
  rcases bf (i_within a.Due 0 1000008) with m | m
  ·have af := impl_within_f m
   refine sk m ?_
   refine pf (vb false) wN m ?_
   refine mw (vb false) ?_
   iterate 3 refine sk (Eq.refl false) ?_
   refine pf (vb false) wN (Eq.refl false) ?_
   refine aw (vb false) ?_
   refine n3 ?_
   refine rt (vb false) ?_
   refine ⟨D.keep0, ?_⟩
   simp only [i_TimerOk, h, b, d, f, m, cond_true, cond_false]
   exact rfl
  have ah := impl_within_t m
  refine mv (vb true) (wS m) ?_
  refine pk (vb true) wN m ?_
  refine mw (vb true) ?_
  refine pu (vp g 3) (wS (Eq.refl true)) ?_
  have N := (e.kp C)
  refine ld (vi a.Tries) (wS (Eq.refl true)) isAgg_3 N ?_
  refine cl (wS (Eq.refl true)) (ciwithin o a.Tries 1 5) ?_
  rintro _ s ⟨O, rfl⟩
  have P := D.extk O
  refine pk (vb (i_within a.Tries 1 5)) wN (Eq.refl true) ?_
  refine aw (vb (i_within a.Tries 1 5)) ?_
  refine n3 ?_
  refine rt (vb (i_within a.Tries 1 5)) ?_
  refine ⟨P.keep0, ?_⟩
  simp only [i_TimerOk, h, b, d, f, m, cond_true, cond_false]
  exact rfl
 have ai := dF f
 refine pu (vp g 2) (wS f) ?_
 refine ld (vi a.Wait) (wS f) isAgg_3 e ?_
 refine pu (vb (decide (a.Wait = 8))) (wS f) ?_
 refine pf (vb (decide (a.Wait = 8))) wN f ?_
 refine aw (vb (decide (a.Wait = 8))) ?_
 refine nx ?_
 refine pu (vp g 1) wN ?_
 refine ld (vi a.Due) wN isAgg_3 e ?_
 refine cl wN (ciwithin q a.Due 0 1000008) ?_
 rintro _ o ⟨E, rfl⟩
 have t := r.extk E
 refine mw (vb (i_within a.Due 0 1000008)) ?_
 rcases bf (i_within a.Due 0 1000008) with j | j
 ·have aj := impl_within_f j
  refine sk j ?_
  refine pf (vb false) wN j ?_
  refine mw (vb false) ?_
  iterate 3 refine sk (Eq.refl false) ?_
  refine pf (vb false) wN (Eq.refl false) ?_
  refine aw (vb false) ?_
  refine n3 ?_
  refine rt (vb false) ?_
  refine ⟨t.keep0, ?_⟩
  simp only [i_TimerOk, h, b, d, f, j, cond_true, cond_false]
  exact rfl
 have ak := impl_within_t j
 refine mv (vb (decide (a.Wait = 8))) (wS j) ?_
 refine pk (vb (decide (a.Wait = 8))) wN j ?_
 refine mw (vb (decide (a.Wait = 8))) ?_
 rcases bf (decide (a.Wait = 8)) with i | i
 ·have am := dF i
  iterate 3 refine sk i ?_
  refine pf (vb false) wN i ?_
  refine aw (vb false) ?_
  refine n3 ?_
  refine rt (vb false) ?_
  refine ⟨t.keep0, ?_⟩
  simp only [i_TimerOk, h, b, d, f, j, i, cond_true, cond_false]
  exact rfl
 have an := dT i
 refine pu (vp g 3) (wS i) ?_
 have Q := (e.kp E)
 refine ld (vi a.Tries) (wS i) isAgg_3 Q ?_
 refine cl (wS i) (ciwithin o a.Tries 1 5) ?_
 rintro _ s ⟨R, rfl⟩
 have S := t.extk R
 refine pk (vb (i_within a.Tries 1 5)) wN i ?_
 refine aw (vb (i_within a.Tries 1 5)) ?_
 refine n3 ?_
 refine rt (vb (i_within a.Tries 1 5)) ?_
 refine ⟨S.keep0, ?_⟩
 simp only [i_TimerOk, h, b, d, f, j, i, cond_true, cond_false]
 exact rfl
theorem impl_TimerOk_t {t : PTimer} (h : i_TimerOk t = true) (a : t.On = true) : 0 ≤ t.Due ∧ t.Due ≤ 1000008 ∧ 1 ≤ t.Wait ∧ t.Wait ≤ 8 ∧ 1 ≤ t.Tries ∧ t.Tries ≤ 5 := by
  simp only [i_TimerOk, i_within, cond_eq_ite] at h
  grind

def i_Sealed (a : Int) : (Bool) := (i_within a 4 8)
theorem ciSealed (b : World) (a : Int)  : Fn Try.prog 175 #[(vi a)] b (fun v d => Keep b d ∧ O_4 d b.heap.size v (i_Sealed a)) := by
 refine fn_ofS (n := 5) [(vi a)] Try.func175 rfl rfl ?_
 refine sr ?_
 refine aw (vb false) ?_
 refine nx ?_
 refine mw (vi a) ?_
 refine cl wN (ciwithin b a 4 8) ?_
 rintro _ h ⟨e, rfl⟩
 have f := (Ch.base b).extk e
 refine aw (vb (i_within a 4 8)) ?_
 refine n3 ?_
 refine rt (vb (i_within a 4 8)) ?_
 refine ⟨f.keep0, ?_⟩
 have g : i_Sealed a = (i_within a 4 8) := by rfl
 rw [g]
 exact rfl

def i_bodyOk (b : Int) (a : Int) : (Bool) := bif (decide (b = 4)) then (decide (a ≤ 40)) else (bif (decide (b = 5)) then (decide (a = 12)) else (bif (decide (b = 6)) then (decide (a = 12)) else (decide (a = 4))))
theorem cibodyOk (g : World) (b : Int) (a : Int)  : Fn Try.prog 176 #[(vi b), (vi a)] g (fun v h => Keep g h ∧ O_4 h g.heap.size v (i_bodyOk b a)) := by
 refine fn_ofS (n := 17) [(vi b), (vi a)] Try.func176 rfl rfl ?_
 refine sr ?_
 refine aw (vb false) ?_
 refine n4 ?_
 refine mw (vi b) ?_
 refine wl_nil <| wq_then <| wc_block <| sr ?_
 refine pu (vb (decide (b = 4))) wN ?_
 refine aw (vb (decide (b = 4))) ?_
 refine n2 ?_
 rcases bt (decide (b = 4)) with d | d
 ·have i := dT d
  refine ct d ?_
  refine sr ?_
  refine mw (vi a) ?_
  refine pu (vb (decide (a ≤ 40))) wN ?_
  refine aw (vb (decide (a ≤ 40))) ?_
  refine wl_nil <| wq_then <| wc_ret <| wq_blk_ret <| wq_then_ret ?_
  refine rt (vb (decide (a ≤ 40))) ?_
  refine ⟨Ch.refl _ _, ?_⟩
  simp only [i_bodyOk, d, cond_true, cond_false]
  exact rfl
 have j := dF d
 refine cf d ?_
 refine wc_seq <| sr ?_
 refine pu (vb (decide (b = 5))) wN ?_
 refine aw (vb (decide (b = 5))) ?_
 refine n2 ?_
 rcases bt (decide (b = 5)) with e | e
 ·have k := dT e
  refine ct e ?_
  refine wc_skip <| wq_then ?_
  refine ct e ?_
  refine sr ?_
  refine mw (vi a) ?_
  refine pu (vb (decide (a = 12))) wN ?_
  refine aw (vb (decide (a = 12))) ?_
  refine wl_nil <| wq_then <| wc_ret <| wq_blk_ret <| wq_then_ret ?_
  refine rt (vb (decide (a = 12))) ?_
  refine ⟨Ch.refl _ _, ?_⟩
  simp only [i_bodyOk, d, e, cond_true, cond_false]
  exact rfl
 have l := dF e
 refine cf e ?_
 refine wc_region ?_
 refine pu (vb (decide (b = 6))) wN ?_
 refine aw (vb (decide (b = 6))) ?_
 refine n2 ?_
 rcases bt (decide (b = 6)) with f | f
 ·have m := dT f
  refine ct f ?_
  refine sr ?_
  refine mw (vi a) ?_
  refine pu (vb (decide (a = 12))) wN ?_
  refine aw (vb (decide (a = 12))) ?_
  refine wl_nil <| wq_then <| wc_ret <| wq_blk_ret <| wq_then_ret ?_
  refine rt (vb (decide (a = 12))) ?_
  refine ⟨Ch.refl _ _, ?_⟩
  simp only [i_bodyOk, d, e, f, cond_true, cond_false]
  exact rfl
 have o := dF f
 refine cf f ?_
 refine wc_skip <| wq_blk_normal <| wq_then <| sr ?_
 refine mw (vi a) ?_
 refine pu (vb (decide (a = 4))) wN ?_
 refine aw (vb (decide (a = 4))) ?_
 refine n3 ?_
 refine rt (vb (decide (a = 4))) ?_
 refine ⟨Ch.refl _ _, ?_⟩
 simp only [i_bodyOk, d, e, f, cond_true, cond_false]
 exact rfl

abbrev Z_87 : List Value := [(vi 0), (vi 0), (vs none 0 0), (vs none 0 0), (vi 0), (vs none 0 0), (vs none 0 0), (vi 0), (vi 0), (vs none 0 0), (vs none 0 0)]
theorem zero_87 : ∀ w, (zeroValue 87).run Try.prog w = .ok (va Z_87) w := fun w => by kernel_rfl
theorem sizeOf_87 : ∀ w, (sizeOf 87).run Try.prog w = .ok 11 w := fun w => by kernel_rfl
theorem sizeOf_22 : ∀ w, (sizeOf 22).run Try.prog w = .ok 1 w := fun w => by kernel_rfl
theorem isAgg_87 : ∀ w, (isAgg 87).run Try.prog w = .ok true w := fun w => by kernel_rfl
theorem mR_87 {w : World} {x : PFrame} {a : Option Addr} {b : Nat} {d : Option Addr} {e : Nat} {f : Option Addr} {g : Nat} {h : Option Addr} {i : Nat} {j : Option Addr} {k : Nat} {l : Option Addr} {m : Nat} (o : Rd w 1 (.slice a x.Cn.length b) x.Cn.length (x.Cn.map bV)) (p : x.Cn.length ≤ 1073741824) (q : Rd w 1 (.slice d x.Sn.length e) x.Sn.length (x.Sn.map bV)) (r : x.Sn.length ≤ 1073741824) (s : Rd w 1 (.slice f x.Cookie.length g) x.Cookie.length (x.Cookie.map bV)) (t : x.Cookie.length ≤ 1073741824) (u : Rd w 1 (.slice h x.Proof.length i) x.Proof.length (x.Proof.map bV)) (v : x.Proof.length ≤ 1073741824) (y : Rd w 1 (.slice j x.Body.length k) x.Body.length (x.Body.map bV)) (A : x.Body.length ≤ 1073741824) (B : Rd w 1 (.slice l x.Tag.length m) x.Tag.length (x.Tag.map bV)) (C : x.Tag.length ≤ 1073741824) : R_87 w (va (L_87 x a b d e f g h i j k l m)) x := ⟨_, _, _, _, _, _, _, _, _, _, _, _, rfl, o, p, q, r, s, t, u, v, y, A, B, C⟩
def i_FrameOk (a : PFrame) : (Bool) := bif (decide (a.Kind = 1)) then (bif (i_within a.Id 1 9) then (bif (i_isNonce a.Cn) then ((i_sameFrame a { Kind := a.Kind, Id := a.Id, Cn := a.Cn, Sn := [], Tick := 0, Cookie := [], Proof := [], Epoch := 0, Seq := 0, Body := [], Tag := [] : PFrame })) else (false)) else (false)) else (bif (decide (a.Kind = 2)) then (bif (i_isNonce a.Cn) then (bif (i_isNonce a.Sn) then (bif (i_within a.Tick 0 1000000) then (bif (decide ((a.Cookie.length : Int) = 16)) then ((i_sameFrame a { Kind := a.Kind, Id := 0, Cn := a.Cn, Sn := a.Sn, Tick := a.Tick, Cookie := a.Cookie, Proof := [], Epoch := 0, Seq := 0, Body := [], Tag := [] : PFrame })) else (false)) else (false)) else (false)) else (false)) else (bif (decide (a.Kind = 3)) then (bif (i_within a.Id 1 9) then (bif (i_isNonce a.Cn) then (bif (i_isNonce a.Sn) then (bif (i_within a.Tick 0 1000000) then (bif (decide ((a.Cookie.length : Int) = 16)) then (bif (decide ((a.Proof.length : Int) = 16)) then ((i_sameFrame a { Kind := a.Kind, Id := a.Id, Cn := a.Cn, Sn := a.Sn, Tick := a.Tick, Cookie := a.Cookie, Proof := a.Proof, Epoch := 0, Seq := 0, Body := [], Tag := [] : PFrame })) else (false)) else (false)) else (false)) else (false)) else (false)) else (false)) else (bif (i_Sealed a.Kind) then (bif (i_isNonce a.Sn) then (bif (i_within a.Epoch 0 4294967295) then (bif (i_within a.Seq 0 281474976710655) then (bif (decide ((a.Tag.length : Int) = 16)) then (bif (i_bodyOk a.Kind (a.Body.length : Int)) then ((i_sameFrame a { Kind := a.Kind, Id := 0, Cn := [], Sn := a.Sn, Tick := 0, Cookie := [], Proof := [], Epoch := a.Epoch, Seq := a.Seq, Body := a.Body, Tag := a.Tag : PFrame })) else (false)) else (false)) else (false)) else (false)) else (false)) else (false))))
theorem ciFrameOk (az : World) (aS : Value) (a : PFrame) (b3 : R_87 az aS a)  : Fn Try.prog 160 #[aS] az (fun v o => Keep az o ∧ O_4 o az.heap.size v (i_FrameOk a)) := by
 obtain ⟨i, j, f, g, s, u, H, I, C, D, J, K, rfl, ab, ac, ad, ae, am, au, av, a0, ax, a1, ay, a2⟩ := b3
 refine fn_ofS (n := 165) [(va (L_87 a i j f g s u H I C D J K))] Try.func160 rfl rfl ?_
 refine sr ?_
 refine bx (L_87 a i j f g s u H I C D J K) wN ?_
 intro d dh di r af aT
 refine aw (vb false) ?_
 refine nx ?_
 refine pu (vp d 0) wN ?_
 refine ld (vi a.Kind) wN isAgg_3 aT ?_
 refine pu (va [(vi a.Kind), (vi 0), (vs none 0 0), (vs none 0 0), (vi 0), (vs none 0 0), (vs none 0 0), (vi 0), (vi 0), (vs none 0 0), (vs none 0 0)]) wN ?_
 refine al Z_87 wN zero_87 ?_
 intro b dj l dk aU b4
 refine sv [(vi a.Kind), (vi 0), (vs none 0 0), (vs none 0 0), (vi 0), (vs none 0 0), (vs none 0 0), (vi 0), (vi 0), (vs none 0 0), (vs none 0 0)] wN sizeOf_87 b4 ?_
 intro a5 aV a6 dl
 have a7 := (((Ch.base az).extk af).extk aU).ext aV (fun k hk => by subst hk; exact nT af.size l)
 refine nx ?_
 refine aw (vb false) ?_
 refine wl_nil <| wq_then <| wc_seq <| wc_block <| sr ?_
 refine pu (vp d 0) wN ?_
 have x := ((aT.kp aU).ch aV (nN (nL r (l))))
 refine ld (vi a.Kind) wN isAgg_3 x ?_
 refine pu (vb (decide (a.Kind = 1))) wN ?_
 refine aw (vb (decide (a.Kind = 1))) ?_
 refine n2 ?_
 rcases bt (decide (a.Kind = 1)) with p | p
 ·have dm := dT p
  refine ct p ?_
  refine wc_seq ?_
  refine wc_drawT ([(12, [], [], (fun _ v _ => v = (vp d 1))), (13, [], [0], (fun _ v _ => v = (vi a.Id))), (14, [], [], (fun _ v _ => v = (vp d 2))), (15, [], [2], (fun _ v _ => v = (vs i a.Cn.length j))), (16, [], [0, 1], (fun _ v _ => v = (vp b 1))), (170, [], [0, 1, 4], (fun _ _ w => BK w b 87 1 ([(vi a.Id)])))] : GV) (fun lf o => Ch (fun k => k = b) a5 o ∧ RK lf o b 87 [(vi a.Kind), (vi 0), (vs none 0 0), (vs none 0 0), (vi 0), (vs none 0 0), (vs none 0 0), (vi 0), (vi 0), (vs none 0 0), (vs none 0 0)] [(5, 1, 1)]) [(5, TK b 87 1 1)] mixed rfl (by kernel_rfl) (by kernel_rfl) ?_ (fun _ _ h => ⟨h.to _, RK.z a6 h⟩) (fun _ _ _ _ h mo k => by obtain ⟨hc, m⟩ := h; exact ⟨hc.comp k (fun _ _ q => q.elim), m.kp mo k⟩) ⟨(fun _ _ w o h mo hj t => by obtain ⟨hc, m⟩ := h; exact ⟨hc.comp t.1 (fun _ _ q => q), m.st mo hj (.head _) t⟩), trivial⟩ ?_ ?_ ?_
  ·exact ⟨hV, hE, ⟨hV, hE, ⟨hV, hE, ⟨hV, hE, ⟨hV, hE, ⟨sK, hE, trivial⟩⟩⟩⟩⟩⟩
  ·exact ⟨⟨.inr hV, ⟨.inr hV, ⟨.inr hV, ⟨.inr hV, ⟨.inr hV, ⟨.inl rfl, trivial⟩⟩⟩⟩⟩⟩, trivial⟩
  ·refine ⟨?_, ⟨?_, ⟨?_, ⟨?_, ⟨?_, ⟨?_, trivial⟩⟩⟩⟩⟩⟩
   ·rintro lf e ⟨dn, dp⟩ ⟨dq, -⟩
    rintro _ _ _ _ _ _
    show WL _ _ _ _ _ _ _
    refine pu (vp d 1) wN ?_
    exact f1
   ·rintro lf e ⟨b5, dr⟩ ⟨ds, -⟩
    rintro _ rfl _ _ _ _ _
    show WL _ _ _ _ _ _ _
    have b6 := (x.ch b5 (nN (nL r (l))))
    refine ld (vi a.Id) wN isAgg_3 b6 ?_
    exact f1
   ·rintro lf e ⟨dt, du⟩ ⟨dv, -⟩
    rintro _ _ _ _ _ _
    show WL _ _ _ _ _ _ _
    refine pu (vp d 2) wN ?_
    exact f1
   ·rintro lf e ⟨b7, dw⟩ ⟨dx, -⟩
    rintro _ _ _ rfl _ _ _
    show WL _ _ _ _ _ _ _
    have b8 := (x.ch b7 (nN (nL r (l))))
    refine ld (vs i a.Cn.length j) wN isAgg_22 b8 ?_
    exact f1
   ·rintro lf e ⟨dy, dz⟩ ⟨d0, -⟩
    rintro _ rfl _ rfl _ _ _ _
    show WL _ _ _ _ _ _ _
    refine pu (vp b 1) wN ?_
    exact f1
   ·rintro lf e ⟨d1, b9⟩ ⟨d2, -⟩
    rintro _ rfl _ rfl _ _ _ rfl _
    show WL _ _ _ _ _ _ _
    exact stK (vi a.Id) [(vi a.Id)] wN sizeOf_3 b9 (fun _ h => h) (fun _ t => t)
  ·rintro lf e ⟨aW, bA⟩
   have bB := a7.ext aW (fun k hk => by subst hk; exact nT af.size l)
   rintro _ rfl _ rfl _ rfl _ rfl _ rfl _ bC
   have bD : Blk e b 87 [(vi a.Kind), (vi a.Id), (vs none 0 0), (vs none 0 0), (vi 0), (vs none 0 0), (vs none 0 0), (vi 0), (vi 0), (vs none 0 0), (vs none 0 0)] := RK.fin bA [(1, [(vi a.Id)])] ⟨bC, trivial⟩
   show WL _ _ _ _ _ _ _
   refine pu (vp b 2) wN ?_
   refine st (vs i a.Cn.length j) [(vs i a.Cn.length j)] [(vi a.Kind), (vi a.Id), (vs i a.Cn.length j), (vs none 0 0), (vi 0), (vs none 0 0), (vs none 0 0), (vi 0), (vi 0), (vs none 0 0), (vs none 0 0)] wN sizeOf_22 bD ?_
   intro y aX bE d3
   have bF := bB.ext aX (fun k hk => by subst hk; exact nT af.size l)
   refine wl_nil <| wq_then <| wc_region ?_
   refine pu (vp d 1) wN ?_
   have aY := ((x.ch aW (nN (nL r (l)))).ch aX (nN (nL r (l))))
   refine ld (vi a.Id) wN isAgg_3 aY ?_
   refine cl wN (ciwithin y a.Id 1 9) ?_
   rintro _ ap ⟨a9, rfl⟩
   have aA := bF.extk a9
   refine mw (vb (i_within a.Id 1 9)) ?_
   rcases bf (i_within a.Id 1 9) with T | T
   ·have d4 := impl_within_f T
    iterate 3 refine sk T ?_
    refine pf (vb false) wN T ?_
    refine aw (vb false) ?_
    refine wl_nil <| wq_blk_normal <| wq_then <| sr ?_
    refine mw (vb false) ?_
    refine mw (vb false) ?_
    iterate 3 refine sk (Eq.refl false) ?_
    refine pf (vb false) wN (Eq.refl false) ?_
    refine aw (vb false) ?_
    refine n3 ?_
    refine rt (vb false) ?_
    refine ⟨aA.keep0, ?_⟩
    simp only [i_FrameOk, p, T, cond_true, cond_false]
    exact rfl
   have d5 := impl_within_t T
   refine pu (vp d 2) (wS T) ?_
   have aZ := (aY.kp a9)
   refine ld (vs i a.Cn.length j) (wS T) isAgg_22 aZ ?_
   refine cl (wS T) (ciisNonce ap _ a.Cn (mR_22 (ab.from0 aA) ac)) ?_
   rintro _ an ⟨aB, rfl⟩
   have ai := aA.extk aB
   refine pk (vb (i_isNonce a.Cn)) wN T ?_
   refine aw (vb (i_isNonce a.Cn)) ?_
   refine wl_nil <| wq_blk_normal <| wq_then <| sr ?_
   refine mw (vb (i_isNonce a.Cn)) ?_
   refine mw (vb (i_isNonce a.Cn)) ?_
   rcases bf (i_isNonce a.Cn) with aj | aj
   ·iterate 3 refine sk aj ?_
    refine pf (vb false) wN aj ?_
    refine aw (vb false) ?_
    refine n3 ?_
    refine rt (vb false) ?_
    refine ⟨ai.keep0, ?_⟩
    simp only [i_FrameOk, p, T, aj, cond_true, cond_false]
    exact rfl
   have bG := (aZ.kp aB)
   refine lN (L_87 a i j f g s u H I C D J K) (wS aj) isAgg_87 sizeOf_87 bG ?_
   have bH := ((bE.kp a9).kp aB)
   refine lN [(vi a.Kind), (vi a.Id), (vs i a.Cn.length j), (vs none 0 0), (vi 0), (vs none 0 0), (vs none 0 0), (vi 0), (vi 0), (vs none 0 0), (vs none 0 0)] (wS aj) isAgg_87 sizeOf_87 bH ?_
   refine cl (wS aj) (cisameFrame an _ a (mR_87 (ab.from0 ai) ac (ad.from0 ai) ae (am.from0 ai) au (av.from0 ai) a0 (ax.from0 ai) a1 (ay.from0 ai) a2) _ _ (show R_87 an (va [(vi a.Kind), (vi a.Id), (vs i a.Cn.length j), (vs none 0 0), (vi 0), (vs none 0 0), (vs none 0 0), (vi 0), (vi 0), (vs none 0 0), (vs none 0 0)]) { Kind := a.Kind, Id := a.Id, Cn := a.Cn, Sn := [], Tick := 0, Cookie := [], Proof := [], Epoch := 0, Seq := 0, Body := [], Tag := [] : PFrame } from ⟨_, _, _, _, _, _, _, _, _, _, _, _, rfl, (ab.from0 ai), ac, (Rd.nil _ _), (by simp), (Rd.nil _ _), (by simp), (Rd.nil _ _), (by simp), (Rd.nil _ _), (by simp), (Rd.nil _ _), (by simp)⟩)) ?_
   rintro _ aq ⟨bI, rfl⟩
   have bJ := ai.extk bI
   refine pk (vb (i_sameFrame a { Kind := a.Kind, Id := a.Id, Cn := a.Cn, Sn := [], Tick := 0, Cookie := [], Proof := [], Epoch := 0, Seq := 0, Body := [], Tag := [] : PFrame })) wN aj ?_
   refine aw (vb (i_sameFrame a { Kind := a.Kind, Id := a.Id, Cn := a.Cn, Sn := [], Tick := 0, Cookie := [], Proof := [], Epoch := 0, Seq := 0, Body := [], Tag := [] : PFrame })) ?_
   refine n3 ?_
   refine rt (vb (i_sameFrame a { Kind := a.Kind, Id := a.Id, Cn := a.Cn, Sn := [], Tick := 0, Cookie := [], Proof := [], Epoch := 0, Seq := 0, Body := [], Tag := [] : PFrame })) ?_
   refine ⟨bJ.keep0, ?_⟩
   simp only [i_FrameOk, p, T, aj, cond_true, cond_false]
   exact rfl
 have d6 := dF p
 refine cf p ?_
 refine sr ?_
 refine pu (vp d 0) wN ?_
 refine ld (vi a.Kind) wN isAgg_3 x ?_
 refine pu (vb (decide (a.Kind = 2))) wN ?_
 refine aw (vb (decide (a.Kind = 2))) ?_
 refine n2 ?_
 rcases bt (decide (a.Kind = 2)) with A | A
 ·have d7 := dT A
  refine ct A ?_
  refine wc_seq ?_
  refine wc_drawT ([(30, [], [], (fun _ v _ => v = (vp d 2))), (31, [], [0], (fun _ v _ => v = (vs i a.Cn.length j))), (32, [], [], (fun _ v _ => v = (vp d 3))), (33, [], [2], (fun _ v _ => v = (vs f a.Sn.length g))), (34, [], [], (fun _ v _ => v = (vp d 4))), (35, [], [4], (fun _ v _ => v = (vi a.Tick))), (36, [], [], (fun _ v _ => v = (vp d 5))), (37, [], [6], (fun _ v _ => v = (vs s a.Cookie.length u))), (38, [], [0, 1], (fun _ v _ => v = (vp b 2))), (174, [], [0, 1, 8], (fun _ _ w => BK w b 87 2 ([(vs i a.Cn.length j)]))), (39, [], [0, 1, 2, 3, 8, 9], (fun _ v _ => v = (vp b 3))), (176, [], [0, 1, 2, 3, 8, 9, 10], (fun _ _ w => BK w b 87 3 ([(vs f a.Sn.length g)]))), (40, [], [0, 1, 2, 3, 4, 5, 8, 9, 10, 11], (fun _ v _ => v = (vp b 4))), (178, [], [0, 1, 2, 3, 4, 5, 8, 9, 10, 11, 12], (fun _ _ w => BK w b 87 4 ([(vi a.Tick)])))] : GV) (fun lf o => Ch (fun k => k = b) a5 o ∧ RK lf o b 87 [(vi a.Kind), (vi 0), (vs none 0 0), (vs none 0 0), (vi 0), (vs none 0 0), (vs none 0 0), (vi 0), (vi 0), (vs none 0 0), (vs none 0 0)] [(9, 2, 1), (11, 3, 1), (13, 4, 1)]) [(9, TK b 87 2 1), (11, TK b 87 3 1), (13, TK b 87 4 1)] mixed rfl (by kernel_rfl) (by kernel_rfl) ?_ (fun _ _ h => ⟨h.to _, RK.z a6 h⟩) (fun _ _ _ _ h mo k => by obtain ⟨hc, m⟩ := h; exact ⟨hc.comp k (fun _ _ q => q.elim), m.kp mo k⟩) ⟨(fun _ _ w o h mo hj t => by obtain ⟨hc, m⟩ := h; exact ⟨hc.comp t.1 (fun _ _ q => q), m.st mo hj (.head _) t⟩), ⟨(fun _ _ w o h mo hj t => by obtain ⟨hc, m⟩ := h; exact ⟨hc.comp t.1 (fun _ _ q => q), m.st mo hj (.tail _ (.head _)) t⟩), ⟨(fun _ _ w o h mo hj t => by obtain ⟨hc, m⟩ := h; exact ⟨hc.comp t.1 (fun _ _ q => q), m.st mo hj (.tail _ (.tail _ (.head _))) t⟩), trivial⟩⟩⟩ ?_ ?_ ?_
  ·exact ⟨hV, hE, ⟨hV, hE, ⟨hV, hE, ⟨hV, hE, ⟨hV, hE, ⟨hV, hE, ⟨hV, hE, ⟨hV, hE, ⟨hV, hE, ⟨sK, hE, ⟨hV, hE, ⟨sK, hE, ⟨hV, hE, ⟨sK, hE, trivial⟩⟩⟩⟩⟩⟩⟩⟩⟩⟩⟩⟩⟩⟩
  ·exact ⟨⟨.inr hV, ⟨.inr hV, ⟨.inr hV, ⟨.inr hV, ⟨.inr hV, ⟨.inr hV, ⟨.inr hV, ⟨.inr hV, ⟨.inr hV, ⟨.inl rfl, ⟨.inr hV, ⟨.inr (sKs 1 (.inl rfl)), ⟨.inr hV, ⟨.inr (sKs 1 (.inl rfl)), trivial⟩⟩⟩⟩⟩⟩⟩⟩⟩⟩⟩⟩⟩⟩, ⟨⟨.inr hV, ⟨.inr hV, ⟨.inr hV, ⟨.inr hV, ⟨.inr hV, ⟨.inr hV, ⟨.inr hV, ⟨.inr hV, ⟨.inr hV, ⟨.inr (sKs 1 (.inr rfl)), ⟨.inr hV, ⟨.inl rfl, ⟨.inr hV, ⟨.inr (sKs 1 (.inl rfl)), trivial⟩⟩⟩⟩⟩⟩⟩⟩⟩⟩⟩⟩⟩⟩, ⟨⟨.inr hV, ⟨.inr hV, ⟨.inr hV, ⟨.inr hV, ⟨.inr hV, ⟨.inr hV, ⟨.inr hV, ⟨.inr hV, ⟨.inr hV, ⟨.inr (sKs 1 (.inr rfl)), ⟨.inr hV, ⟨.inr (sKs 1 (.inr rfl)), ⟨.inr hV, ⟨.inl rfl, trivial⟩⟩⟩⟩⟩⟩⟩⟩⟩⟩⟩⟩⟩⟩, trivial⟩⟩⟩
  ·refine ⟨?_, ⟨?_, ⟨?_, ⟨?_, ⟨?_, ⟨?_, ⟨?_, ⟨?_, ⟨?_, ⟨?_, ⟨?_, ⟨?_, ⟨?_, ⟨?_, trivial⟩⟩⟩⟩⟩⟩⟩⟩⟩⟩⟩⟩⟩⟩
   ·rintro lf e ⟨d8, d9⟩ ⟨dA, dB, dC, -⟩
    rintro _ _ _ _ _ _ _ _ _ _ _ _ _ _
    show WL _ _ _ _ _ _ _
    refine pu (vp d 2) wN ?_
    exact f1
   ·rintro lf e ⟨bK, dD⟩ ⟨dE, dG, dH, -⟩
    rintro _ rfl _ _ _ _ _ _ _ _ _ _ _ _ _
    show WL _ _ _ _ _ _ _
    have bL := (x.ch bK (nN (nL r (l))))
    refine ld (vs i a.Cn.length j) wN isAgg_22 bL ?_
    exact f1
   ·rintro lf e ⟨dI, dJ⟩ ⟨dK, dL, dM, -⟩
    rintro _ _ _ _ _ _ _ _ _ _ _ _ _ _
    show WL _ _ _ _ _ _ _
    refine pu (vp d 3) wN ?_
    exact f1
   ·rintro lf e ⟨bM, dN⟩ ⟨dO, dP, dQ, -⟩
    rintro _ _ _ rfl _ _ _ _ _ _ _ _ _ _ _
    show WL _ _ _ _ _ _ _
    have bN := (x.ch bM (nN (nL r (l))))
    refine ld (vs f a.Sn.length g) wN isAgg_22 bN ?_
    exact f1
   ·rintro lf e ⟨dR, dS⟩ ⟨dU, dV, dW, -⟩
    rintro _ _ _ _ _ _ _ _ _ _ _ _ _ _
    show WL _ _ _ _ _ _ _
    refine pu (vp d 4) wN ?_
    exact f1
   ·rintro lf e ⟨bO, dX⟩ ⟨dY, dZ, ea, -⟩
    rintro _ _ _ _ _ rfl _ _ _ _ _ _ _ _ _
    show WL _ _ _ _ _ _ _
    have bP := (x.ch bO (nN (nL r (l))))
    refine ld (vi a.Tick) wN isAgg_3 bP ?_
    exact f1
   ·rintro lf e ⟨ec, ed⟩ ⟨ee, ef, eg, -⟩
    rintro _ _ _ _ _ _ _ _ _ _ _ _ _ _
    show WL _ _ _ _ _ _ _
    refine pu (vp d 5) wN ?_
    exact f1
   ·rintro lf e ⟨bQ, eh⟩ ⟨ej, ek, em, -⟩
    rintro _ _ _ _ _ _ _ rfl _ _ _ _ _ _ _
    show WL _ _ _ _ _ _ _
    have bR := (x.ch bQ (nN (nL r (l))))
    refine ld (vs s a.Cookie.length u) wN isAgg_22 bR ?_
    exact f1
   ·rintro lf e ⟨en, eo⟩ ⟨ep, er, es, -⟩
    rintro _ rfl _ rfl _ _ _ _ _ _ _ _ _ _ _ _
    show WL _ _ _ _ _ _ _
    refine pu (vp b 2) wN ?_
    exact f1
   ·rintro lf e ⟨et, bS⟩ ⟨eu, ew, ex, -⟩
    rintro _ rfl _ rfl _ _ _ _ _ _ _ rfl _ _ _ _ _
    show WL _ _ _ _ _ _ _
    exact stK (vs i a.Cn.length j) [(vs i a.Cn.length j)] wN sizeOf_22 bS (fun _ h => h) (fun _ t => t)
   ·rintro lf e ⟨ey, ez⟩ ⟨e0, e1, e2, -⟩
    rintro _ rfl _ rfl _ rfl _ rfl _ _ _ _ _ rfl _ _ _ _ _ _
    show WL _ _ _ _ _ _ _
    refine pu (vp b 3) wN ?_
    exact f1
   ·rintro lf e ⟨e3, bT⟩ ⟨e4, e5, e6, -⟩
    rintro _ rfl _ rfl _ rfl _ rfl _ _ _ _ _ rfl _ _ _ rfl _ _ _
    show WL _ _ _ _ _ _ _
    exact stK (vs f a.Sn.length g) [(vs f a.Sn.length g)] wN sizeOf_22 bT (fun _ h => h) (fun _ t => t)
   ·rintro lf e ⟨e7, e8⟩ ⟨e9, eA, eB, -⟩
    rintro _ rfl _ rfl _ rfl _ rfl _ rfl _ rfl _ _ _ rfl _ _ _ rfl _ _ _ _
    show WL _ _ _ _ _ _ _
    refine pu (vp b 4) wN ?_
    exact f1
   ·rintro lf e ⟨eC, bU⟩ ⟨eD, eE, eF, -⟩
    rintro _ rfl _ rfl _ rfl _ rfl _ rfl _ rfl _ _ _ rfl _ _ _ rfl _ _ _ rfl _
    show WL _ _ _ _ _ _ _
    exact stK (vi a.Tick) [(vi a.Tick)] wN sizeOf_3 bU (fun _ h => h) (fun _ t => t)
  ·rintro lf e ⟨ba, bW⟩
   have bX := a7.ext ba (fun k hk => by subst hk; exact nT af.size l)
   rintro _ rfl _ rfl _ rfl _ rfl _ rfl _ rfl _ rfl _ rfl _ rfl _ bY _ rfl _ bZ _ rfl _ ca
   have cb : Blk e b 87 [(vi a.Kind), (vi 0), (vs i a.Cn.length j), (vs f a.Sn.length g), (vi a.Tick), (vs none 0 0), (vs none 0 0), (vi 0), (vi 0), (vs none 0 0), (vs none 0 0)] := RK.fin bW [(2, [(vs i a.Cn.length j)]), (3, [(vs f a.Sn.length g)]), (4, [(vi a.Tick)])] ⟨bY, bZ, ca, trivial⟩
   show WL _ _ _ _ _ _ _
   refine pu (vp b 5) wN ?_
   refine st (vs s a.Cookie.length u) [(vs s a.Cookie.length u)] [(vi a.Kind), (vi 0), (vs i a.Cn.length j), (vs f a.Sn.length g), (vi a.Tick), (vs s a.Cookie.length u), (vs none 0 0), (vi 0), (vi 0), (vs none 0 0), (vs none 0 0)] wN sizeOf_22 cb ?_
   intro y bb cc eG
   have bc := bX.ext bb (fun k hk => by subst hk; exact nT af.size l)
   refine wl_nil <| wq_then <| wc_region ?_
   refine pu (vp d 2) wN ?_
   have bd := ((x.ch ba (nN (nL r (l)))).ch bb (nN (nL r (l))))
   refine ld (vs i a.Cn.length j) wN isAgg_22 bd ?_
   refine cl wN (ciisNonce y _ a.Cn (mR_22 (ab.from0 bc) ac)) ?_
   rintro _ ap ⟨aC, rfl⟩
   have aD := bc.extk aC
   refine mw (vb (i_isNonce a.Cn)) ?_
   rcases bf (i_isNonce a.Cn) with V | V
   ·iterate 3 refine sk V ?_
    refine pf (vb false) wN V ?_
    refine mw (vb false) ?_
    iterate 3 refine sk (Eq.refl false) ?_
    refine pf (vb false) wN (Eq.refl false) ?_
    refine mw (vb false) ?_
    iterate 4 refine sk (Eq.refl false) ?_
    refine pf (vb false) wN (Eq.refl false) ?_
    refine aw (vb false) ?_
    refine wl_nil <| wq_blk_normal <| wq_then <| sr ?_
    refine mw (vb false) ?_
    refine mw (vb false) ?_
    iterate 3 refine sk (Eq.refl false) ?_
    refine pf (vb false) wN (Eq.refl false) ?_
    refine aw (vb false) ?_
    refine n3 ?_
    refine rt (vb false) ?_
    refine ⟨aD.keep0, ?_⟩
    simp only [i_FrameOk, p, A, V, cond_true, cond_false]
    exact rfl
   refine pu (vp d 3) (wS V) ?_
   have be := (bd.kp aC)
   refine ld (vs f a.Sn.length g) (wS V) isAgg_22 be ?_
   refine cl (wS V) (ciisNonce ap _ a.Sn (mR_22 (ad.from0 aD) ae)) ?_
   rintro _ an ⟨aE, rfl⟩
   have bg := aD.extk aE
   refine pk (vb (i_isNonce a.Sn)) wN V ?_
   refine mw (vb (i_isNonce a.Sn)) ?_
   rcases bf (i_isNonce a.Sn) with X | X
   ·iterate 3 refine sk X ?_
    refine pf (vb false) wN X ?_
    refine mw (vb false) ?_
    iterate 4 refine sk (Eq.refl false) ?_
    refine pf (vb false) wN (Eq.refl false) ?_
    refine aw (vb false) ?_
    refine wl_nil <| wq_blk_normal <| wq_then <| sr ?_
    refine mw (vb false) ?_
    refine mw (vb false) ?_
    iterate 3 refine sk (Eq.refl false) ?_
    refine pf (vb false) wN (Eq.refl false) ?_
    refine aw (vb false) ?_
    refine n3 ?_
    refine rt (vb false) ?_
    refine ⟨bg.keep0, ?_⟩
    simp only [i_FrameOk, p, A, V, X, cond_true, cond_false]
    exact rfl
   refine pu (vp d 4) (wS X) ?_
   have bh := (be.kp aE)
   refine ld (vi a.Tick) (wS X) isAgg_3 bh ?_
   refine cl (wS X) (ciwithin an a.Tick 0 1000000) ?_
   rintro _ aq ⟨aF, rfl⟩
   have O := bg.extk aF
   refine pk (vb (i_within a.Tick 0 1000000)) wN X ?_
   refine mw (vb (i_within a.Tick 0 1000000)) ?_
   rcases bf (i_within a.Tick 0 1000000) with P | P
   ·have eH := impl_within_f P
    iterate 4 refine sk P ?_
    refine pf (vb false) wN P ?_
    refine aw (vb false) ?_
    refine wl_nil <| wq_blk_normal <| wq_then <| sr ?_
    refine mw (vb false) ?_
    refine mw (vb false) ?_
    iterate 3 refine sk (Eq.refl false) ?_
    refine pf (vb false) wN (Eq.refl false) ?_
    refine aw (vb false) ?_
    refine n3 ?_
    refine rt (vb false) ?_
    refine ⟨O.keep0, ?_⟩
    simp only [i_FrameOk, p, A, V, X, P, cond_true, cond_false]
    exact rfl
   have eI := impl_within_t P
   refine pu (vp d 5) (wS P) ?_
   have bi := (bh.kp aF)
   refine ld (vs s a.Cookie.length u) (wS P) isAgg_22 bi ?_
   refine ln (wS P) slTy_22 (am.from0 O) ?_
   refine pu (vb (decide ((a.Cookie.length : Int) = 16))) (wS P) ?_
   refine pk (vb (decide ((a.Cookie.length : Int) = 16))) wN P ?_
   refine aw (vb (decide ((a.Cookie.length : Int) = 16))) ?_
   refine wl_nil <| wq_blk_normal <| wq_then <| sr ?_
   refine mw (vb (decide ((a.Cookie.length : Int) = 16))) ?_
   refine mw (vb (decide ((a.Cookie.length : Int) = 16))) ?_
   rcases bf (decide ((a.Cookie.length : Int) = 16)) with Y | Y
   ·have eJ := dF Y
    iterate 3 refine sk Y ?_
    refine pf (vb false) wN Y ?_
    refine aw (vb false) ?_
    refine n3 ?_
    refine rt (vb false) ?_
    refine ⟨O.keep0, ?_⟩
    simp only [i_FrameOk, p, A, V, X, P, Y, cond_true, cond_false]
    exact rfl
   have eK := dT Y
   refine lN (L_87 a i j f g s u H I C D J K) (wS Y) isAgg_87 sizeOf_87 bi ?_
   have cd := (((cc.kp aC).kp aE).kp aF)
   refine lN [(vi a.Kind), (vi 0), (vs i a.Cn.length j), (vs f a.Sn.length g), (vi a.Tick), (vs s a.Cookie.length u), (vs none 0 0), (vi 0), (vi 0), (vs none 0 0), (vs none 0 0)] (wS Y) isAgg_87 sizeOf_87 cd ?_
   refine cl (wS Y) (cisameFrame aq _ a (mR_87 (ab.from0 O) ac (ad.from0 O) ae (am.from0 O) au (av.from0 O) a0 (ax.from0 O) a1 (ay.from0 O) a2) _ _ (show R_87 aq (va [(vi a.Kind), (vi 0), (vs i a.Cn.length j), (vs f a.Sn.length g), (vi a.Tick), (vs s a.Cookie.length u), (vs none 0 0), (vi 0), (vi 0), (vs none 0 0), (vs none 0 0)]) { Kind := a.Kind, Id := 0, Cn := a.Cn, Sn := a.Sn, Tick := a.Tick, Cookie := a.Cookie, Proof := [], Epoch := 0, Seq := 0, Body := [], Tag := [] : PFrame } from ⟨_, _, _, _, _, _, _, _, _, _, _, _, rfl, (ab.from0 O), ac, (ad.from0 O), ae, (am.from0 O), au, (Rd.nil _ _), (by simp), (Rd.nil _ _), (by simp), (Rd.nil _ _), (by simp)⟩)) ?_
   rintro _ a3 ⟨ce, rfl⟩
   have cg := O.extk ce
   refine pk (vb (i_sameFrame a { Kind := a.Kind, Id := 0, Cn := a.Cn, Sn := a.Sn, Tick := a.Tick, Cookie := a.Cookie, Proof := [], Epoch := 0, Seq := 0, Body := [], Tag := [] : PFrame })) wN Y ?_
   refine aw (vb (i_sameFrame a { Kind := a.Kind, Id := 0, Cn := a.Cn, Sn := a.Sn, Tick := a.Tick, Cookie := a.Cookie, Proof := [], Epoch := 0, Seq := 0, Body := [], Tag := [] : PFrame })) ?_
   refine n3 ?_
   refine rt (vb (i_sameFrame a { Kind := a.Kind, Id := 0, Cn := a.Cn, Sn := a.Sn, Tick := a.Tick, Cookie := a.Cookie, Proof := [], Epoch := 0, Seq := 0, Body := [], Tag := [] : PFrame })) ?_
   refine ⟨cg.keep0, ?_⟩
   simp only [i_FrameOk, p, A, V, X, P, Y, cond_true, cond_false]
   exact rfl
 have eL := dF A
 refine cf A ?_
 refine sr ?_
 refine pu (vp d 0) wN ?_
 refine ld (vi a.Kind) wN isAgg_3 x ?_
 refine pu (vb (decide (a.Kind = 3))) wN ?_
 refine aw (vb (decide (a.Kind = 3))) ?_
 refine n2 ?_
 rcases bf (decide (a.Kind = 3)) with B | B
 ·have eM := dF B
  refine cf B ?_
  refine sr ?_
  refine pu (vp d 0) wN ?_
  refine ld (vi a.Kind) wN isAgg_3 x ?_
  refine cl wN (ciSealed a5 a.Kind) ?_
  rintro _ e ⟨ao, rfl⟩
  have bj := a7.extk ao
  refine aw (vb (i_Sealed a.Kind)) ?_
  refine n2 ?_
  rcases bf (i_Sealed a.Kind) with ah | ah
  ·refine cf ah ?_
   refine wc_skip <| wq_blk_normal <| wq_then <| sr ?_
   refine mw (vb false) ?_
   refine mw (vb false) ?_
   iterate 3 refine sk (Eq.refl false) ?_
   refine pf (vb false) wN (Eq.refl false) ?_
   refine aw (vb false) ?_
   refine n3 ?_
   refine rt (vb false) ?_
   refine ⟨bj.keep0, ?_⟩
   simp only [i_FrameOk, p, A, B, ah, cond_true, cond_false]
   exact rfl
  refine ct ah ?_
  refine wc_seq ?_
  have ci := (a6.kp ao)
  refine wc_drawT ([(117, [], [], (fun _ v _ => v = (vp d 3))), (118, [], [0], (fun _ v _ => v = (vs f a.Sn.length g))), (119, [], [], (fun _ v _ => v = (vp d 7))), (120, [], [2], (fun _ v _ => v = (vi a.Epoch))), (121, [], [], (fun _ v _ => v = (vp d 8))), (122, [], [4], (fun _ v _ => v = (vi a.Seq))), (123, [], [], (fun _ v _ => v = (vp d 9))), (124, [], [6], (fun _ v _ => v = (vs C a.Body.length D))), (125, [], [], (fun _ v _ => v = (vp d 10))), (126, [], [8], (fun _ v _ => v = (vs J a.Tag.length K))), (127, [], [0, 1], (fun _ v _ => v = (vp b 3))), (176, [], [0, 1, 10], (fun _ _ w => BK w b 87 3 ([(vs f a.Sn.length g)]))), (128, [], [0, 1, 2, 3, 10, 11], (fun _ v _ => v = (vp b 7))), (178, [], [0, 1, 2, 3, 10, 11, 12], (fun _ _ w => BK w b 87 7 ([(vi a.Epoch)]))), (129, [], [0, 1, 2, 3, 4, 5, 10, 11, 12, 13], (fun _ v _ => v = (vp b 8))), (180, [], [0, 1, 2, 3, 4, 5, 10, 11, 12, 13, 14], (fun _ _ w => BK w b 87 8 ([(vi a.Seq)]))), (130, [], [0, 1, 2, 3, 4, 5, 6, 7, 10, 11, 12, 13, 14, 15], (fun _ v _ => v = (vp b 9))), (182, [], [0, 1, 2, 3, 4, 5, 6, 7, 10, 11, 12, 13, 14, 15, 16], (fun _ _ w => BK w b 87 9 ([(vs C a.Body.length D)])))] : GV) (fun lf o => Ch (fun k => k = b) e o ∧ RK lf o b 87 [(vi a.Kind), (vi 0), (vs none 0 0), (vs none 0 0), (vi 0), (vs none 0 0), (vs none 0 0), (vi 0), (vi 0), (vs none 0 0), (vs none 0 0)] [(11, 3, 1), (13, 7, 1), (15, 8, 1), (17, 9, 1)]) [(11, TK b 87 3 1), (13, TK b 87 7 1), (15, TK b 87 8 1), (17, TK b 87 9 1)] mixed rfl (by kernel_rfl) (by kernel_rfl) ?_ (fun _ _ h => ⟨h.to _, RK.z ci h⟩) (fun _ _ _ _ h mo k => by obtain ⟨hc, m⟩ := h; exact ⟨hc.comp k (fun _ _ q => q.elim), m.kp mo k⟩) ⟨(fun _ _ w o h mo hj t => by obtain ⟨hc, m⟩ := h; exact ⟨hc.comp t.1 (fun _ _ q => q), m.st mo hj (.head _) t⟩), ⟨(fun _ _ w o h mo hj t => by obtain ⟨hc, m⟩ := h; exact ⟨hc.comp t.1 (fun _ _ q => q), m.st mo hj (.tail _ (.head _)) t⟩), ⟨(fun _ _ w o h mo hj t => by obtain ⟨hc, m⟩ := h; exact ⟨hc.comp t.1 (fun _ _ q => q), m.st mo hj (.tail _ (.tail _ (.head _))) t⟩), ⟨(fun _ _ w o h mo hj t => by obtain ⟨hc, m⟩ := h; exact ⟨hc.comp t.1 (fun _ _ q => q), m.st mo hj (.tail _ (.tail _ (.tail _ (.head _)))) t⟩), trivial⟩⟩⟩⟩ ?_ ?_ ?_
  ·exact ⟨hV, hE, ⟨hV, hE, ⟨hV, hE, ⟨hV, hE, ⟨hV, hE, ⟨hV, hE, ⟨hV, hE, ⟨hV, hE, ⟨hV, hE, ⟨hV, hE, ⟨hV, hE, ⟨sK, hE, ⟨hV, hE, ⟨sK, hE, ⟨hV, hE, ⟨sK, hE, ⟨hV, hE, ⟨sK, hE, trivial⟩⟩⟩⟩⟩⟩⟩⟩⟩⟩⟩⟩⟩⟩⟩⟩⟩⟩
  ·exact ⟨⟨.inr hV, ⟨.inr hV, ⟨.inr hV, ⟨.inr hV, ⟨.inr hV, ⟨.inr hV, ⟨.inr hV, ⟨.inr hV, ⟨.inr hV, ⟨.inr hV, ⟨.inr hV, ⟨.inl rfl, ⟨.inr hV, ⟨.inr (sKs 1 (.inl rfl)), ⟨.inr hV, ⟨.inr (sKs 1 (.inl rfl)), ⟨.inr hV, ⟨.inr (sKs 1 (.inl rfl)), trivial⟩⟩⟩⟩⟩⟩⟩⟩⟩⟩⟩⟩⟩⟩⟩⟩⟩⟩, ⟨⟨.inr hV, ⟨.inr hV, ⟨.inr hV, ⟨.inr hV, ⟨.inr hV, ⟨.inr hV, ⟨.inr hV, ⟨.inr hV, ⟨.inr hV, ⟨.inr hV, ⟨.inr hV, ⟨.inr (sKs 1 (.inr rfl)), ⟨.inr hV, ⟨.inl rfl, ⟨.inr hV, ⟨.inr (sKs 1 (.inl rfl)), ⟨.inr hV, ⟨.inr (sKs 1 (.inl rfl)), trivial⟩⟩⟩⟩⟩⟩⟩⟩⟩⟩⟩⟩⟩⟩⟩⟩⟩⟩, ⟨⟨.inr hV, ⟨.inr hV, ⟨.inr hV, ⟨.inr hV, ⟨.inr hV, ⟨.inr hV, ⟨.inr hV, ⟨.inr hV, ⟨.inr hV, ⟨.inr hV, ⟨.inr hV, ⟨.inr (sKs 1 (.inr rfl)), ⟨.inr hV, ⟨.inr (sKs 1 (.inr rfl)), ⟨.inr hV, ⟨.inl rfl, ⟨.inr hV, ⟨.inr (sKs 1 (.inl rfl)), trivial⟩⟩⟩⟩⟩⟩⟩⟩⟩⟩⟩⟩⟩⟩⟩⟩⟩⟩, ⟨⟨.inr hV, ⟨.inr hV, ⟨.inr hV, ⟨.inr hV, ⟨.inr hV, ⟨.inr hV, ⟨.inr hV, ⟨.inr hV, ⟨.inr hV, ⟨.inr hV, ⟨.inr hV, ⟨.inr (sKs 1 (.inr rfl)), ⟨.inr hV, ⟨.inr (sKs 1 (.inr rfl)), ⟨.inr hV, ⟨.inr (sKs 1 (.inr rfl)), ⟨.inr hV, ⟨.inl rfl, trivial⟩⟩⟩⟩⟩⟩⟩⟩⟩⟩⟩⟩⟩⟩⟩⟩⟩⟩, trivial⟩⟩⟩⟩
  ·refine ⟨?_, ⟨?_, ⟨?_, ⟨?_, ⟨?_, ⟨?_, ⟨?_, ⟨?_, ⟨?_, ⟨?_, ⟨?_, ⟨?_, ⟨?_, ⟨?_, ⟨?_, ⟨?_, ⟨?_, ⟨?_, trivial⟩⟩⟩⟩⟩⟩⟩⟩⟩⟩⟩⟩⟩⟩⟩⟩⟩⟩
   ·rintro lf y ⟨eN, eO⟩ ⟨eP, eQ, eR, eS, -⟩
    rintro _ _ _ _ _ _ _ _ _ _ _ _ _ _ _ _ _ _
    show WL _ _ _ _ _ _ _
    refine pu (vp d 3) wN ?_
    exact f1
   ·rintro lf y ⟨cj, eT⟩ ⟨eU, eV, eW, eX, -⟩
    rintro _ rfl _ _ _ _ _ _ _ _ _ _ _ _ _ _ _ _ _
    show WL _ _ _ _ _ _ _
    have ck := ((x.kp ao).ch cj (nN (nL r (l))))
    refine ld (vs f a.Sn.length g) wN isAgg_22 ck ?_
    exact f1
   ·rintro lf y ⟨eY, eZ⟩ ⟨fa, fb, fc, fd, -⟩
    rintro _ _ _ _ _ _ _ _ _ _ _ _ _ _ _ _ _ _
    show WL _ _ _ _ _ _ _
    refine pu (vp d 7) wN ?_
    exact f1
   ·rintro lf y ⟨cm, fe⟩ ⟨ff, fg, fh, fi, -⟩
    rintro _ _ _ rfl _ _ _ _ _ _ _ _ _ _ _ _ _ _ _
    show WL _ _ _ _ _ _ _
    have cn := ((x.kp ao).ch cm (nN (nL r (l))))
    refine ld (vi a.Epoch) wN isAgg_3 cn ?_
    exact f1
   ·rintro lf y ⟨fj, fk⟩ ⟨fl, fm, fo, fp, -⟩
    rintro _ _ _ _ _ _ _ _ _ _ _ _ _ _ _ _ _ _
    show WL _ _ _ _ _ _ _
    refine pu (vp d 8) wN ?_
    exact f1
   ·rintro lf y ⟨co, fq⟩ ⟨fr, fs, ft, fu, -⟩
    rintro _ _ _ _ _ rfl _ _ _ _ _ _ _ _ _ _ _ _ _
    show WL _ _ _ _ _ _ _
    have cp := ((x.kp ao).ch co (nN (nL r (l))))
    refine ld (vi a.Seq) wN isAgg_3 cp ?_
    exact f1
   ·rintro lf y ⟨fv, fw⟩ ⟨fx, fy, fz, f0, -⟩
    rintro _ _ _ _ _ _ _ _ _ _ _ _ _ _ _ _ _ _
    show WL _ _ _ _ _ _ _
    refine pu (vp d 9) wN ?_
    exact f1
   ·rintro lf y ⟨cq, f3⟩ ⟨f4, f5, f6, f7, -⟩
    rintro _ _ _ _ _ _ _ rfl _ _ _ _ _ _ _ _ _ _ _
    show WL _ _ _ _ _ _ _
    have cr := ((x.kp ao).ch cq (nN (nL r (l))))
    refine ld (vs C a.Body.length D) wN isAgg_22 cr ?_
    exact f1
   ·rintro lf y ⟨f8, f9⟩ ⟨fA, fB, fC, fD, -⟩
    rintro _ _ _ _ _ _ _ _ _ _ _ _ _ _ _ _ _ _
    show WL _ _ _ _ _ _ _
    refine pu (vp d 10) wN ?_
    exact f1
   ·rintro lf y ⟨cs, fE⟩ ⟨fF, fG, fH, fI, -⟩
    rintro _ _ _ _ _ _ _ _ _ rfl _ _ _ _ _ _ _ _ _
    show WL _ _ _ _ _ _ _
    have cu := ((x.kp ao).ch cs (nN (nL r (l))))
    refine ld (vs J a.Tag.length K) wN isAgg_22 cu ?_
    exact f1
   ·rintro lf y ⟨fJ, fK⟩ ⟨fL, fM, fN, fO, -⟩
    rintro _ rfl _ rfl _ _ _ _ _ _ _ _ _ _ _ _ _ _ _ _
    show WL _ _ _ _ _ _ _
    refine pu (vp b 3) wN ?_
    exact f1
   ·rintro lf y ⟨fP, cv⟩ ⟨fQ, fR, fS, fT, -⟩
    rintro _ rfl _ rfl _ _ _ _ _ _ _ _ _ rfl _ _ _ _ _ _ _
    show WL _ _ _ _ _ _ _
    exact stK (vs f a.Sn.length g) [(vs f a.Sn.length g)] wN sizeOf_22 cv (fun _ h => h) (fun _ t => t)
   ·rintro lf y ⟨fU, fV⟩ ⟨fW, fX, fY, fZ, -⟩
    rintro _ rfl _ rfl _ rfl _ rfl _ _ _ _ _ _ _ rfl _ _ _ _ _ _ _ _
    show WL _ _ _ _ _ _ _
    refine pu (vp b 7) wN ?_
    exact f1
   ·rintro lf y ⟨ga, cw⟩ ⟨gb, gc, gd, ge, -⟩
    rintro _ rfl _ rfl _ rfl _ rfl _ _ _ _ _ _ _ rfl _ _ _ rfl _ _ _ _ _
    show WL _ _ _ _ _ _ _
    exact stK (vi a.Epoch) [(vi a.Epoch)] wN sizeOf_3 cw (fun _ h => h) (fun _ t => t)
   ·rintro lf y ⟨gf, gg⟩ ⟨gh, gi, gj, gk, -⟩
    rintro _ rfl _ rfl _ rfl _ rfl _ rfl _ rfl _ _ _ _ _ rfl _ _ _ rfl _ _ _ _ _ _
    show WL _ _ _ _ _ _ _
    refine pu (vp b 8) wN ?_
    exact f1
   ·rintro lf y ⟨gl, cx⟩ ⟨gm, gn, gp, gq, -⟩
    rintro _ rfl _ rfl _ rfl _ rfl _ rfl _ rfl _ _ _ _ _ rfl _ _ _ rfl _ _ _ rfl _ _ _
    show WL _ _ _ _ _ _ _
    exact stK (vi a.Seq) [(vi a.Seq)] wN sizeOf_3 cx (fun _ h => h) (fun _ t => t)
   ·rintro lf y ⟨gr, gs⟩ ⟨gt, gu, gv, gw, -⟩
    rintro _ rfl _ rfl _ rfl _ rfl _ rfl _ rfl _ rfl _ rfl _ _ _ rfl _ _ _ rfl _ _ _ rfl _ _ _ _
    show WL _ _ _ _ _ _ _
    refine pu (vp b 9) wN ?_
    exact f1
   ·rintro lf y ⟨gx, cy⟩ ⟨gy, gz, g0, g1, -⟩
    rintro _ rfl _ rfl _ rfl _ rfl _ rfl _ rfl _ rfl _ rfl _ _ _ rfl _ _ _ rfl _ _ _ rfl _ _ _ rfl _
    show WL _ _ _ _ _ _ _
    exact stK (vs C a.Body.length D) [(vs C a.Body.length D)] wN sizeOf_22 cy (fun _ h => h) (fun _ t => t)
  ·rintro lf y ⟨bk, cz⟩
   have c0 := bj.ext bk (fun k hk => by subst hk; exact nT af.size l)
   rintro _ rfl _ rfl _ rfl _ rfl _ rfl _ rfl _ rfl _ rfl _ rfl _ rfl _ rfl _ c1 _ rfl _ c2 _ rfl _ c3 _ rfl _ c4
   have c5 : Blk y b 87 [(vi a.Kind), (vi 0), (vs none 0 0), (vs f a.Sn.length g), (vi 0), (vs none 0 0), (vs none 0 0), (vi a.Epoch), (vi a.Seq), (vs C a.Body.length D), (vs none 0 0)] := RK.fin cz [(3, [(vs f a.Sn.length g)]), (7, [(vi a.Epoch)]), (8, [(vi a.Seq)]), (9, [(vs C a.Body.length D)])] ⟨c1, c2, c3, c4, trivial⟩
   show WL _ _ _ _ _ _ _
   refine pu (vp b 10) wN ?_
   refine st (vs J a.Tag.length K) [(vs J a.Tag.length K)] [(vi a.Kind), (vi 0), (vs none 0 0), (vs f a.Sn.length g), (vi 0), (vs none 0 0), (vs none 0 0), (vi a.Epoch), (vi a.Seq), (vs C a.Body.length D), (vs J a.Tag.length K)] wN sizeOf_22 c5 ?_
   intro ap bl c6 g2
   have bm := c0.ext bl (fun k hk => by subst hk; exact nT af.size l)
   refine wl_nil <| wq_then <| wc_region ?_
   refine pu (vp d 3) wN ?_
   have bn := (((x.kp ao).ch bk (nN (nL r (l)))).ch bl (nN (nL r (l))))
   refine ld (vs f a.Sn.length g) wN isAgg_22 bn ?_
   refine cl wN (ciisNonce ap _ a.Sn (mR_22 (ad.from0 bm) ae)) ?_
   rintro _ an ⟨aG, rfl⟩
   have bo := bm.extk aG
   refine mw (vb (i_isNonce a.Sn)) ?_
   rcases bf (i_isNonce a.Sn) with Q | Q
   ·iterate 3 refine sk Q ?_
    refine pf (vb false) wN Q ?_
    refine mw (vb false) ?_
    iterate 3 refine sk (Eq.refl false) ?_
    refine pf (vb false) wN (Eq.refl false) ?_
    refine mw (vb false) ?_
    iterate 4 refine sk (Eq.refl false) ?_
    refine pf (vb false) wN (Eq.refl false) ?_
    refine mw (vb false) ?_
    iterate 6 refine sk (Eq.refl false) ?_
    refine pf (vb false) wN (Eq.refl false) ?_
    refine aw (vb false) ?_
    refine wl_nil <| wq_blk_normal <| wq_then <| sr ?_
    refine mw (vb false) ?_
    refine mw (vb false) ?_
    iterate 3 refine sk (Eq.refl false) ?_
    refine pf (vb false) wN (Eq.refl false) ?_
    refine aw (vb false) ?_
    refine n3 ?_
    refine rt (vb false) ?_
    refine ⟨bo.keep0, ?_⟩
    simp only [i_FrameOk, p, A, B, ah, Q, cond_true, cond_false]
    exact rfl
   refine pu (vp d 7) (wS Q) ?_
   have bp := (bn.kp aG)
   refine ld (vi a.Epoch) (wS Q) isAgg_3 bp ?_
   refine cl (wS Q) (ciwithin an a.Epoch 0 4294967295) ?_
   rintro _ aq ⟨aH, rfl⟩
   have bq := bo.extk aH
   refine pk (vb (i_within a.Epoch 0 4294967295)) wN Q ?_
   refine mw (vb (i_within a.Epoch 0 4294967295)) ?_
   rcases bf (i_within a.Epoch 0 4294967295) with L | L
   ·have g3 := impl_within_f L
    iterate 3 refine sk L ?_
    refine pf (vb false) wN L ?_
    refine mw (vb false) ?_
    iterate 4 refine sk (Eq.refl false) ?_
    refine pf (vb false) wN (Eq.refl false) ?_
    refine mw (vb false) ?_
    iterate 6 refine sk (Eq.refl false) ?_
    refine pf (vb false) wN (Eq.refl false) ?_
    refine aw (vb false) ?_
    refine wl_nil <| wq_blk_normal <| wq_then <| sr ?_
    refine mw (vb false) ?_
    refine mw (vb false) ?_
    iterate 3 refine sk (Eq.refl false) ?_
    refine pf (vb false) wN (Eq.refl false) ?_
    refine aw (vb false) ?_
    refine n3 ?_
    refine rt (vb false) ?_
    refine ⟨bq.keep0, ?_⟩
    simp only [i_FrameOk, p, A, B, ah, Q, L, cond_true, cond_false]
    exact rfl
   have g4 := impl_within_t L
   refine pu (vp d 8) (wS L) ?_
   have br := (bp.kp aH)
   refine ld (vi a.Seq) (wS L) isAgg_3 br ?_
   refine cl (wS L) (ciwithin aq a.Seq 0 281474976710655) ?_
   rintro _ a3 ⟨aI, rfl⟩
   have a4 := bq.extk aI
   refine pk (vb (i_within a.Seq 0 281474976710655)) wN L ?_
   refine mw (vb (i_within a.Seq 0 281474976710655)) ?_
   rcases bf (i_within a.Seq 0 281474976710655) with M | M
   ·have g5 := impl_within_f M
    iterate 4 refine sk M ?_
    refine pf (vb false) wN M ?_
    refine mw (vb false) ?_
    iterate 6 refine sk (Eq.refl false) ?_
    refine pf (vb false) wN (Eq.refl false) ?_
    refine aw (vb false) ?_
    refine wl_nil <| wq_blk_normal <| wq_then <| sr ?_
    refine mw (vb false) ?_
    refine mw (vb false) ?_
    iterate 3 refine sk (Eq.refl false) ?_
    refine pf (vb false) wN (Eq.refl false) ?_
    refine aw (vb false) ?_
    refine n3 ?_
    refine rt (vb false) ?_
    refine ⟨a4.keep0, ?_⟩
    simp only [i_FrameOk, p, A, B, ah, Q, L, M, cond_true, cond_false]
    exact rfl
   have g6 := impl_within_t M
   refine pu (vp d 10) (wS M) ?_
   have a8 := (br.kp aI)
   refine ld (vs J a.Tag.length K) (wS M) isAgg_22 a8 ?_
   refine ln (wS M) slTy_22 (ay.from0 a4) ?_
   refine pu (vb (decide ((a.Tag.length : Int) = 16))) (wS M) ?_
   refine pk (vb (decide ((a.Tag.length : Int) = 16))) wN M ?_
   refine mw (vb (decide ((a.Tag.length : Int) = 16))) ?_
   rcases bf (decide ((a.Tag.length : Int) = 16)) with G | G
   ·have g7 := dF G
    iterate 6 refine sk G ?_
    refine pf (vb false) wN G ?_
    refine aw (vb false) ?_
    refine wl_nil <| wq_blk_normal <| wq_then <| sr ?_
    refine mw (vb false) ?_
    refine mw (vb false) ?_
    iterate 3 refine sk (Eq.refl false) ?_
    refine pf (vb false) wN (Eq.refl false) ?_
    refine aw (vb false) ?_
    refine n3 ?_
    refine rt (vb false) ?_
    refine ⟨a4.keep0, ?_⟩
    simp only [i_FrameOk, p, A, B, ah, Q, L, M, G, cond_true, cond_false]
    exact rfl
   have g8 := dT G
   refine pu (vp d 0) (wS G) ?_
   refine ld (vi a.Kind) (wS G) isAgg_3 a8 ?_
   refine pu (vp d 9) (wS G) ?_
   refine ld (vs C a.Body.length D) (wS G) isAgg_22 a8 ?_
   refine ln (wS G) slTy_22 (ax.from0 a4) ?_
   refine cl (wS G) (cibodyOk a3 a.Kind (a.Body.length : Int)) ?_
   rintro _ aJ ⟨aK, rfl⟩
   have Z := a4.extk aK
   refine pk (vb (i_bodyOk a.Kind (a.Body.length : Int))) wN G ?_
   refine aw (vb (i_bodyOk a.Kind (a.Body.length : Int))) ?_
   refine wl_nil <| wq_blk_normal <| wq_then <| sr ?_
   refine mw (vb (i_bodyOk a.Kind (a.Body.length : Int))) ?_
   refine mw (vb (i_bodyOk a.Kind (a.Body.length : Int))) ?_
   rcases bf (i_bodyOk a.Kind (a.Body.length : Int)) with ak | ak
   ·iterate 3 refine sk ak ?_
    refine pf (vb false) wN ak ?_
    refine aw (vb false) ?_
    refine n3 ?_
    refine rt (vb false) ?_
    refine ⟨Z.keep0, ?_⟩
    simp only [i_FrameOk, p, A, B, ah, Q, L, M, G, ak, cond_true, cond_false]
    exact rfl
   have c7 := (a8.kp aK)
   refine lN (L_87 a i j f g s u H I C D J K) (wS ak) isAgg_87 sizeOf_87 c7 ?_
   have c8 := ((((c6.kp aG).kp aH).kp aI).kp aK)
   refine lN [(vi a.Kind), (vi 0), (vs none 0 0), (vs f a.Sn.length g), (vi 0), (vs none 0 0), (vs none 0 0), (vi a.Epoch), (vi a.Seq), (vs C a.Body.length D), (vs J a.Tag.length K)] (wS ak) isAgg_87 sizeOf_87 c8 ?_
   refine cl (wS ak) (cisameFrame aJ _ a (mR_87 (ab.from0 Z) ac (ad.from0 Z) ae (am.from0 Z) au (av.from0 Z) a0 (ax.from0 Z) a1 (ay.from0 Z) a2) _ _ (show R_87 aJ (va [(vi a.Kind), (vi 0), (vs none 0 0), (vs f a.Sn.length g), (vi 0), (vs none 0 0), (vs none 0 0), (vi a.Epoch), (vi a.Seq), (vs C a.Body.length D), (vs J a.Tag.length K)]) { Kind := a.Kind, Id := 0, Cn := [], Sn := a.Sn, Tick := 0, Cookie := [], Proof := [], Epoch := a.Epoch, Seq := a.Seq, Body := a.Body, Tag := a.Tag : PFrame } from ⟨_, _, _, _, _, _, _, _, _, _, _, _, rfl, (Rd.nil _ _), (by simp), (ad.from0 Z), ae, (Rd.nil _ _), (by simp), (Rd.nil _ _), (by simp), (ax.from0 Z), a1, (ay.from0 Z), a2⟩)) ?_
   rintro _ g9 ⟨c9, rfl⟩
   have cC := Z.extk c9
   refine pk (vb (i_sameFrame a { Kind := a.Kind, Id := 0, Cn := [], Sn := a.Sn, Tick := 0, Cookie := [], Proof := [], Epoch := a.Epoch, Seq := a.Seq, Body := a.Body, Tag := a.Tag : PFrame })) wN ak ?_
   refine aw (vb (i_sameFrame a { Kind := a.Kind, Id := 0, Cn := [], Sn := a.Sn, Tick := 0, Cookie := [], Proof := [], Epoch := a.Epoch, Seq := a.Seq, Body := a.Body, Tag := a.Tag : PFrame })) ?_
   refine n3 ?_
   refine rt (vb (i_sameFrame a { Kind := a.Kind, Id := 0, Cn := [], Sn := a.Sn, Tick := 0, Cookie := [], Proof := [], Epoch := a.Epoch, Seq := a.Seq, Body := a.Body, Tag := a.Tag : PFrame })) ?_
   refine ⟨cC.keep0, ?_⟩
   simp only [i_FrameOk, p, A, B, ah, Q, L, M, G, ak, cond_true, cond_false]
   exact rfl
 have gA := dT B
 refine ct B ?_
 refine wc_seq ?_
 refine wc_drawT ([(65, [], [], (fun _ v _ => v = (vp d 1))), (66, [], [0], (fun _ v _ => v = (vi a.Id))), (67, [], [], (fun _ v _ => v = (vp d 2))), (68, [], [2], (fun _ v _ => v = (vs i a.Cn.length j))), (69, [], [], (fun _ v _ => v = (vp d 3))), (70, [], [4], (fun _ v _ => v = (vs f a.Sn.length g))), (71, [], [], (fun _ v _ => v = (vp d 4))), (72, [], [6], (fun _ v _ => v = (vi a.Tick))), (73, [], [], (fun _ v _ => v = (vp d 5))), (74, [], [8], (fun _ v _ => v = (vs s a.Cookie.length u))), (75, [], [], (fun _ v _ => v = (vp d 6))), (76, [], [10], (fun _ v _ => v = (vs H a.Proof.length I))), (77, [], [0, 1], (fun _ v _ => v = (vp b 1))), (178, [], [0, 1, 12], (fun _ _ w => BK w b 87 1 ([(vi a.Id)]))), (78, [], [0, 1, 2, 3, 12, 13], (fun _ v _ => v = (vp b 2))), (180, [], [0, 1, 2, 3, 12, 13, 14], (fun _ _ w => BK w b 87 2 ([(vs i a.Cn.length j)]))), (79, [], [0, 1, 2, 3, 4, 5, 12, 13, 14, 15], (fun _ v _ => v = (vp b 3))), (182, [], [0, 1, 2, 3, 4, 5, 12, 13, 14, 15, 16], (fun _ _ w => BK w b 87 3 ([(vs f a.Sn.length g)]))), (80, [], [0, 1, 2, 3, 4, 5, 6, 7, 12, 13, 14, 15, 16, 17], (fun _ v _ => v = (vp b 4))), (184, [], [0, 1, 2, 3, 4, 5, 6, 7, 12, 13, 14, 15, 16, 17, 18], (fun _ _ w => BK w b 87 4 ([(vi a.Tick)]))), (81, [], [0, 1, 2, 3, 4, 5, 6, 7, 8, 9, 12, 13, 14, 15, 16, 17, 18, 19], (fun _ v _ => v = (vp b 5))), (186, [], [0, 1, 2, 3, 4, 5, 6, 7, 8, 9, 12, 13, 14, 15, 16, 17, 18, 19, 20], (fun _ _ w => BK w b 87 5 ([(vs s a.Cookie.length u)])))] : GV) (fun lf o => Ch (fun k => k = b) a5 o ∧ RK lf o b 87 [(vi a.Kind), (vi 0), (vs none 0 0), (vs none 0 0), (vi 0), (vs none 0 0), (vs none 0 0), (vi 0), (vi 0), (vs none 0 0), (vs none 0 0)] [(13, 1, 1), (15, 2, 1), (17, 3, 1), (19, 4, 1), (21, 5, 1)]) [(13, TK b 87 1 1), (15, TK b 87 2 1), (17, TK b 87 3 1), (19, TK b 87 4 1), (21, TK b 87 5 1)] mixed rfl (by kernel_rfl) (by kernel_rfl) ?_ (fun _ _ h => ⟨h.to _, RK.z a6 h⟩) (fun _ _ _ _ h mo k => by obtain ⟨hc, m⟩ := h; exact ⟨hc.comp k (fun _ _ q => q.elim), m.kp mo k⟩) ⟨(fun _ _ w o h mo hj t => by obtain ⟨hc, m⟩ := h; exact ⟨hc.comp t.1 (fun _ _ q => q), m.st mo hj (.head _) t⟩), ⟨(fun _ _ w o h mo hj t => by obtain ⟨hc, m⟩ := h; exact ⟨hc.comp t.1 (fun _ _ q => q), m.st mo hj (.tail _ (.head _)) t⟩), ⟨(fun _ _ w o h mo hj t => by obtain ⟨hc, m⟩ := h; exact ⟨hc.comp t.1 (fun _ _ q => q), m.st mo hj (.tail _ (.tail _ (.head _))) t⟩), ⟨(fun _ _ w o h mo hj t => by obtain ⟨hc, m⟩ := h; exact ⟨hc.comp t.1 (fun _ _ q => q), m.st mo hj (.tail _ (.tail _ (.tail _ (.head _)))) t⟩), ⟨(fun _ _ w o h mo hj t => by obtain ⟨hc, m⟩ := h; exact ⟨hc.comp t.1 (fun _ _ q => q), m.st mo hj (.tail _ (.tail _ (.tail _ (.tail _ (.head _))))) t⟩), trivial⟩⟩⟩⟩⟩ ?_ ?_ ?_
 ·exact ⟨hV, hE, ⟨hV, hE, ⟨hV, hE, ⟨hV, hE, ⟨hV, hE, ⟨hV, hE, ⟨hV, hE, ⟨hV, hE, ⟨hV, hE, ⟨hV, hE, ⟨hV, hE, ⟨hV, hE, ⟨hV, hE, ⟨sK, hE, ⟨hV, hE, ⟨sK, hE, ⟨hV, hE, ⟨sK, hE, ⟨hV, hE, ⟨sK, hE, ⟨hV, hE, ⟨sK, hE, trivial⟩⟩⟩⟩⟩⟩⟩⟩⟩⟩⟩⟩⟩⟩⟩⟩⟩⟩⟩⟩⟩⟩
 ·exact ⟨⟨.inr hV, ⟨.inr hV, ⟨.inr hV, ⟨.inr hV, ⟨.inr hV, ⟨.inr hV, ⟨.inr hV, ⟨.inr hV, ⟨.inr hV, ⟨.inr hV, ⟨.inr hV, ⟨.inr hV, ⟨.inr hV, ⟨.inl rfl, ⟨.inr hV, ⟨.inr (sKs 1 (.inl rfl)), ⟨.inr hV, ⟨.inr (sKs 1 (.inl rfl)), ⟨.inr hV, ⟨.inr (sKs 1 (.inl rfl)), ⟨.inr hV, ⟨.inr (sKs 1 (.inl rfl)), trivial⟩⟩⟩⟩⟩⟩⟩⟩⟩⟩⟩⟩⟩⟩⟩⟩⟩⟩⟩⟩⟩⟩, ⟨⟨.inr hV, ⟨.inr hV, ⟨.inr hV, ⟨.inr hV, ⟨.inr hV, ⟨.inr hV, ⟨.inr hV, ⟨.inr hV, ⟨.inr hV, ⟨.inr hV, ⟨.inr hV, ⟨.inr hV, ⟨.inr hV, ⟨.inr (sKs 1 (.inr rfl)), ⟨.inr hV, ⟨.inl rfl, ⟨.inr hV, ⟨.inr (sKs 1 (.inl rfl)), ⟨.inr hV, ⟨.inr (sKs 1 (.inl rfl)), ⟨.inr hV, ⟨.inr (sKs 1 (.inl rfl)), trivial⟩⟩⟩⟩⟩⟩⟩⟩⟩⟩⟩⟩⟩⟩⟩⟩⟩⟩⟩⟩⟩⟩, ⟨⟨.inr hV, ⟨.inr hV, ⟨.inr hV, ⟨.inr hV, ⟨.inr hV, ⟨.inr hV, ⟨.inr hV, ⟨.inr hV, ⟨.inr hV, ⟨.inr hV, ⟨.inr hV, ⟨.inr hV, ⟨.inr hV, ⟨.inr (sKs 1 (.inr rfl)), ⟨.inr hV, ⟨.inr (sKs 1 (.inr rfl)), ⟨.inr hV, ⟨.inl rfl, ⟨.inr hV, ⟨.inr (sKs 1 (.inl rfl)), ⟨.inr hV, ⟨.inr (sKs 1 (.inl rfl)), trivial⟩⟩⟩⟩⟩⟩⟩⟩⟩⟩⟩⟩⟩⟩⟩⟩⟩⟩⟩⟩⟩⟩, ⟨⟨.inr hV, ⟨.inr hV, ⟨.inr hV, ⟨.inr hV, ⟨.inr hV, ⟨.inr hV, ⟨.inr hV, ⟨.inr hV, ⟨.inr hV, ⟨.inr hV, ⟨.inr hV, ⟨.inr hV, ⟨.inr hV, ⟨.inr (sKs 1 (.inr rfl)), ⟨.inr hV, ⟨.inr (sKs 1 (.inr rfl)), ⟨.inr hV, ⟨.inr (sKs 1 (.inr rfl)), ⟨.inr hV, ⟨.inl rfl, ⟨.inr hV, ⟨.inr (sKs 1 (.inl rfl)), trivial⟩⟩⟩⟩⟩⟩⟩⟩⟩⟩⟩⟩⟩⟩⟩⟩⟩⟩⟩⟩⟩⟩, ⟨⟨.inr hV, ⟨.inr hV, ⟨.inr hV, ⟨.inr hV, ⟨.inr hV, ⟨.inr hV, ⟨.inr hV, ⟨.inr hV, ⟨.inr hV, ⟨.inr hV, ⟨.inr hV, ⟨.inr hV, ⟨.inr hV, ⟨.inr (sKs 1 (.inr rfl)), ⟨.inr hV, ⟨.inr (sKs 1 (.inr rfl)), ⟨.inr hV, ⟨.inr (sKs 1 (.inr rfl)), ⟨.inr hV, ⟨.inr (sKs 1 (.inr rfl)), ⟨.inr hV, ⟨.inl rfl, trivial⟩⟩⟩⟩⟩⟩⟩⟩⟩⟩⟩⟩⟩⟩⟩⟩⟩⟩⟩⟩⟩⟩, trivial⟩⟩⟩⟩⟩
 ·refine ⟨?_, ⟨?_, ⟨?_, ⟨?_, ⟨?_, ⟨?_, ⟨?_, ⟨?_, ⟨?_, ⟨?_, ⟨?_, ⟨?_, ⟨?_, ⟨?_, ⟨?_, ⟨?_, ⟨?_, ⟨?_, ⟨?_, ⟨?_, ⟨?_, ⟨?_, trivial⟩⟩⟩⟩⟩⟩⟩⟩⟩⟩⟩⟩⟩⟩⟩⟩⟩⟩⟩⟩⟩⟩
  ·rintro lf e ⟨gB, gC⟩ ⟨gD, gE, gF, gG, gH, -⟩
   rintro _ _ _ _ _ _ _ _ _ _ _ _ _ _ _ _ _ _ _ _ _ _
   show WL _ _ _ _ _ _ _
   refine pu (vp d 1) wN ?_
   exact f1
  ·rintro lf e ⟨cD, gI⟩ ⟨gJ, gK, gL, gM, gN, -⟩
   rintro _ rfl _ _ _ _ _ _ _ _ _ _ _ _ _ _ _ _ _ _ _ _ _
   show WL _ _ _ _ _ _ _
   have cE := (x.ch cD (nN (nL r (l))))
   refine ld (vi a.Id) wN isAgg_3 cE ?_
   exact f1
  ·rintro lf e ⟨gO, gP⟩ ⟨gQ, gR, gS, gT, gU, -⟩
   rintro _ _ _ _ _ _ _ _ _ _ _ _ _ _ _ _ _ _ _ _ _ _
   show WL _ _ _ _ _ _ _
   refine pu (vp d 2) wN ?_
   exact f1
  ·rintro lf e ⟨cF, gV⟩ ⟨gW, gX, gY, gZ, ha, -⟩
   rintro _ _ _ rfl _ _ _ _ _ _ _ _ _ _ _ _ _ _ _ _ _ _ _
   show WL _ _ _ _ _ _ _
   have cG := (x.ch cF (nN (nL r (l))))
   refine ld (vs i a.Cn.length j) wN isAgg_22 cG ?_
   exact f1
  ·rintro lf e ⟨hb, hd⟩ ⟨he, hf, hg, hh, hi, -⟩
   rintro _ _ _ _ _ _ _ _ _ _ _ _ _ _ _ _ _ _ _ _ _ _
   show WL _ _ _ _ _ _ _
   refine pu (vp d 3) wN ?_
   exact f1
  ·rintro lf e ⟨cH, hl⟩ ⟨hm, hn, ho, hp, hq, -⟩
   rintro _ _ _ _ _ rfl _ _ _ _ _ _ _ _ _ _ _ _ _ _ _ _ _
   show WL _ _ _ _ _ _ _
   have cI := (x.ch cH (nN (nL r (l))))
   refine ld (vs f a.Sn.length g) wN isAgg_22 cI ?_
   exact f1
  ·rintro lf e ⟨hr, hs⟩ ⟨ht, hu, hv, hw, hx, -⟩
   rintro _ _ _ _ _ _ _ _ _ _ _ _ _ _ _ _ _ _ _ _ _ _
   show WL _ _ _ _ _ _ _
   refine pu (vp d 4) wN ?_
   exact f1
  ·rintro lf e ⟨cJ, hy⟩ ⟨hz, h0, h1, h2, h3, -⟩
   rintro _ _ _ _ _ _ _ rfl _ _ _ _ _ _ _ _ _ _ _ _ _ _ _
   show WL _ _ _ _ _ _ _
   have cK := (x.ch cJ (nN (nL r (l))))
   refine ld (vi a.Tick) wN isAgg_3 cK ?_
   exact f1
  ·rintro lf e ⟨h4, h5⟩ ⟨h6, h7, h8, h9, hA, -⟩
   rintro _ _ _ _ _ _ _ _ _ _ _ _ _ _ _ _ _ _ _ _ _ _
   show WL _ _ _ _ _ _ _
   refine pu (vp d 5) wN ?_
   exact f1
  ·rintro lf e ⟨cL, hB⟩ ⟨hC, hD, hF, hG, hH, -⟩
   rintro _ _ _ _ _ _ _ _ _ rfl _ _ _ _ _ _ _ _ _ _ _ _ _
   show WL _ _ _ _ _ _ _
   have cM := (x.ch cL (nN (nL r (l))))
   refine ld (vs s a.Cookie.length u) wN isAgg_22 cM ?_
   exact f1
  ·rintro lf e ⟨hI, hJ⟩ ⟨hK, hL, hM, hN, hO, -⟩
   rintro _ _ _ _ _ _ _ _ _ _ _ _ _ _ _ _ _ _ _ _ _ _
   show WL _ _ _ _ _ _ _
   refine pu (vp d 6) wN ?_
   exact f1
  ·rintro lf e ⟨cN, hP⟩ ⟨hQ, hR, hS, hT, hU, -⟩
   rintro _ _ _ _ _ _ _ _ _ _ _ rfl _ _ _ _ _ _ _ _ _ _ _
   show WL _ _ _ _ _ _ _
   have cO := (x.ch cN (nN (nL r (l))))
   refine ld (vs H a.Proof.length I) wN isAgg_22 cO ?_
   exact f1
  ·rintro lf e ⟨hW, hX⟩ ⟨hY, hZ, ia, ib, ic, -⟩
   rintro _ rfl _ rfl _ _ _ _ _ _ _ _ _ _ _ _ _ _ _ _ _ _ _ _
   show WL _ _ _ _ _ _ _
   refine pu (vp b 1) wN ?_
   exact f1
  ·rintro lf e ⟨ie, cP⟩ ⟨ig, ih, ii, ij, ik, -⟩
   rintro _ rfl _ rfl _ _ _ _ _ _ _ _ _ _ _ rfl _ _ _ _ _ _ _ _ _
   show WL _ _ _ _ _ _ _
   exact stK (vi a.Id) [(vi a.Id)] wN sizeOf_3 cP (fun _ h => h) (fun _ t => t)
  ·rintro lf e ⟨il, im⟩ ⟨io, ip, iq, ir, it, -⟩
   rintro _ rfl _ rfl _ rfl _ rfl _ _ _ _ _ _ _ _ _ rfl _ _ _ _ _ _ _ _ _ _
   show WL _ _ _ _ _ _ _
   refine pu (vp b 2) wN ?_
   exact f1
  ·rintro lf e ⟨iu, cQ⟩ ⟨iv, iw, iy, iz, i0, -⟩
   rintro _ rfl _ rfl _ rfl _ rfl _ _ _ _ _ _ _ _ _ rfl _ _ _ rfl _ _ _ _ _ _ _
   show WL _ _ _ _ _ _ _
   exact stK (vs i a.Cn.length j) [(vs i a.Cn.length j)] wN sizeOf_22 cQ (fun _ h => h) (fun _ t => t)
  ·rintro lf e ⟨i1, i2⟩ ⟨i3, i4, i5, i6, i7, -⟩
   rintro _ rfl _ rfl _ rfl _ rfl _ rfl _ rfl _ _ _ _ _ _ _ rfl _ _ _ rfl _ _ _ _ _ _ _ _
   show WL _ _ _ _ _ _ _
   refine pu (vp b 3) wN ?_
   exact f1
  ·rintro lf e ⟨i8, cR⟩ ⟨i9, iA, iB, iC, iD, -⟩
   rintro _ rfl _ rfl _ rfl _ rfl _ rfl _ rfl _ _ _ _ _ _ _ rfl _ _ _ rfl _ _ _ rfl _ _ _ _ _
   show WL _ _ _ _ _ _ _
   exact stK (vs f a.Sn.length g) [(vs f a.Sn.length g)] wN sizeOf_22 cR (fun _ h => h) (fun _ t => t)
  ·rintro lf e ⟨iE, iF⟩ ⟨iG, iH, iI, iJ, iK, -⟩
   rintro _ rfl _ rfl _ rfl _ rfl _ rfl _ rfl _ rfl _ rfl _ _ _ _ _ rfl _ _ _ rfl _ _ _ rfl _ _ _ _ _ _
   show WL _ _ _ _ _ _ _
   refine pu (vp b 4) wN ?_
   exact f1
  ·rintro lf e ⟨iL, cS⟩ ⟨iM, iN, iO, iP, iQ, -⟩
   rintro _ rfl _ rfl _ rfl _ rfl _ rfl _ rfl _ rfl _ rfl _ _ _ _ _ rfl _ _ _ rfl _ _ _ rfl _ _ _ rfl _ _ _
   show WL _ _ _ _ _ _ _
   exact stK (vi a.Tick) [(vi a.Tick)] wN sizeOf_3 cS (fun _ h => h) (fun _ t => t)
  ·rintro lf e ⟨iR, iS⟩ ⟨iT, iU, iW, iX, iY, -⟩
   rintro _ rfl _ rfl _ rfl _ rfl _ rfl _ rfl _ rfl _ rfl _ rfl _ rfl _ _ _ rfl _ _ _ rfl _ _ _ rfl _ _ _ rfl _ _ _ _
   show WL _ _ _ _ _ _ _
   refine pu (vp b 5) wN ?_
   exact f1
  ·rintro lf e ⟨iZ, cT⟩ ⟨ja, jb, jc, jd, je, -⟩
   rintro _ rfl _ rfl _ rfl _ rfl _ rfl _ rfl _ rfl _ rfl _ rfl _ rfl _ _ _ rfl _ _ _ rfl _ _ _ rfl _ _ _ rfl _ _ _ rfl _
   show WL _ _ _ _ _ _ _
   exact stK (vs s a.Cookie.length u) [(vs s a.Cookie.length u)] wN sizeOf_22 cT (fun _ h => h) (fun _ t => t)
 ·rintro lf e ⟨bu, cU⟩
  have cV := a7.ext bu (fun k hk => by subst hk; exact nT af.size l)
  rintro _ rfl _ rfl _ rfl _ rfl _ rfl _ rfl _ rfl _ rfl _ rfl _ rfl _ rfl _ rfl _ rfl _ cW _ rfl _ cX _ rfl _ cY _ rfl _ cZ _ rfl _ da
  have db : Blk e b 87 [(vi a.Kind), (vi a.Id), (vs i a.Cn.length j), (vs f a.Sn.length g), (vi a.Tick), (vs s a.Cookie.length u), (vs none 0 0), (vi 0), (vi 0), (vs none 0 0), (vs none 0 0)] := RK.fin cU [(1, [(vi a.Id)]), (2, [(vs i a.Cn.length j)]), (3, [(vs f a.Sn.length g)]), (4, [(vi a.Tick)]), (5, [(vs s a.Cookie.length u)])] ⟨cW, cX, cY, cZ, da, trivial⟩
  show WL _ _ _ _ _ _ _
  refine pu (vp b 6) wN ?_
  refine st (vs H a.Proof.length I) [(vs H a.Proof.length I)] [(vi a.Kind), (vi a.Id), (vs i a.Cn.length j), (vs f a.Sn.length g), (vi a.Tick), (vs s a.Cookie.length u), (vs H a.Proof.length I), (vi 0), (vi 0), (vs none 0 0), (vs none 0 0)] wN sizeOf_22 db ?_
  intro y bv dc jf
  have dd := cV.ext bv (fun k hk => by subst hk; exact nT af.size l)
  refine wl_nil <| wq_then <| wc_region ?_
  refine pu (vp d 1) wN ?_
  have bw := ((x.ch bu (nN (nL r (l)))).ch bv (nN (nL r (l))))
  refine ld (vi a.Id) wN isAgg_3 bw ?_
  refine cl wN (ciwithin y a.Id 1 9) ?_
  rintro _ ap ⟨aL, rfl⟩
  have aM := dd.extk aL
  refine mw (vb (i_within a.Id 1 9)) ?_
  rcases bf (i_within a.Id 1 9) with E | E
  ·have jg := impl_within_f E
   iterate 3 refine sk E ?_
   refine pf (vb false) wN E ?_
   refine mw (vb false) ?_
   iterate 3 refine sk (Eq.refl false) ?_
   refine pf (vb false) wN (Eq.refl false) ?_
   refine mw (vb false) ?_
   iterate 3 refine sk (Eq.refl false) ?_
   refine pf (vb false) wN (Eq.refl false) ?_
   refine mw (vb false) ?_
   iterate 4 refine sk (Eq.refl false) ?_
   refine pf (vb false) wN (Eq.refl false) ?_
   refine mw (vb false) ?_
   iterate 4 refine sk (Eq.refl false) ?_
   refine pf (vb false) wN (Eq.refl false) ?_
   refine aw (vb false) ?_
   refine wl_nil <| wq_blk_normal <| wq_then <| sr ?_
   refine mw (vb false) ?_
   refine mw (vb false) ?_
   iterate 3 refine sk (Eq.refl false) ?_
   refine pf (vb false) wN (Eq.refl false) ?_
   refine aw (vb false) ?_
   refine n3 ?_
   refine rt (vb false) ?_
   refine ⟨aM.keep0, ?_⟩
   simp only [i_FrameOk, p, A, B, E, cond_true, cond_false]
   exact rfl
  have jh := impl_within_t E
  refine pu (vp d 2) (wS E) ?_
  have bz := (bw.kp aL)
  refine ld (vs i a.Cn.length j) (wS E) isAgg_22 bz ?_
  refine cl (wS E) (ciisNonce ap _ a.Cn (mR_22 (ab.from0 aM) ac)) ?_
  rintro _ an ⟨aN, rfl⟩
  have aO := aM.extk aN
  refine pk (vb (i_isNonce a.Cn)) wN E ?_
  refine mw (vb (i_isNonce a.Cn)) ?_
  rcases bf (i_isNonce a.Cn) with R | R
  ·iterate 3 refine sk R ?_
   refine pf (vb false) wN R ?_
   refine mw (vb false) ?_
   iterate 3 refine sk (Eq.refl false) ?_
   refine pf (vb false) wN (Eq.refl false) ?_
   refine mw (vb false) ?_
   iterate 4 refine sk (Eq.refl false) ?_
   refine pf (vb false) wN (Eq.refl false) ?_
   refine mw (vb false) ?_
   iterate 4 refine sk (Eq.refl false) ?_
   refine pf (vb false) wN (Eq.refl false) ?_
   refine aw (vb false) ?_
   refine wl_nil <| wq_blk_normal <| wq_then <| sr ?_
   refine mw (vb false) ?_
   refine mw (vb false) ?_
   iterate 3 refine sk (Eq.refl false) ?_
   refine pf (vb false) wN (Eq.refl false) ?_
   refine aw (vb false) ?_
   refine n3 ?_
   refine rt (vb false) ?_
   refine ⟨aO.keep0, ?_⟩
   simp only [i_FrameOk, p, A, B, E, R, cond_true, cond_false]
   exact rfl
  refine pu (vp d 3) (wS R) ?_
  have b0 := (bz.kp aN)
  refine ld (vs f a.Sn.length g) (wS R) isAgg_22 b0 ?_
  refine cl (wS R) (ciisNonce an _ a.Sn (mR_22 (ad.from0 aO) ae)) ?_
  rintro _ aq ⟨aP, rfl⟩
  have b1 := aO.extk aP
  refine pk (vb (i_isNonce a.Sn)) wN R ?_
  refine mw (vb (i_isNonce a.Sn)) ?_
  rcases bf (i_isNonce a.Sn) with W | W
  ·iterate 3 refine sk W ?_
   refine pf (vb false) wN W ?_
   refine mw (vb false) ?_
   iterate 4 refine sk (Eq.refl false) ?_
   refine pf (vb false) wN (Eq.refl false) ?_
   refine mw (vb false) ?_
   iterate 4 refine sk (Eq.refl false) ?_
   refine pf (vb false) wN (Eq.refl false) ?_
   refine aw (vb false) ?_
   refine wl_nil <| wq_blk_normal <| wq_then <| sr ?_
   refine mw (vb false) ?_
   refine mw (vb false) ?_
   iterate 3 refine sk (Eq.refl false) ?_
   refine pf (vb false) wN (Eq.refl false) ?_
   refine aw (vb false) ?_
   refine n3 ?_
   refine rt (vb false) ?_
   refine ⟨b1.keep0, ?_⟩
   simp only [i_FrameOk, p, A, B, E, R, W, cond_true, cond_false]
   exact rfl
  refine pu (vp d 4) (wS W) ?_
  have b2 := (b0.kp aP)
  refine ld (vi a.Tick) (wS W) isAgg_3 b2 ?_
  refine cl (wS W) (ciwithin aq a.Tick 0 1000000) ?_
  rintro _ a3 ⟨aQ, rfl⟩
  have F := b1.extk aQ
  refine pk (vb (i_within a.Tick 0 1000000)) wN W ?_
  refine mw (vb (i_within a.Tick 0 1000000)) ?_
  rcases bf (i_within a.Tick 0 1000000) with N | N
  ·have ji := impl_within_f N
   iterate 4 refine sk N ?_
   refine pf (vb false) wN N ?_
   refine mw (vb false) ?_
   iterate 4 refine sk (Eq.refl false) ?_
   refine pf (vb false) wN (Eq.refl false) ?_
   refine aw (vb false) ?_
   refine wl_nil <| wq_blk_normal <| wq_then <| sr ?_
   refine mw (vb false) ?_
   refine mw (vb false) ?_
   iterate 3 refine sk (Eq.refl false) ?_
   refine pf (vb false) wN (Eq.refl false) ?_
   refine aw (vb false) ?_
   refine n3 ?_
   refine rt (vb false) ?_
   refine ⟨F.keep0, ?_⟩
   simp only [i_FrameOk, p, A, B, E, R, W, N, cond_true, cond_false]
   exact rfl
  have jj := impl_within_t N
  refine pu (vp d 5) (wS N) ?_
  have aR := (b2.kp aQ)
  refine ld (vs s a.Cookie.length u) (wS N) isAgg_22 aR ?_
  refine ln (wS N) slTy_22 (am.from0 F) ?_
  refine pu (vb (decide ((a.Cookie.length : Int) = 16))) (wS N) ?_
  refine pk (vb (decide ((a.Cookie.length : Int) = 16))) wN N ?_
  refine mw (vb (decide ((a.Cookie.length : Int) = 16))) ?_
  rcases bf (decide ((a.Cookie.length : Int) = 16)) with S | S
  ·have jk := dF S
   iterate 4 refine sk S ?_
   refine pf (vb false) wN S ?_
   refine aw (vb false) ?_
   refine wl_nil <| wq_blk_normal <| wq_then <| sr ?_
   refine mw (vb false) ?_
   refine mw (vb false) ?_
   iterate 3 refine sk (Eq.refl false) ?_
   refine pf (vb false) wN (Eq.refl false) ?_
   refine aw (vb false) ?_
   refine n3 ?_
   refine rt (vb false) ?_
   refine ⟨F.keep0, ?_⟩
   simp only [i_FrameOk, p, A, B, E, R, W, N, S, cond_true, cond_false]
   exact rfl
  have jl := dT S
  refine pu (vp d 6) (wS S) ?_
  refine ld (vs H a.Proof.length I) (wS S) isAgg_22 aR ?_
  refine ln (wS S) slTy_22 (av.from0 F) ?_
  refine pu (vb (decide ((a.Proof.length : Int) = 16))) (wS S) ?_
  refine pk (vb (decide ((a.Proof.length : Int) = 16))) wN S ?_
  refine aw (vb (decide ((a.Proof.length : Int) = 16))) ?_
  refine wl_nil <| wq_blk_normal <| wq_then <| sr ?_
  refine mw (vb (decide ((a.Proof.length : Int) = 16))) ?_
  refine mw (vb (decide ((a.Proof.length : Int) = 16))) ?_
  rcases bf (decide ((a.Proof.length : Int) = 16)) with aa | aa
  ·have jm := dF aa
   iterate 3 refine sk aa ?_
   refine pf (vb false) wN aa ?_
   refine aw (vb false) ?_
   refine n3 ?_
   refine rt (vb false) ?_
   refine ⟨F.keep0, ?_⟩
   simp only [i_FrameOk, p, A, B, E, R, W, N, S, aa, cond_true, cond_false]
   exact rfl
  have jn := dT aa
  refine lN (L_87 a i j f g s u H I C D J K) (wS aa) isAgg_87 sizeOf_87 aR ?_
  have de := ((((dc.kp aL).kp aN).kp aP).kp aQ)
  refine lN [(vi a.Kind), (vi a.Id), (vs i a.Cn.length j), (vs f a.Sn.length g), (vi a.Tick), (vs s a.Cookie.length u), (vs H a.Proof.length I), (vi 0), (vi 0), (vs none 0 0), (vs none 0 0)] (wS aa) isAgg_87 sizeOf_87 de ?_
  refine cl (wS aa) (cisameFrame a3 _ a (mR_87 (ab.from0 F) ac (ad.from0 F) ae (am.from0 F) au (av.from0 F) a0 (ax.from0 F) a1 (ay.from0 F) a2) _ _ (show R_87 a3 (va [(vi a.Kind), (vi a.Id), (vs i a.Cn.length j), (vs f a.Sn.length g), (vi a.Tick), (vs s a.Cookie.length u), (vs H a.Proof.length I), (vi 0), (vi 0), (vs none 0 0), (vs none 0 0)]) { Kind := a.Kind, Id := a.Id, Cn := a.Cn, Sn := a.Sn, Tick := a.Tick, Cookie := a.Cookie, Proof := a.Proof, Epoch := 0, Seq := 0, Body := [], Tag := [] : PFrame } from ⟨_, _, _, _, _, _, _, _, _, _, _, _, rfl, (ab.from0 F), ac, (ad.from0 F), ae, (am.from0 F), au, (av.from0 F), a0, (Rd.nil _ _), (by simp), (Rd.nil _ _), (by simp)⟩)) ?_
  rintro _ aJ ⟨df, rfl⟩
  have dg := F.extk df
  refine pk (vb (i_sameFrame a { Kind := a.Kind, Id := a.Id, Cn := a.Cn, Sn := a.Sn, Tick := a.Tick, Cookie := a.Cookie, Proof := a.Proof, Epoch := 0, Seq := 0, Body := [], Tag := [] : PFrame })) wN aa ?_
  refine aw (vb (i_sameFrame a { Kind := a.Kind, Id := a.Id, Cn := a.Cn, Sn := a.Sn, Tick := a.Tick, Cookie := a.Cookie, Proof := a.Proof, Epoch := 0, Seq := 0, Body := [], Tag := [] : PFrame })) ?_
  refine n3 ?_
  refine rt (vb (i_sameFrame a { Kind := a.Kind, Id := a.Id, Cn := a.Cn, Sn := a.Sn, Tick := a.Tick, Cookie := a.Cookie, Proof := a.Proof, Epoch := 0, Seq := 0, Body := [], Tag := [] : PFrame })) ?_
  refine ⟨dg.keep0, ?_⟩
  simp only [i_FrameOk, p, A, B, E, R, W, N, S, aa, cond_true, cond_false]
  exact rfl

def i_isRole (a : Int) : (Bool) := bif (decide (a = 0)) then (true) else (decide (a = 1))
theorem ciisRole (d : World) (a : Int)  : Fn Try.prog 161 #[(vi a)] d (fun v e => Keep d e ∧ O_4 e d.heap.size v (i_isRole a)) := by
 refine fn_ofS (n := 9) [(vi a)] Try.func161 rfl rfl ?_
 refine sr ?_
 refine aw (vb false) ?_
 refine nx ?_
 refine mw (vi a) ?_
 refine pu (vb (decide (a = 0))) wN ?_
 refine mw (vb (decide (a = 0))) ?_
 rcases bt (decide (a = 0)) with b | b
 ·have f := dT b
  iterate 2 refine sk b ?_
  refine pk (vb true) wN b ?_
  refine aw (vb true) ?_
  refine n3 ?_
  refine rt (vb true) ?_
  refine ⟨Ch.refl _ _, ?_⟩
  simp only [i_isRole, b, cond_true, cond_false]
  exact rfl
 have g := dF b
 refine mv (vi a) (wS b) ?_
 refine pu (vb (decide (a = 1))) (wS b) ?_
 refine pf (vb (decide (a = 1))) wN b ?_
 refine aw (vb (decide (a = 1))) ?_
 refine n3 ?_
 refine rt (vb (decide (a = 1))) ?_
 refine ⟨Ch.refl _ _, ?_⟩
 simp only [i_isRole, b, cond_true, cond_false]
 exact rfl

theorem ciareWords (b : World) (m : Value) (a : List Int) (s : R_88 b m a) (d : Int)  : Fn Try.prog 185 #[m, (vi d)] b (fun v g => Keep b g ∧ O_4 g b.heap.size v (areW a d)) := by
 obtain ⟨e, f, rfl, l, A⟩ := s
 refine fn_ofS (n := 21) [(vs e a.length f), (vi d)] Try.func185 rfl rfl ?_
 refine sr ?_
 refine aw (vb false) ?_
 refine n4 ?_
 refine mw (vs e a.length f) ?_
 refine ln wN slTy_88 l ?_
 refine mw (vi 0) ?_
 refine wl_nil <| wq_then <| wc_block ?_
 refine wc_loopP [(0, (vs e a.length f)), (1, (vi d)), (7, (vs e a.length f)), (8, (vi (a.length : Int))), (9, (vi ((0 : Nat) : Int)))] ⟨rfl, rfl, rfl, rfl, (cA (Value.int .i64) (show (0 : Int) = ((0 : Nat) : Int) by omega)), trivial⟩ (fun e' g => ∃ (k : Nat) (o : Env), e' = pt o [(0, (vs e a.length f)), (1, (vi d)), (7, (vs e a.length f)), (8, (vi (a.length : Int))), (9, (vi ((k : Nat) : Int)))] ∧ Ch (fun k => b.heap.size ≤ k) b g ∧ Ch (fun k => b.heap.size ≤ k) b g ∧ k ≤ a.length ∧ allW (a.take k) = true) (fun e' _ => a.length - ((intOf (e' 9))).toNat) ?_ ?_
 ·exact fun u => ⟨0, u, rfl, (Ch.base b), (Ch.refl (fun k => b.heap.size ≤ k) b), (by omega), (by first | rfl | exact allW_next (by assumption) (by omega) (by assumption))⟩
 ·rintro _ p ⟨k, o, rfl, h, t, B, C⟩
  refine sr ?_
  refine pu (vb (decide (((k : Nat) : Int) < (a.length : Int)))) wN ?_
  refine wl_nil <| wq_then <| wc_seq ?_
  rcases bf (decide (((k : Nat) : Int) < (a.length : Int))) with i | i
  ·have D := dF i
   refine cf i ?_
   refine wc_exit <| wq_then_exit <| wq_then_exit <| wq_blk_exit <| wq_then <| sr ?_
   refine mw (vs e a.length f) ?_
   refine ln wN slTy_88 (l.from0 h) ?_
   refine mw (vi d) ?_
   refine pu (vb (decide ((a.length : Int) = d))) wN ?_
   refine aw (vb (decide ((a.length : Int) = d))) ?_
   refine n3 ?_
   refine rt (vb (decide ((a.length : Int) = d))) ?_
   refine ⟨h.keep0, ?_⟩
   have w : areW a d = decide ((a.length : Int) = d) := by first | (have hz := allW_no (x := a) (k := k) (by omega) (by assumption); simp [areW, hz]) | (have hz := allW_all (x := a) (k := k) (by assumption) (by omega); simp [areW, hz])
   rw [w]
   exact rfl
  have E := dT i
  refine ct i ?_
  refine wc_skip <| wq_then <| wc_seq <| wc_block <| sr ?_
  refine ix wN ((k : Nat) : Int) slTy_88 (l.from0 h) ?_
  refine ei (x := a) k wN isAgg_3 (l.from0 h) ?_
  refine aw (vi (a.getD k 0)) ?_
  refine nx ?_
  refine mw (vi (a.getD k 0)) ?_
  refine cl wN (ciwithin p (a.getD k 0) 0 4294967295) ?_
  rintro _ F ⟨q, rfl⟩
  have r := h.extk q
  refine pu (vb (!(i_within (a.getD k 0) 0 4294967295))) wN ?_
  refine n2 ?_
  rcases bf (i_within (a.getD k 0) 0 4294967295) with j | j
  ·have G := impl_within_f j
   refine ct (cA not j) ?_
   refine sr ?_
   refine aw (vb false) ?_
   refine wl_nil <| wq_then <| wc_ret <| wq_blk_ret <| wq_then_ret <| wq_then_ret <| wq_blk_ret <| wq_then_ret ?_
   refine rt (vb false) ?_
   refine ⟨r.keep0, ?_⟩
   have y : areW a d = false := by first | (have hz := allW_no (x := a) (k := k) (by omega) (by assumption); simp [areW, hz]) | (have hz := allW_all (x := a) (k := k) (by assumption) (by omega); simp [areW, hz])
   rw [y]
   exact rfl
  have H := impl_within_t j
  refine cf (cA not j) ?_
  refine wc_skip <| wq_blk_normal <| wq_then <| wc_region ?_
  refine ar (((k : Nat) : Int) + 1) wN ?_
  refine mw (vi (((k : Nat) : Int) + 1)) ?_
  refine wl_nil ?_
  refine wq_loopP (w0 := p) [(0, (vs e a.length f)), (1, (vi d)), (7, (vs e a.length f)), (8, (vi (a.length : Int))), (9, (vi (((k + 1) : Nat) : Int)))] ?_ ?_ ?_
  · exact ⟨rfl, rfl, rfl, rfl, (cA (Value.int .i64) (show ((((k : Nat) : Int) + 1) : Int) = (((k + 1) : Nat) : Int) by omega)), trivial⟩
  · exact fun u => ⟨(k + 1), u, rfl, r, (((Ch.refl (fun k => b.heap.size ≤ k) b).ext t (fun k hk => hk)).extk q), (by omega), (by first | rfl | exact allW_next (by assumption) (by omega) (by assumption))⟩
  · show a.length - ((((k + 1) : Nat) : Int)).toNat < a.length - (((k : Nat) : Int)).toNat; omega

abbrev L_90 (x : PWin) (a : Option Addr) (b : Nat) : List Value := [vi x.Top, vs a x.Bits.length b]
def R_90 (w : World) (v : Value) (x : (PWin)) : Prop := ∃ (a : Option Addr) (b : Nat), v = .agg #[.int .i64 x.Top, .slice a x.Bits.length b] ∧ Rd w 1 (.slice a x.Bits.length b) x.Bits.length (x.Bits.map iV) ∧ x.Bits.length ≤ 1073741824
def i_hasBit (b : PWin) (a : Int) : (Bool) := decide ((((b.Bits.getD (((a % 1024) / 32)).toNat 0) / (2 : Int) ^ ((a % 32)).toNat) % 2) = 1)
theorem cihasBit (d : World) (h : Value) (b : PWin) (k : R_90 d h b) (a : Int) (q : b.Bits.length = 32) (r : 0 ≤ a) : Fn Try.prog 186 #[h, (vi a)] d (fun v i => Keep d i ∧ O_4 i d.heap.size v (i_hasBit b a)) := by
 obtain ⟨e, f, rfl, j, s⟩ := k
 refine fn_ofS (n := 17) [(va (L_90 b e f)), (vi a)] Try.func186 rfl rfl ?_
 refine sr ?_
 refine bx (L_90 b e f) wN ?_
 intro l t u w m o
 have g := (Ch.base d).extk m
 refine aw (vb false) ?_
 refine nx ?_
 refine pu (vp l 1) wN ?_
 refine ld (vs e b.Bits.length f) wN isAgg_88 o ?_
 refine mw (vi a) ?_
 refine wl_rem a 1024 wN rfl rfl (by kernel_rfl) (by first | omega | assumption) ?_
 refine wl_quo (a % 1024) 32 wN rfl rfl (by kernel_rfl) (by omega) (by omega) (by omega) ?_
 refine ix wN ((a % 1024) / 32) slTy_88 (j.from0 g) ?_
 refine ei (x := b.Bits) ((((a % 1024) / 32)).toNat) wN isAgg_3 (j.from0 g) ?_
 refine mw (vi a) ?_
 refine wl_rem a 32 wN rfl rfl (by kernel_rfl) (by first | omega | assumption) ?_
 refine wl_shr (b.Bits.getD (((a % 1024) / 32)).toNat 0) (a % 32) wN rfl rfl rfl rfl rfl (by omega) (by omega) ?_
 refine wl_and ((b.Bits.getD (((a % 1024) / 32)).toNat 0) / (2 : Int) ^ ((a % 32)).toNat) 1 2 1 wN rfl rfl (by decide) (by decide) (by decide) (by kernel_rfl) ?_
 refine pu (vb (decide ((((b.Bits.getD (((a % 1024) / 32)).toNat 0) / (2 : Int) ^ ((a % 32)).toNat) % 2) = 1))) wN ?_
 refine aw (vb (decide ((((b.Bits.getD (((a % 1024) / 32)).toNat 0) / (2 : Int) ^ ((a % 32)).toNat) % 2) = 1))) ?_
 refine n3 ?_
 refine rt (vb (decide ((((b.Bits.getD (((a % 1024) / 32)).toNat 0) / (2 : Int) ^ ((a % 32)).toNat) % 2) = 1))) ?_
 refine ⟨g.keep0, ?_⟩
 have p : i_hasBit b a = decide ((((b.Bits.getD (((a % 1024) / 32)).toNat 0) / (2 : Int) ^ ((a % 32)).toNat) % 2) = 1) := by rfl
 rw [p]
 exact rfl

theorem isAgg_90 : ∀ w, (isAgg 90).run Try.prog w = .ok true w := fun w => by kernel_rfl
theorem sizeOf_90 : ∀ w, (sizeOf 90).run Try.prog w = .ok 2 w := fun w => by kernel_rfl
theorem mR_90 {w : World} {x : PWin} {a : Option Addr} {b : Nat} (d : Rd w 1 (.slice a x.Bits.length b) x.Bits.length (x.Bits.map iV)) (e : x.Bits.length ≤ 1073741824) : R_90 w (va (L_90 x a b)) x := ⟨_, _, rfl, d, e⟩
def iWin (w : PWin) : Bool := bif i_within w.Top (-1) 281474976710655 then (bif areW w.Bits 32 then (bif noneIn (i_hasBit w) (w.Top + 1) 1024 then (decide (w.Top = -1) || i_hasBit w w.Top) else false) else false) else false
theorem ciWinOk (l : World) (G : Value) (d : PWin) (R : R_90 l G d)  : Fn Try.prog 177 #[G] l (fun v s => Keep l s ∧ O_4 s l.heap.size v (iWin d)) := by
 obtain ⟨t, w, rfl, A, B⟩ := R
 refine fn_ofS (n := 33) [(va (L_90 d t w))] Try.func177 rfl rfl ?_
 refine sr ?_
 refine bx (L_90 d t w) wN ?_
 intro j S am H T I
 have J := (Ch.base l).extk T
 refine aw (vb false) ?_
 refine n4 ?_
 refine jT1 [(1, (vp j 0)), (2, (vb false))] (iWin d = false) ?_ fun K => ?_
 ·intro V L W an
  have X := J.extk W
  refine sr ?_
  refine aw (vb false) ?_
  refine n1 ?_
  refine rt (vb false) ?_
  refine ⟨X.keep0, ?_⟩
  rw [V]
  exact rfl
 refine pu (vp j 0) wN ?_
 refine ld (vi d.Top) wN isAgg_3 I ?_
 refine cl wN (ciwithin S d.Top (-1) 281474976710655) ?_
 rintro _ L ⟨o, rfl⟩
 have M := J.extk o
 refine pu (vb (!(i_within d.Top (-1) 281474976710655))) wN ?_
 refine mw (vb (!(i_within d.Top (-1) 281474976710655))) ?_
 rcases bf (i_within d.Top (-1) 281474976710655) with e | e
 ·have ao := impl_within_f e
  iterate 4 refine sk (cA not e) ?_
  refine pk (vb true) wN (cA not e) ?_
  refine n2 ?_
  refine ct (Eq.refl true) ?_
  have Y : iWin d = false := by first | (simp [iWin, e]; done) | (have hz := noneIn_f (f := i_hasBit d) (a := d.Top + 1) (b := 1024) (q := q) (by assumption) (by omega) (by omega); simp [iWin, e, hz]; done) | (have hz := noneIn_t (f := i_hasBit d) (a := d.Top + 1) (b := 1024) (q := q) (by assumption) (by omega); simp [iWin, e, hz]; done)
  exact wj (K Y _ o)
 have ap := impl_within_t e
 refine pu (vp j 1) (wS (cA not e)) ?_
 have N := (I.kp o)
 refine ld (vs t d.Bits.length w) (wS (cA not e)) isAgg_88 N ?_
 refine cl (wS (cA not e)) (ciareWords L _ d.Bits (mR_88 (A.from0 M) B) 32) ?_
 rintro _ p ⟨x, rfl⟩
 have Z := M.extk x
 refine pu (vb (!(areW d.Bits 32))) (wS (cA not e)) ?_
 refine pf (vb (!(areW d.Bits 32))) wN (cA not e) ?_
 refine n2 ?_
 rcases bf (areW d.Bits 32) with g | g
 ·refine ct (cA not g) ?_
  have aa : iWin d = false := by first | (simp [iWin, e, g]; done) | (have hz := noneIn_f (f := i_hasBit d) (a := d.Top + 1) (b := 1024) (q := q) (by assumption) (by omega) (by omega); simp [iWin, e, g, hz]; done) | (have hz := noneIn_t (f := i_hasBit d) (a := d.Top + 1) (b := 1024) (q := q) (by assumption) (by omega); simp [iWin, e, g, hz]; done)
  exact wj (K aa _ (o.trans x))
 have aq := areW_t g
 refine cf (cA not g) ?_
 refine y2 ?_
 refine pu (vp j 0) wN ?_
 have C := (N.kp x)
 refine ld (vi d.Top) wN isAgg_3 C ?_
 refine ar (d.Top + 1) wN ?_
 refine aw (vi (d.Top + 1)) ?_
 refine wl_nil <| wq_then <| wc_block ?_
 refine wc_loopP [(1, (vp j 0)), (3, (vi (d.Top + 1)))] ⟨rfl, rfl, trivial⟩ (fun e' s => ∃ (q : Int) (O : Env), e' = pt O [(1, (vp j 0)), (3, (vi q))] ∧ Ch (fun k => l.heap.size ≤ k) l s ∧ Ch (fun k => p.heap.size ≤ k) p s ∧ d.Top + 1 ≤ q ∧ q ≤ 281474976710656 ∧ ∀ m : Int, d.Top + 1 ≤ m → m < q → i_hasBit d m = false) (fun e' _ => (1024 - (intOf (e' 3))).toNat) ?_ ?_
 ·exact fun u => ⟨(d.Top + 1), u, rfl, Z, (Ch.refl (fun k => p.heap.size ≤ k) p), (by omega), (by omega), (by first | (intro m ab ac; omega) | exact none_next (by assumption) (by assumption))⟩
 ·rintro _ D ⟨q, O, rfl, y, E, au, av, ax⟩
  refine wc_seq <| sr ?_
  refine mw (vi q) ?_
  refine pu (vb (decide (q < 1024))) wN ?_
  refine n2 ?_
  rcases bt (decide (q < 1024)) with i | i
  ·have ay := dT i
   refine ct i ?_
   refine wc_skip <| wq_then <| wc_seq <| wc_block <| sr ?_
   have ad := (C.ch E (Nat.not_le.2 (nL H (z2 o x))))
   refine lN (L_90 d t w) wN isAgg_90 sizeOf_90 ad ?_
   refine mw (vi q) ?_
   refine cl wN (cihasBit D _ d (mR_90 (A.from0 y) B) q (by first | assumption | omega) (by first | assumption | omega)) ?_
   rintro _ ae ⟨P, rfl⟩
   have Q := y.extk P
   refine n2 ?_
   rcases bf (i_hasBit d q) with r | r
   ·refine cf r ?_
    refine wc_skip <| wq_blk_normal <| wq_then <| wc_region ?_
    refine mw (vi q) ?_
    refine ar (q + 1) wN ?_
    refine aw (vi (q + 1)) ?_
    refine wl_nil ?_
    refine wq_loopP (w0 := D) [(1, (vp j 0)), (3, (vi (q + 1)))] ?_ ?_ ?_
    · exact ⟨rfl, rfl, trivial⟩
    · exact fun u => ⟨(q + 1), u, rfl, Q, (((Ch.refl (fun k => p.heap.size ≤ k) p).ext E (fun k hk => hk)).extk P), (by omega), (by omega), (by first | (intro m ab ac; omega) | exact none_next (by assumption) (by assumption))⟩
    · show (1024 - (q + 1)).toNat < (1024 - q).toNat; omega
   refine ct r ?_
   refine sr ?_
   refine aw (vb false) ?_
   refine wl_nil <| wq_then <| wc_ret <| wq_blk_ret <| wq_then_ret <| wq_then_ret <| wq_blk_ret <| wq_then_ret ?_
   refine rt (vb false) ?_
   refine ⟨Q.keep0, ?_⟩
   have af : iWin d = false := by first | (simp [iWin, e, g, i, r]; done) | (have hz := noneIn_f (f := i_hasBit d) (a := d.Top + 1) (b := 1024) (q := q) (by assumption) (by omega) (by omega); simp [iWin, e, g, i, r, hz]; done) | (have hz := noneIn_t (f := i_hasBit d) (a := d.Top + 1) (b := 1024) (q := q) (by assumption) (by omega); simp [iWin, e, g, i, r, hz]; done)
   rw [af]
   exact rfl
  have az := dF i
  refine cf i ?_
  refine wc_exit <| wq_then_exit <| wq_then_exit <| wq_blk_exit <| wq_then <| sr ?_
  refine pu (vp j 0) wN ?_
  have F := (C.ch E (Nat.not_le.2 (nL H (z2 o x))))
  refine ld (vi d.Top) wN isAgg_3 F ?_
  refine pu (vb (decide (d.Top = (-1)))) wN ?_
  refine mw (vb (decide (d.Top = (-1)))) ?_
  rcases bt (decide (d.Top = (-1))) with h | h
  ·have a0 := dT h
   iterate 4 refine sk h ?_
   refine pk (vb true) wN h ?_
   refine aw (vb true) ?_
   refine n3 ?_
   refine rt (vb true) ?_
   refine ⟨y.keep0, ?_⟩
   have ah : iWin d = true := by first | (simp [iWin, e, g, i, h]; done) | (have hz := noneIn_f (f := i_hasBit d) (a := d.Top + 1) (b := 1024) (q := q) (by assumption) (by omega) (by omega); simp [iWin, e, g, i, h, hz]; done) | (have hz := noneIn_t (f := i_hasBit d) (a := d.Top + 1) (b := 1024) (q := q) (by assumption) (by omega); simp [iWin, e, g, i, h, hz]; done)
   rw [ah]
   exact rfl
  have a1 := dF h
  refine lN (L_90 d t w) (wS h) isAgg_90 sizeOf_90 F ?_
  refine pu (vp j 0) (wS h) ?_
  refine ld (vi d.Top) (wS h) isAgg_3 F ?_
  refine cl (wS h) (cihasBit D _ d (mR_90 (A.from0 y) B) d.Top (by first | assumption | omega) (by first | assumption | omega)) ?_
  rintro _ ae ⟨ai, rfl⟩
  have aj := y.extk ai
  refine pf (vb (i_hasBit d d.Top)) wN h ?_
  refine aw (vb (i_hasBit d d.Top)) ?_
  refine n3 ?_
  refine rt (vb (i_hasBit d d.Top)) ?_
  refine ⟨aj.keep0, ?_⟩
  have ak : iWin d = (i_hasBit d d.Top) := by first | (simp [iWin, e, g, i, h]; done) | (have hz := noneIn_f (f := i_hasBit d) (a := d.Top + 1) (b := 1024) (q := q) (by assumption) (by omega) (by omega); simp [iWin, e, g, i, h, hz]; done) | (have hz := noneIn_t (f := i_hasBit d) (a := d.Top + 1) (b := 1024) (q := q) (by assumption) (by omega); simp [iWin, e, g, i, h, hz]; done)
  rw [ak]
  exact rfl

def i_EpOk (a : PEp) : (Bool) := bif (i_within a.N 0 4294967295) then (bif (decide ((a.Key.length : Int) = 32)) then (bif (i_within a.Seq 0 281474976710656) then ((iWin a.Win)) else (false)) else (false)) else (false)
theorem ciEpOk (f : World) (p : Value) (a : PEp) (u : R_92 f p a)  : Fn Try.prog 162 #[p] f (fun v q => Keep f q ∧ O_4 q f.heap.size v (i_EpOk a)) := by
 obtain ⟨i, j, k, l, rfl, w, H, x, y⟩ := u
 refine fn_ofS (n := 22) [(va (L_92 a i j k l))] Try.func162 rfl rfl ?_
 refine sr ?_
 refine bx (L_92 a i j k l) wN ?_
 intro g A I J B r
 refine aw (vb false) ?_
 refine nx ?_
 refine pu (vp g 0) wN ?_
 refine ld (vi a.N) wN isAgg_3 r ?_
 refine cl wN (ciwithin A a.N 0 4294967295) ?_
 rintro _ C ⟨s, rfl⟩
 have h := ((Ch.base f).extk B).extk s
 refine mw (vb (i_within a.N 0 4294967295)) ?_
 rcases bf (i_within a.N 0 4294967295) with b | b
 ·have K := impl_within_f b
  iterate 4 refine sk b ?_
  refine pf (vb false) wN b ?_
  refine mw (vb false) ?_
  iterate 3 refine sk (Eq.refl false) ?_
  refine pf (vb false) wN (Eq.refl false) ?_
  refine mw (vb false) ?_
  iterate 3 refine sk (Eq.refl false) ?_
  refine pf (vb false) wN (Eq.refl false) ?_
  refine aw (vb false) ?_
  refine n3 ?_
  refine rt (vb false) ?_
  refine ⟨h.keep0, ?_⟩
  simp only [i_EpOk, b, cond_true, cond_false]
  exact rfl
 have L := impl_within_t b
 refine pu (vp g 1) (wS b) ?_
 have m := (r.kp s)
 refine ld (vs i a.Key.length j) (wS b) isAgg_22 m ?_
 refine ln (wS b) slTy_22 (w.from0 h) ?_
 refine pu (vb (decide ((a.Key.length : Int) = 32))) (wS b) ?_
 refine pk (vb (decide ((a.Key.length : Int) = 32))) wN b ?_
 refine mw (vb (decide ((a.Key.length : Int) = 32))) ?_
 rcases bf (decide ((a.Key.length : Int) = 32)) with d | d
 ·have M := dF d
  iterate 3 refine sk d ?_
  refine pf (vb false) wN d ?_
  refine mw (vb false) ?_
  iterate 3 refine sk (Eq.refl false) ?_
  refine pf (vb false) wN (Eq.refl false) ?_
  refine aw (vb false) ?_
  refine n3 ?_
  refine rt (vb false) ?_
  refine ⟨h.keep0, ?_⟩
  simp only [i_EpOk, b, d, cond_true, cond_false]
  exact rfl
 have O := dT d
 refine pu (vp g 2) (wS d) ?_
 refine ld (vi a.Seq) (wS d) isAgg_3 m ?_
 refine cl (wS d) (ciwithin C a.Seq 0 281474976710656) ?_
 rintro _ D ⟨t, rfl⟩
 have o := h.extk t
 refine pk (vb (i_within a.Seq 0 281474976710656)) wN d ?_
 refine mw (vb (i_within a.Seq 0 281474976710656)) ?_
 rcases bf (i_within a.Seq 0 281474976710656) with e | e
 ·have P := impl_within_f e
  iterate 3 refine sk e ?_
  refine pf (vb false) wN e ?_
  refine aw (vb false) ?_
  refine n3 ?_
  refine rt (vb false) ?_
  refine ⟨o.keep0, ?_⟩
  simp only [i_EpOk, b, d, e, cond_true, cond_false]
  exact rfl
 have Q := impl_within_t e
 refine pu (vp g 3) (wS e) ?_
 have E := (m.kp t)
 refine lN (L_90 a.Win k l) (wS e) isAgg_90 sizeOf_90 E ?_
 refine cl (wS e) (ciWinOk D _ a.Win (mR_90 (x.from0 o) y)) ?_
 rintro _ R ⟨F, rfl⟩
 have G := o.extk F
 refine pk (vb (iWin a.Win)) wN e ?_
 refine aw (vb (iWin a.Win)) ?_
 refine n3 ?_
 refine rt (vb (iWin a.Win)) ?_
 refine ⟨G.keep0, ?_⟩
 simp only [i_EpOk, b, d, e, cond_true, cond_false]
 exact rfl
theorem impl_EpOk_t {e : PEp} (h : i_EpOk e = true) : 0 ≤ e.N ∧ e.N ≤ 4294967295 ∧ (e.Key.length : Int) = 32 := by
  cases h1 : i_within e.N 0 4294967295 with
  | false => simp [i_EpOk, h1] at h
  | true =>
    have := impl_within_t h1
    by_cases h2 : (e.Key.length : Int) = 32
    · exact ⟨this.1, this.2, h2⟩
    · simp [i_EpOk, h1, h2] at h

def i_oldOk (a : PChan) : (Bool) := bif a.HasOld then (bif (i_EpOk a.Old) then (bif (decide (a.Old.N = (a.Cur.N - 1))) then (bif (i_within a.Until 0 1000005) then (true) else (bif (decide (a.Until = (-1))) then (decide (a.Role = 1)) else (false))) else (false)) else (false)) else (bif (i_sameEp a.Old { N := 0, Key := [], Seq := 0, Win := { Top := 0, Bits := [] : PWin } : PEp }) then (decide (a.Until = 0)) else (false))
theorem cioldOk (k : World) (x : Value) (a : PChan) (S : R_94 k x a) (ab : 0 ≤ a.Cur.N) (ac : a.Cur.N ≤ 4294967295) : Fn Try.prog 163 #[x] k (fun v y => Keep k y ∧ O_4 y k.heap.size v (i_oldOk a)) := by
 obtain ⟨A, B, C, D, E, F, m, o, p, q, G, H, rfl, ad, ae, af, ah, ai, aj, I, J, K, L, ak, am⟩ := S
 refine fn_ofS (n := 42) [(va (L_94 a A B C D E F m o p q G H))] Try.func163 rfl rfl ?_
 refine sr ?_
 refine bx (L_94 a A B C D E F m o p q G H) wN ?_
 intro e t an ao T l
 have j := (Ch.base k).extk T
 refine aw (vb false) ?_
 refine n4 ?_
 refine pu (vp e 12) wN ?_
 refine ld (vb a.HasOld) wN isAgg_4 l ?_
 refine pu (vb (!a.HasOld)) wN ?_
 refine n2 ?_
 rcases bf a.HasOld with g | g
 ·refine ct (cA not g) ?_
  refine sr ?_
  refine pu (vp e 7) wN ?_
  refine lN (L_92 a.Old m o p q) wN isAgg_92 sizeOf_92 l ?_
  refine pu (va Z_92) wN ?_
  refine cl wN (cisameEp t _ a.Old (mR_92 (I.from0 j) J (K.from0 j) L) _ _ (show R_92 t (va Z_92) { N := 0, Key := [], Seq := 0, Win := { Top := 0, Bits := [] : PWin } : PEp } from ⟨_, _, _, _, rfl, (Rd.nil _ _), (by simp), (Rd.nil _ _), (by simp)⟩)) ?_
  rintro _ u ⟨M, rfl⟩
  have O := j.extk M
  refine mw (vb (i_sameEp a.Old { N := 0, Key := [], Seq := 0, Win := { Top := 0, Bits := [] : PWin } : PEp })) ?_
  rcases bf (i_sameEp a.Old { N := 0, Key := [], Seq := 0, Win := { Top := 0, Bits := [] : PWin } : PEp }) with h | h
  ·iterate 3 refine sk h ?_
   refine pf (vb false) wN h ?_
   refine aw (vb false) ?_
   refine n1 ?_
   refine rt (vb false) ?_
   refine ⟨O.keep0, ?_⟩
   simp only [i_oldOk, g, h, cond_true, cond_false]
   exact rfl
  refine pu (vp e 13) (wS h) ?_
  have V := (l.kp M)
  refine ld (vi a.Until) (wS h) isAgg_3 V ?_
  refine pu (vb (decide (a.Until = 0))) (wS h) ?_
  refine pk (vb (decide (a.Until = 0))) wN h ?_
  refine aw (vb (decide (a.Until = 0))) ?_
  refine n1 ?_
  refine rt (vb (decide (a.Until = 0))) ?_
  refine ⟨O.keep0, ?_⟩
  simp only [i_oldOk, g, h, cond_true, cond_false]
  exact rfl
 refine cf (cA not g) ?_
 refine y2 ?_
 refine jT1 [(1, (vp e 0)), (2, (vb false))] (i_oldOk a = false) ?_ fun P => ?_
 ·intro W u X ap
  have Y := j.extk X
  refine sr ?_
  refine aw (vb false) ?_
  refine n1 ?_
  refine rt (vb false) ?_
  refine ⟨Y.keep0, ?_⟩
  rw [W]
  exact rfl
 refine pu (vp e 7) wN ?_
 refine lN (L_92 a.Old m o p q) wN isAgg_92 sizeOf_92 l ?_
 refine cl wN (ciEpOk t _ a.Old (mR_92 (I.from0 j) J (K.from0 j) L)) ?_
 rintro _ u ⟨r, rfl⟩
 refine pu (vb (!(i_EpOk a.Old))) wN ?_
 refine mw (vb (!(i_EpOk a.Old))) ?_
 rcases bf (i_EpOk a.Old) with b | b
 ·iterate 8 refine sk (cA not b) ?_
  refine pk (vb true) wN (cA not b) ?_
  refine n2 ?_
  refine ct (Eq.refl true) ?_
  have Z : i_oldOk a = false := by simp only [i_oldOk, g, b, cond_true, cond_false]
  exact wj (P Z _ r)
 have aq := impl_EpOk_t b
 refine pu (vp e 7) (wS (cA not b)) ?_
 refine pu (vp e 7) (wS (cA not b)) ?_
 have s := (l.kp r)
 refine ld (vi a.Old.N) (wS (cA not b)) isAgg_3 s ?_
 refine pu (vp e 2) (wS (cA not b)) ?_
 refine pu (vp e 2) (wS (cA not b)) ?_
 refine ld (vi a.Cur.N) (wS (cA not b)) isAgg_3 s ?_
 refine ar (a.Cur.N - 1) (wS (cA not b)) ?_
 refine pu (vb (!(decide (a.Old.N = (a.Cur.N - 1))))) (wS (cA not b)) ?_
 refine pf (vb (!(decide (a.Old.N = (a.Cur.N - 1))))) wN (cA not b) ?_
 refine n2 ?_
 rcases bf (decide (a.Old.N = (a.Cur.N - 1))) with i | i
 ·have au := dF i
  refine ct (cA not i) ?_
  have aa : i_oldOk a = false := by simp only [i_oldOk, g, b, i, cond_true, cond_false]
  exact wj (P aa _ r)
 have av := dT i
 refine cf (cA not i) ?_
 refine y1 ?_
 refine pu (vp e 13) wN ?_
 refine ld (vi a.Until) wN isAgg_3 s ?_
 refine cl wN (ciwithin u a.Until 0 1000005) ?_
 rintro _ ax ⟨Q, rfl⟩
 have w := (j.extk r).extk Q
 refine mw (vb (i_within a.Until 0 1000005)) ?_
 rcases bt (i_within a.Until 0 1000005) with d | d
 ·have ay := impl_within_t d
  iterate 4 refine sk d ?_
  refine su ?_
  refine su ?_
  refine su ?_
  refine sk d ?_
  refine pk (vb true) wN d ?_
  refine aw (vb true) ?_
  refine n3 ?_
  refine rt (vb true) ?_
  refine ⟨w.keep0, ?_⟩
  simp only [i_oldOk, g, b, i, d, cond_true, cond_false]
  exact rfl
 have az := impl_within_f d
 refine pu (vp e 13) (wS d) ?_
 have R := (s.kp Q)
 refine ld (vi a.Until) (wS d) isAgg_3 R ?_
 refine pu (vb (decide (a.Until = (-1)))) (wS d) ?_
 refine mv (vb (decide (a.Until = (-1)))) (wS d) ?_
 rcases bf (decide (a.Until = (-1))) with f | f
 ·have a0 := dF f
  iterate 3 refine sk f ?_
  refine pf (vb false) (wS d) f ?_
  refine pf (vb false) wN d ?_
  refine aw (vb false) ?_
  refine n3 ?_
  refine rt (vb false) ?_
  refine ⟨w.keep0, ?_⟩
  simp only [i_oldOk, g, b, i, d, f, cond_true, cond_false]
  exact rfl
 have a1 := dT f
 refine pu (vp e 0) (wS f) ?_
 refine ld (vi a.Role) (wS f) isAgg_3 R ?_
 refine pu (vb (decide (a.Role = 1))) (wS f) ?_
 refine pk (vb (decide (a.Role = 1))) (wS d) f ?_
 refine pf (vb (decide (a.Role = 1))) wN d ?_
 refine aw (vb (decide (a.Role = 1))) ?_
 refine n3 ?_
 refine rt (vb (decide (a.Role = 1))) ?_
 refine ⟨w.keep0, ?_⟩
 simp only [i_oldOk, g, b, i, d, f, cond_true, cond_false]
 exact rfl

theorem isAgg_94 : ∀ w, (isAgg 94).run Try.prog w = .ok true w := fun w => by kernel_rfl
theorem sizeOf_94 : ∀ w, (sizeOf 94).run Try.prog w = .ok 15 w := fun w => by kernel_rfl
theorem mR_94 {w : World} {x : PChan} {a : Option Addr} {b : Nat} {d : Option Addr} {e : Nat} {f : Option Addr} {g : Nat} {h : Option Addr} {i : Nat} {j : Option Addr} {k : Nat} {l : Option Addr} {m : Nat} (o : Rd w 1 (.slice a x.Sn.length b) x.Sn.length (x.Sn.map bV)) (p : x.Sn.length ≤ 1073741824) (q : Rd w 1 (.slice d x.Cur.Key.length e) x.Cur.Key.length (x.Cur.Key.map bV)) (r : x.Cur.Key.length ≤ 1073741824) (s : Rd w 1 (.slice f x.Cur.Win.Bits.length g) x.Cur.Win.Bits.length (x.Cur.Win.Bits.map iV)) (t : x.Cur.Win.Bits.length ≤ 1073741824) (u : Rd w 1 (.slice h x.Old.Key.length i) x.Old.Key.length (x.Old.Key.map bV)) (v : x.Old.Key.length ≤ 1073741824) (y : Rd w 1 (.slice j x.Old.Win.Bits.length k) x.Old.Win.Bits.length (x.Old.Win.Bits.map iV)) (A : x.Old.Win.Bits.length ≤ 1073741824) (B : Rd w 1 (.slice l x.Next.length m) x.Next.length (x.Next.map bV)) (C : x.Next.length ≤ 1073741824) : R_94 w (va (L_94 x a b d e f g h i j k l m)) x := ⟨_, _, _, _, _, _, _, _, _, _, _, _, rfl, o, p, q, r, s, t, u, v, y, A, B, C⟩
def i_ChanOk (a : PChan) : (Bool) := bif (i_isRole a.Role) then (bif (i_isNonce a.Sn) then (bif (i_EpOk a.Cur) then (bif (i_oldOk a) then (bif (decide ((a.Next.length : Int) = 0)) then (true) else (bif (decide (a.Role = 0)) then (bif (decide ((a.Next.length : Int) = 32)) then (decide (a.Cur.N < 4294967295)) else (false)) else (false))) else (false)) else (false)) else (false)) else (false)
theorem ciChanOk (o : World) (K : Value) (a : PChan) (ab : R_94 o K a)  : Fn Try.prog 141 #[K] o (fun v L => Keep o L ∧ O_4 L o.heap.size v (i_ChanOk a)) := by
 obtain ⟨s, t, u, w, x, y, D, E, F, G, p, q, rfl, M, O, P, Q, R, S, ac, ad, ae, af, H, ah⟩ := ab
 refine fn_ofS (n := 45) [(va (L_94 a s t u w x y D E F G p q))] Try.func141 rfl rfl ?_
 refine sr ?_
 refine bx (L_94 a s t u w x y D E F G p q) wN ?_
 intro i ai ay az aj T
 have V := (Ch.base o).extk aj
 refine aw (vb false) ?_
 refine n4 ?_
 refine jT1 [(1, (vp i 0)), (2, (vb false))] (i_ChanOk a = false) ?_ fun A => ?_
 ·intro ak W am a0
  have an := V.extk am
  refine sr ?_
  refine aw (vb false) ?_
  refine n1 ?_
  refine rt (vb false) ?_
  refine ⟨an.keep0, ?_⟩
  rw [ak]
  exact rfl
 refine pu (vp i 0) wN ?_
 refine ld (vi a.Role) wN isAgg_3 T ?_
 refine cl wN (ciisRole ai a.Role) ?_
 rintro _ W ⟨l, rfl⟩
 have X := V.extk l
 refine pu (vb (!(i_isRole a.Role))) wN ?_
 refine mw (vb (!(i_isRole a.Role))) ?_
 rcases bf (i_isRole a.Role) with d | d
 ·iterate 4 refine sk (cA not d) ?_
  refine pk (vb true) wN (cA not d) ?_
  refine mw (vb true) ?_
  iterate 4 refine sk (Eq.refl true) ?_
  refine pk (vb true) wN (Eq.refl true) ?_
  refine mw (vb true) ?_
  iterate 3 refine sk (Eq.refl true) ?_
  refine pk (vb true) wN (Eq.refl true) ?_
  refine n2 ?_
  refine ct (Eq.refl true) ?_
  have ao : i_ChanOk a = false := by simp only [i_ChanOk, d, cond_true, cond_false]
  exact wj (A ao _ l)
 refine pu (vp i 1) (wS (cA not d)) ?_
 have Y := (T.kp l)
 refine ld (vs s a.Sn.length t) (wS (cA not d)) isAgg_22 Y ?_
 refine cl (wS (cA not d)) (ciisNonce W _ a.Sn (mR_22 (M.from0 X) O)) ?_
 rintro _ ap ⟨r, rfl⟩
 have I := X.extk r
 refine pu (vb (!(i_isNonce a.Sn))) (wS (cA not d)) ?_
 refine pf (vb (!(i_isNonce a.Sn))) wN (cA not d) ?_
 refine mw (vb (!(i_isNonce a.Sn))) ?_
 rcases bf (i_isNonce a.Sn) with e | e
 ·iterate 4 refine sk (cA not e) ?_
  refine pk (vb true) wN (cA not e) ?_
  refine mw (vb true) ?_
  iterate 3 refine sk (Eq.refl true) ?_
  refine pk (vb true) wN (Eq.refl true) ?_
  refine n2 ?_
  refine ct (Eq.refl true) ?_
  have aq : i_ChanOk a = false := by simp only [i_ChanOk, d, e, cond_true, cond_false]
  exact wj (A aq _ (l.trans r))
 refine pu (vp i 2) (wS (cA not e)) ?_
 have Z := (Y.kp r)
 refine lN (L_92 a.Cur u w x y) (wS (cA not e)) isAgg_92 sizeOf_92 Z ?_
 refine cl (wS (cA not e)) (ciEpOk ap _ a.Cur (mR_92 (P.from0 I) Q (R.from0 I) S)) ?_
 rintro _ au ⟨B, rfl⟩
 have k := I.extk B
 refine pu (vb (!(i_EpOk a.Cur))) (wS (cA not e)) ?_
 refine pf (vb (!(i_EpOk a.Cur))) wN (cA not e) ?_
 refine mw (vb (!(i_EpOk a.Cur))) ?_
 rcases bf (i_EpOk a.Cur) with f | f
 ·iterate 3 refine sk (cA not f) ?_
  refine pk (vb true) wN (cA not f) ?_
  refine n2 ?_
  refine ct (Eq.refl true) ?_
  have av : i_ChanOk a = false := by simp only [i_ChanOk, d, e, f, cond_true, cond_false]
  exact wj (A av _ ((l.trans r).trans B))
 have a1 := impl_EpOk_t f
 have aa := (Z.kp B)
 refine lN (L_94 a s t u w x y D E F G p q) (wS (cA not f)) isAgg_94 sizeOf_94 aa ?_
 refine cl (wS (cA not f)) (cioldOk au _ a (mR_94 (M.from0 k) O (P.from0 k) Q (R.from0 k) S (ac.from0 k) ad (ae.from0 k) af (H.from0 k) ah) (by omega) (by omega)) ?_
 rintro _ a2 ⟨J, rfl⟩
 have m := k.extk J
 refine pu (vb (!(i_oldOk a))) (wS (cA not f)) ?_
 refine pf (vb (!(i_oldOk a))) wN (cA not f) ?_
 refine n2 ?_
 rcases bf (i_oldOk a) with j | j
 ·refine ct (cA not j) ?_
  have ax : i_ChanOk a = false := by simp only [i_ChanOk, d, e, f, j, cond_true, cond_false]
  exact wj (A ax _ (((l.trans r).trans B).trans J))
 refine cf (cA not j) ?_
 refine y1 ?_
 refine pu (vp i 14) wN ?_
 have C := (aa.kp J)
 refine ld (vs p a.Next.length q) wN isAgg_22 C ?_
 refine ln wN slTy_22 (H.from0 m) ?_
 refine pu (vb (decide ((a.Next.length : Int) = 0))) wN ?_
 refine mw (vb (decide ((a.Next.length : Int) = 0))) ?_
 rcases bt (decide ((a.Next.length : Int) = 0)) with b | b
 ·have a3 := dT b
  iterate 4 refine sk b ?_
  refine su ?_
  refine su ?_
  refine su ?_
  refine su ?_
  iterate 2 refine sk b ?_
  refine su ?_
  refine su ?_
  refine su ?_
  refine su ?_
  refine sk b ?_
  refine pk (vb true) wN b ?_
  refine aw (vb true) ?_
  refine n3 ?_
  refine rt (vb true) ?_
  refine ⟨m.keep0, ?_⟩
  simp only [i_ChanOk, d, e, f, j, b, cond_true, cond_false]
  exact rfl
 have a4 := dF b
 refine pu (vp i 0) (wS b) ?_
 refine ld (vi a.Role) (wS b) isAgg_3 C ?_
 refine pu (vb (decide (a.Role = 0))) (wS b) ?_
 refine mv (vb (decide (a.Role = 0))) (wS b) ?_
 rcases bf (decide (a.Role = 0)) with g | g
 ·have a5 := dF g
  iterate 4 refine sk g ?_
  refine pf (vb false) (wS b) g ?_
  refine mv (vb false) (wS b) ?_
  iterate 4 refine sk (Eq.refl false) ?_
  refine pf (vb false) (wS b) (Eq.refl false) ?_
  refine pf (vb false) wN b ?_
  refine aw (vb false) ?_
  refine n3 ?_
  refine rt (vb false) ?_
  refine ⟨m.keep0, ?_⟩
  simp only [i_ChanOk, d, e, f, j, b, g, cond_true, cond_false]
  exact rfl
 have a6 := dT g
 refine pu (vp i 14) (wS g) ?_
 refine ld (vs p a.Next.length q) (wS g) isAgg_22 C ?_
 refine ln (wS g) slTy_22 (H.from0 m) ?_
 refine pu (vb (decide ((a.Next.length : Int) = 32))) (wS g) ?_
 refine pk (vb (decide ((a.Next.length : Int) = 32))) (wS b) g ?_
 refine mv (vb (decide ((a.Next.length : Int) = 32))) (wS b) ?_
 rcases bf (decide ((a.Next.length : Int) = 32)) with h | h
 ·have a7 := dF h
  iterate 4 refine sk h ?_
  refine pf (vb false) (wS b) h ?_
  refine pf (vb false) wN b ?_
  refine aw (vb false) ?_
  refine n3 ?_
  refine rt (vb false) ?_
  refine ⟨m.keep0, ?_⟩
  simp only [i_ChanOk, d, e, f, j, b, g, h, cond_true, cond_false]
  exact rfl
 have a8 := dT h
 refine pu (vp i 2) (wS h) ?_
 refine pu (vp i 2) (wS h) ?_
 refine ld (vi a.Cur.N) (wS h) isAgg_3 C ?_
 refine pu (vb (decide (a.Cur.N < 4294967295))) (wS h) ?_
 refine pk (vb (decide (a.Cur.N < 4294967295))) (wS b) h ?_
 refine pf (vb (decide (a.Cur.N < 4294967295))) wN b ?_
 refine aw (vb (decide (a.Cur.N < 4294967295))) ?_
 refine n3 ?_
 refine rt (vb (decide (a.Cur.N < 4294967295))) ?_
 refine ⟨m.keep0, ?_⟩
 simp only [i_ChanOk, d, e, f, j, b, g, h, cond_true, cond_false]
 exact rfl
theorem impl_ChanOk_t {c : PChan} (h : i_ChanOk c = true) : 0 ≤ c.Cur.N ∧ c.Cur.N ≤ 4294967295 := by
  cases h1 : i_EpOk c.Cur with
  | false => simp [i_ChanOk, h1] at h
  | true => exact ⟨(impl_EpOk_t h1).1, (impl_EpOk_t h1).2.1⟩

abbrev L_98 (x : PClient) (a : Option Addr) (b : Nat) (d : Option Addr) (e : Nat) (f : Option Addr) (g : Nat) (h : Option Addr) (i : Nat) (j : Option Addr) (k : Nat) (l : Option Addr) (m : Nat) (o : Option Addr) (p : Nat) (q : Option Addr) (r : Nat) (s : Option Addr) (t : Nat) (u : Option Addr) (v : Nat) (w : Option Addr) (y : Nat) (A : Option Addr) (B : Nat) (D : Option Addr) (E : Nat) (F : Option Addr) (G : Nat) : List Value := [vi x.Id, vs a x.Psk.length b, vi x.At.Host, vi x.At.Port, vi x.St, vs d x.Cn.length e, vi x.Fin.Kind, vi x.Fin.Id, vs f x.Fin.Cn.length g, vs h x.Fin.Sn.length i, vi x.Fin.Tick, vs j x.Fin.Cookie.length k, vs l x.Fin.Proof.length m, vi x.Fin.Epoch, vi x.Fin.Seq, vs o x.Fin.Body.length p, vs q x.Fin.Tag.length r, vi x.C.Role, vs s x.C.Sn.length t, vi x.C.Cur.N, vs u x.C.Cur.Key.length v, vi x.C.Cur.Seq, vi x.C.Cur.Win.Top, vs w x.C.Cur.Win.Bits.length y, vi x.C.Old.N, vs A x.C.Old.Key.length B, vi x.C.Old.Seq, vi x.C.Old.Win.Top, vs D x.C.Old.Win.Bits.length E, vb x.C.HasOld, vi x.C.Until, vs F x.C.Next.length G, vb x.T.On, vi x.T.Due, vi x.T.Wait, vi x.T.Tries, vb x.R.On, vi x.R.Due, vi x.R.Wait, vi x.R.Tries, vi x.Last]
def R_98 (w : World) (v : Value) (x : (PClient)) : Prop := ∃ (a : Option Addr) (b : Nat) (d : Option Addr) (e : Nat) (f : Option Addr) (g : Nat) (h : Option Addr) (i : Nat) (j : Option Addr) (k : Nat) (l : Option Addr) (m : Nat) (o : Option Addr) (p : Nat) (q : Option Addr) (r : Nat) (s : Option Addr) (t : Nat) (u : Option Addr) (y : Nat) (A : Option Addr) (B : Nat) (D : Option Addr) (E : Nat) (F : Option Addr) (G : Nat) (H : Option Addr) (I : Nat), v = .agg #[.int .i64 x.Id, .slice a x.Psk.length b, .int .i64 x.At.Host, .int .i64 x.At.Port, .int .i64 x.St, .slice d x.Cn.length e, .int .i64 x.Fin.Kind, .int .i64 x.Fin.Id, .slice f x.Fin.Cn.length g, .slice h x.Fin.Sn.length i, .int .i64 x.Fin.Tick, .slice j x.Fin.Cookie.length k, .slice l x.Fin.Proof.length m, .int .i64 x.Fin.Epoch, .int .i64 x.Fin.Seq, .slice o x.Fin.Body.length p, .slice q x.Fin.Tag.length r, .int .i64 x.C.Role, .slice s x.C.Sn.length t, .int .i64 x.C.Cur.N, .slice u x.C.Cur.Key.length y, .int .i64 x.C.Cur.Seq, .int .i64 x.C.Cur.Win.Top, .slice A x.C.Cur.Win.Bits.length B, .int .i64 x.C.Old.N, .slice D x.C.Old.Key.length E, .int .i64 x.C.Old.Seq, .int .i64 x.C.Old.Win.Top, .slice F x.C.Old.Win.Bits.length G, .bool x.C.HasOld, .int .i64 x.C.Until, .slice H x.C.Next.length I, .bool x.T.On, .int .i64 x.T.Due, .int .i64 x.T.Wait, .int .i64 x.T.Tries, .bool x.R.On, .int .i64 x.R.Due, .int .i64 x.R.Wait, .int .i64 x.R.Tries, .int .i64 x.Last] ∧ Rd w 1 (.slice a x.Psk.length b) x.Psk.length (x.Psk.map bV) ∧ x.Psk.length ≤ 1073741824 ∧ Rd w 1 (.slice d x.Cn.length e) x.Cn.length (x.Cn.map bV) ∧ x.Cn.length ≤ 1073741824 ∧ Rd w 1 (.slice f x.Fin.Cn.length g) x.Fin.Cn.length (x.Fin.Cn.map bV) ∧ x.Fin.Cn.length ≤ 1073741824 ∧ Rd w 1 (.slice h x.Fin.Sn.length i) x.Fin.Sn.length (x.Fin.Sn.map bV) ∧ x.Fin.Sn.length ≤ 1073741824 ∧ Rd w 1 (.slice j x.Fin.Cookie.length k) x.Fin.Cookie.length (x.Fin.Cookie.map bV) ∧ x.Fin.Cookie.length ≤ 1073741824 ∧ Rd w 1 (.slice l x.Fin.Proof.length m) x.Fin.Proof.length (x.Fin.Proof.map bV) ∧ x.Fin.Proof.length ≤ 1073741824 ∧ Rd w 1 (.slice o x.Fin.Body.length p) x.Fin.Body.length (x.Fin.Body.map bV) ∧ x.Fin.Body.length ≤ 1073741824 ∧ Rd w 1 (.slice q x.Fin.Tag.length r) x.Fin.Tag.length (x.Fin.Tag.map bV) ∧ x.Fin.Tag.length ≤ 1073741824 ∧ Rd w 1 (.slice s x.C.Sn.length t) x.C.Sn.length (x.C.Sn.map bV) ∧ x.C.Sn.length ≤ 1073741824 ∧ Rd w 1 (.slice u x.C.Cur.Key.length y) x.C.Cur.Key.length (x.C.Cur.Key.map bV) ∧ x.C.Cur.Key.length ≤ 1073741824 ∧ Rd w 1 (.slice A x.C.Cur.Win.Bits.length B) x.C.Cur.Win.Bits.length (x.C.Cur.Win.Bits.map iV) ∧ x.C.Cur.Win.Bits.length ≤ 1073741824 ∧ Rd w 1 (.slice D x.C.Old.Key.length E) x.C.Old.Key.length (x.C.Old.Key.map bV) ∧ x.C.Old.Key.length ≤ 1073741824 ∧ Rd w 1 (.slice F x.C.Old.Win.Bits.length G) x.C.Old.Win.Bits.length (x.C.Old.Win.Bits.map iV) ∧ x.C.Old.Win.Bits.length ≤ 1073741824 ∧ Rd w 1 (.slice H x.C.Next.length I) x.C.Next.length (x.C.Next.map bV) ∧ x.C.Next.length ≤ 1073741824
def i_finishOk (a : PClient) : (Bool) := bif (i_isNonce a.Cn) then (bif (decide (a.Fin.Kind = 3)) then (bif (i_FrameOk a.Fin) then (bif (decide (a.Fin.Id = a.Id)) then (bif (b_Equal a.Fin.Cn a.Cn) then (bif (i_ChanOk a.C) then (bif (decide (a.C.Role = 0)) then (bif (b_Equal a.C.Sn a.Fin.Sn) then (bif (decide (a.C.Cur.N = 0)) then (bif a.C.HasOld then (false) else (decide ((a.C.Next.length : Int) = 0))) else (false)) else (false)) else (false)) else (false)) else (false)) else (false)) else (false)) else (false)) else (false)
theorem cifinishOk (r : World) (aj : Value) (a : PClient) (a6 : R_98 r aj a)  : Fn Try.prog 140 #[aj] r (fun v ak => Keep r ak ∧ O_4 ak r.heap.size v (i_finishOk a)) := by
 obtain ⟨am, an, y, A, B, D, E, F, L, M, O, P, Q, R, S, T, G, H, V, W, X, Y, Z, aa, ab, ac, I, J, rfl, bb, bc, ao, ap, aq, au, av, ax, a7, a8, a9, aA, aB, aC, aD, aE, ay, az, aF, aG, aH, aI, aJ, aK, aL, aM, a0, aN⟩ := a6
 refine fn_ofS (n := 74) [(va (L_98 a am an y A B D E F L M O P Q R S T G H V W X Y Z aa ab ac I J))] Try.func140 rfl rfl ?_
 refine sr ?_
 refine bx (L_98 a am an y A B D E F L M O P Q R S T G H V W X Y Z aa ab ac I J) wN ?_
 intro b aO bd be aP a1
 have ad := (Ch.base r).extk aP
 refine aw (vb false) ?_
 refine n4 ?_
 refine jT1 [(1, (vp b 0)), (2, (vb false))] (i_finishOk a = false) ?_ fun s => ?_
 ·intro aQ a2 aR bg
  have aS := ad.extk aR
  refine sr ?_
  refine aw (vb false) ?_
  refine n1 ?_
  refine rt (vb false) ?_
  refine ⟨aS.keep0, ?_⟩
  rw [aQ]
  exact rfl
 refine pu (vp b 5) wN ?_
 refine ld (vs y a.Cn.length A) wN isAgg_22 a1 ?_
 refine cl wN (ciisNonce aO _ a.Cn (mR_22 (ao.from0 ad) ap)) ?_
 rintro _ a2 ⟨o, rfl⟩
 have p := ad.extk o
 refine pu (vb (!(i_isNonce a.Cn))) wN ?_
 refine mw (vb (!(i_isNonce a.Cn))) ?_
 rcases bf (i_isNonce a.Cn) with f | f
 ·iterate 4 refine sk (cA not f) ?_
  refine pk (vb true) wN (cA not f) ?_
  refine mw (vb true) ?_
  iterate 4 refine sk (Eq.refl true) ?_
  refine pk (vb true) wN (Eq.refl true) ?_
  refine mw (vb true) ?_
  iterate 6 refine sk (Eq.refl true) ?_
  refine pk (vb true) wN (Eq.refl true) ?_
  refine mw (vb true) ?_
  iterate 7 refine sk (Eq.refl true) ?_
  refine pk (vb true) wN (Eq.refl true) ?_
  refine n2 ?_
  refine ct (Eq.refl true) ?_
  have aT : i_finishOk a = false := by simp only [i_finishOk, f, cond_true, cond_false]
  exact wj (s aT _ o)
 refine pu (vp b 6) (wS (cA not f)) ?_
 refine pu (vp b 6) (wS (cA not f)) ?_
 have ae := (a1.kp o)
 refine ld (vi a.Fin.Kind) (wS (cA not f)) isAgg_3 ae ?_
 refine pu (vb (!(decide (a.Fin.Kind = 3)))) (wS (cA not f)) ?_
 refine pf (vb (!(decide (a.Fin.Kind = 3)))) wN (cA not f) ?_
 refine mw (vb (!(decide (a.Fin.Kind = 3)))) ?_
 rcases bf (decide (a.Fin.Kind = 3)) with e | e
 ·have bh := dF e
  iterate 4 refine sk (cA not e) ?_
  refine pk (vb true) wN (cA not e) ?_
  refine mw (vb true) ?_
  iterate 6 refine sk (Eq.refl true) ?_
  refine pk (vb true) wN (Eq.refl true) ?_
  refine mw (vb true) ?_
  iterate 7 refine sk (Eq.refl true) ?_
  refine pk (vb true) wN (Eq.refl true) ?_
  refine n2 ?_
  refine ct (Eq.refl true) ?_
  have aU : i_finishOk a = false := by simp only [i_finishOk, f, e, cond_true, cond_false]
  exact wj (s aU _ o)
 have bi := dT e
 refine pu (vp b 6) (wS (cA not e)) ?_
 refine lN (L_87 a.Fin B D E F L M O P Q R S T) (wS (cA not e)) isAgg_87 sizeOf_87 ae ?_
 refine cl (wS (cA not e)) (ciFrameOk a2 _ a.Fin (mR_87 (aq.from0 p) au (av.from0 p) ax (a7.from0 p) a8 (a9.from0 p) aA (aB.from0 p) aC (aD.from0 p) aE)) ?_
 rintro _ aV ⟨t, rfl⟩
 have af := p.extk t
 refine pu (vb (!(i_FrameOk a.Fin))) (wS (cA not e)) ?_
 refine pf (vb (!(i_FrameOk a.Fin))) wN (cA not e) ?_
 refine mw (vb (!(i_FrameOk a.Fin))) ?_
 rcases bf (i_FrameOk a.Fin) with g | g
 ·iterate 6 refine sk (cA not g) ?_
  refine pk (vb true) wN (cA not g) ?_
  refine mw (vb true) ?_
  iterate 7 refine sk (Eq.refl true) ?_
  refine pk (vb true) wN (Eq.refl true) ?_
  refine n2 ?_
  refine ct (Eq.refl true) ?_
  have aW : i_finishOk a = false := by simp only [i_finishOk, f, e, g, cond_true, cond_false]
  exact wj (s aW _ (o.trans t))
 refine pu (vp b 6) (wS (cA not g)) ?_
 refine pu (vp b 7) (wS (cA not g)) ?_
 have u := (ae.kp t)
 refine ld (vi a.Fin.Id) (wS (cA not g)) isAgg_3 u ?_
 refine pu (vp b 0) (wS (cA not g)) ?_
 refine ld (vi a.Id) (wS (cA not g)) isAgg_3 u ?_
 refine pu (vb (!(decide (a.Fin.Id = a.Id)))) (wS (cA not g)) ?_
 refine pf (vb (!(decide (a.Fin.Id = a.Id)))) wN (cA not g) ?_
 refine mw (vb (!(decide (a.Fin.Id = a.Id)))) ?_
 rcases bf (decide (a.Fin.Id = a.Id)) with d | d
 ·have bj := dF d
  iterate 7 refine sk (cA not d) ?_
  refine pk (vb true) wN (cA not d) ?_
  refine n2 ?_
  refine ct (Eq.refl true) ?_
  have aX : i_finishOk a = false := by simp only [i_finishOk, f, e, g, d, cond_true, cond_false]
  exact wj (s aX _ (o.trans t))
 have bk := dT d
 refine pu (vp b 6) (wS (cA not d)) ?_
 refine pu (vp b 8) (wS (cA not d)) ?_
 refine ld (vs B a.Fin.Cn.length D) (wS (cA not d)) isAgg_22 u ?_
 refine pu (vp b 5) (wS (cA not d)) ?_
 refine ld (vs y a.Cn.length A) (wS (cA not d)) isAgg_22 u ?_
 refine cl (wS (cA not d)) (cbEqual aV _ a.Fin.Cn (mR_22 (aq.from0 af) au) _ a.Cn (mR_22 (ao.from0 af) ap)) ?_
 rintro _ aY ⟨ah, rfl⟩
 have q := af.extk ah
 refine pu (vb (!(b_Equal a.Fin.Cn a.Cn))) (wS (cA not d)) ?_
 refine pf (vb (!(b_Equal a.Fin.Cn a.Cn))) wN (cA not d) ?_
 refine n2 ?_
 rcases bf (b_Equal a.Fin.Cn a.Cn) with m | m
 ·refine ct (cA not m) ?_
  have aZ : i_finishOk a = false := by simp only [i_finishOk, f, e, g, d, m, cond_true, cond_false]
  exact wj (s aZ _ ((o.trans t).trans ah))
 refine cf (cA not m) ?_
 refine y1 ?_
 refine pu (vp b 17) wN ?_
 have a3 := (u.kp ah)
 refine lN (L_94 a.C G H V W X Y Z aa ab ac I J) wN isAgg_94 sizeOf_94 a3 ?_
 refine cl wN (ciChanOk aY _ a.C (mR_94 (ay.from0 q) az (aF.from0 q) aG (aH.from0 q) aI (aJ.from0 q) aK (aL.from0 q) aM (a0.from0 q) aN)) ?_
 rintro _ ba ⟨a4, rfl⟩
 have w := q.extk a4
 refine mw (vb (i_ChanOk a.C)) ?_
 rcases bf (i_ChanOk a.C) with i | i
 ·iterate 4 refine sk i ?_
  refine pf (vb false) wN i ?_
  refine mw (vb false) ?_
  iterate 7 refine sk (Eq.refl false) ?_
  refine pf (vb false) wN (Eq.refl false) ?_
  refine mw (vb false) ?_
  iterate 5 refine sk (Eq.refl false) ?_
  refine pf (vb false) wN (Eq.refl false) ?_
  refine mw (vb false) ?_
  iterate 4 refine sk (Eq.refl false) ?_
  refine pf (vb false) wN (Eq.refl false) ?_
  refine mw (vb false) ?_
  iterate 5 refine sk (Eq.refl false) ?_
  refine pf (vb false) wN (Eq.refl false) ?_
  refine aw (vb false) ?_
  refine n3 ?_
  refine rt (vb false) ?_
  refine ⟨w.keep0, ?_⟩
  simp only [i_finishOk, f, e, g, d, m, i, cond_true, cond_false]
  exact rfl
 have bl := impl_ChanOk_t i
 refine pu (vp b 17) (wS i) ?_
 refine pu (vp b 17) (wS i) ?_
 have K := (a3.kp a4)
 refine ld (vi a.C.Role) (wS i) isAgg_3 K ?_
 refine pu (vb (decide (a.C.Role = 0))) (wS i) ?_
 refine pk (vb (decide (a.C.Role = 0))) wN i ?_
 refine mw (vb (decide (a.C.Role = 0))) ?_
 rcases bf (decide (a.C.Role = 0)) with h | h
 ·have bm := dF h
  iterate 7 refine sk h ?_
  refine pf (vb false) wN h ?_
  refine mw (vb false) ?_
  iterate 5 refine sk (Eq.refl false) ?_
  refine pf (vb false) wN (Eq.refl false) ?_
  refine mw (vb false) ?_
  iterate 4 refine sk (Eq.refl false) ?_
  refine pf (vb false) wN (Eq.refl false) ?_
  refine mw (vb false) ?_
  iterate 5 refine sk (Eq.refl false) ?_
  refine pf (vb false) wN (Eq.refl false) ?_
  refine aw (vb false) ?_
  refine n3 ?_
  refine rt (vb false) ?_
  refine ⟨w.keep0, ?_⟩
  simp only [i_finishOk, f, e, g, d, m, i, h, cond_true, cond_false]
  exact rfl
 have bn := dT h
 refine pu (vp b 17) (wS h) ?_
 refine pu (vp b 18) (wS h) ?_
 refine ld (vs G a.C.Sn.length H) (wS h) isAgg_22 K ?_
 refine pu (vp b 6) (wS h) ?_
 refine pu (vp b 9) (wS h) ?_
 refine ld (vs E a.Fin.Sn.length F) (wS h) isAgg_22 K ?_
 refine cl (wS h) (cbEqual ba _ a.C.Sn (mR_22 (ay.from0 w) az) _ a.Fin.Sn (mR_22 (av.from0 w) ax)) ?_
 rintro _ bo ⟨a5, rfl⟩
 have x := w.extk a5
 refine pk (vb (b_Equal a.C.Sn a.Fin.Sn)) wN h ?_
 refine mw (vb (b_Equal a.C.Sn a.Fin.Sn)) ?_
 rcases bf (b_Equal a.C.Sn a.Fin.Sn) with j | j
 ·iterate 5 refine sk j ?_
  refine pf (vb false) wN j ?_
  refine mw (vb false) ?_
  iterate 4 refine sk (Eq.refl false) ?_
  refine pf (vb false) wN (Eq.refl false) ?_
  refine mw (vb false) ?_
  iterate 5 refine sk (Eq.refl false) ?_
  refine pf (vb false) wN (Eq.refl false) ?_
  refine aw (vb false) ?_
  refine n3 ?_
  refine rt (vb false) ?_
  refine ⟨x.keep0, ?_⟩
  simp only [i_finishOk, f, e, g, d, m, i, h, j, cond_true, cond_false]
  exact rfl
 refine pu (vp b 17) (wS j) ?_
 refine pu (vp b 19) (wS j) ?_
 refine pu (vp b 19) (wS j) ?_
 have ai := (K.kp a5)
 refine ld (vi a.C.Cur.N) (wS j) isAgg_3 ai ?_
 refine pu (vb (decide (a.C.Cur.N = 0))) (wS j) ?_
 refine pk (vb (decide (a.C.Cur.N = 0))) wN j ?_
 refine mw (vb (decide (a.C.Cur.N = 0))) ?_
 rcases bf (decide (a.C.Cur.N = 0)) with k | k
 ·have bp := dF k
  iterate 4 refine sk k ?_
  refine pf (vb false) wN k ?_
  refine mw (vb false) ?_
  iterate 5 refine sk (Eq.refl false) ?_
  refine pf (vb false) wN (Eq.refl false) ?_
  refine aw (vb false) ?_
  refine n3 ?_
  refine rt (vb false) ?_
  refine ⟨x.keep0, ?_⟩
  simp only [i_finishOk, f, e, g, d, m, i, h, j, k, cond_true, cond_false]
  exact rfl
 have bq := dT k
 refine pu (vp b 17) (wS k) ?_
 refine pu (vp b 29) (wS k) ?_
 refine ld (vb a.C.HasOld) (wS k) isAgg_4 ai ?_
 refine pu (vb (!a.C.HasOld)) (wS k) ?_
 refine pk (vb (!a.C.HasOld)) wN k ?_
 refine mw (vb (!a.C.HasOld)) ?_
 rcases bt a.C.HasOld with l | l
 ·iterate 5 refine sk (cA not l) ?_
  refine pf (vb false) wN (cA not l) ?_
  refine aw (vb false) ?_
  refine n3 ?_
  refine rt (vb false) ?_
  refine ⟨x.keep0, ?_⟩
  simp only [i_finishOk, f, e, g, d, m, i, h, j, k, l, cond_true, cond_false]
  exact rfl
 refine pu (vp b 17) (wS (cA not l)) ?_
 refine pu (vp b 31) (wS (cA not l)) ?_
 refine ld (vs I a.C.Next.length J) (wS (cA not l)) isAgg_22 ai ?_
 refine ln (wS (cA not l)) slTy_22 (a0.from0 x) ?_
 refine pu (vb (decide ((a.C.Next.length : Int) = 0))) (wS (cA not l)) ?_
 refine pk (vb (decide ((a.C.Next.length : Int) = 0))) wN (cA not l) ?_
 refine aw (vb (decide ((a.C.Next.length : Int) = 0))) ?_
 refine n3 ?_
 refine rt (vb (decide ((a.C.Next.length : Int) = 0))) ?_
 refine ⟨x.keep0, ?_⟩
 simp only [i_finishOk, f, e, g, d, m, i, h, j, k, l, cond_true, cond_false]
 exact rfl
end Go.Proofs.Ytjcahjhnnagkdaa.K
