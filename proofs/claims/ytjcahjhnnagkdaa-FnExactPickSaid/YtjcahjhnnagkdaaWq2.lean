import Derived.Test.YtjcahjhnnagkdaaCore
import Derived.Test.YtjcahjhnnagkdaaProg
import Derived.Test.YtjcahjhnnagkdaaHeld
import Derived.Test.YtjcahjhnnagkdaaFun
import Derived.Test.YtjcahjhnnagkdaaFunZ
import Derived.Test.YtjcahjhnnagkdaaMark
import Derived.Test.YtjcahjhnnagkdaaWq1
namespace Go.Proofs.Ytjcahjhnnagkdaa.K
open Go.RowKit
set_option linter.unusedVariables false
set_option linter.unusedSimpArgs false
set_option maxRecDepth 100000
set_option maxHeartbeats 4000000
theorem fieldAt_41_1 : ∀ a w, (Instr.fieldAt 41 (.pointer (some a)) 1).run Try.prog w = .ok (.pointer (some (a.add 1))) w := fun a w => by kernel_rfl
theorem fieldAt_41_2 : ∀ a w, (Instr.fieldAt 41 (.pointer (some a)) 2).run Try.prog w = .ok (.pointer (some (a.add 2))) w := fun a w => by kernel_rfl
theorem fieldAt_41_3 : ∀ a w, (Instr.fieldAt 41 (.pointer (some a)) 3).run Try.prog w = .ok (.pointer (some (a.add 3))) w := fun a w => by kernel_rfl
theorem fieldAt_41_4 : ∀ a w, (Instr.fieldAt 41 (.pointer (some a)) 4).run Try.prog w = .ok (.pointer (some (a.add 4))) w := fun a w => by kernel_rfl
theorem fieldAt_41_5 : ∀ a w, (Instr.fieldAt 41 (.pointer (some a)) 5).run Try.prog w = .ok (.pointer (some (a.add 5))) w := fun a w => by kernel_rfl
theorem fieldAt_41_6 : ∀ a w, (Instr.fieldAt 41 (.pointer (some a)) 6).run Try.prog w = .ok (.pointer (some (a.add 6))) w := fun a w => by kernel_rfl
theorem fieldAt_41_7 : ∀ a w, (Instr.fieldAt 41 (.pointer (some a)) 7).run Try.prog w = .ok (.pointer (some (a.add 7))) w := fun a w => by kernel_rfl
theorem fieldAt_41_8 : ∀ a w, (Instr.fieldAt 41 (.pointer (some a)) 8).run Try.prog w = .ok (.pointer (some (a.add 8))) w := fun a w => by kernel_rfl
theorem fieldAt_41_9 : ∀ a w, (Instr.fieldAt 41 (.pointer (some a)) 9).run Try.prog w = .ok (.pointer (some (a.add 9))) w := fun a w => by kernel_rfl
theorem fieldAt_26_0 : ∀ a w, (Instr.fieldAt 26 (.pointer (some a)) 0).run Try.prog w = .ok (.pointer (some (a.add 0))) w := fun a w => by kernel_rfl
theorem fieldAt_26_1 : ∀ a w, (Instr.fieldAt 26 (.pointer (some a)) 1).run Try.prog w = .ok (.pointer (some (a.add 1))) w := fun a w => by kernel_rfl
theorem fieldAt_41_10 : ∀ a w, (Instr.fieldAt 41 (.pointer (some a)) 10).run Try.prog w = .ok (.pointer (some (a.add 11))) w := fun a w => by kernel_rfl
def mkE_PNote (a : PNote) (k : Int) : PNote := { Kind := k, Id := ((k + 1)), Role := (((k + 1) + 1)), Cn := (marksB (((k + 1) + 1) + 1) a.Cn.length), Sn := (marksB ((((k + 1) + 1) + 1) + (a.Cn.length : Int)) a.Sn.length), Epoch := ((((((k + 1) + 1) + 1) + (a.Cn.length : Int)) + (a.Sn.length : Int))), Seq := (((((((k + 1) + 1) + 1) + (a.Cn.length : Int)) + (a.Sn.length : Int)) + 1)), Body := (marksB (((((((k + 1) + 1) + 1) + (a.Cn.length : Int)) + (a.Sn.length : Int)) + 1) + 1) a.Body.length), Key := (marksB ((((((((k + 1) + 1) + 1) + (a.Cn.length : Int)) + (a.Sn.length : Int)) + 1) + 1) + (a.Body.length : Int)) a.Key.length), A := { Host := ((((((((((k + 1) + 1) + 1) + (a.Cn.length : Int)) + (a.Sn.length : Int)) + 1) + 1) + (a.Body.length : Int)) + (a.Key.length : Int))), Port := (((((((((((k + 1) + 1) + 1) + (a.Cn.length : Int)) + (a.Sn.length : Int)) + 1) + 1) + (a.Body.length : Int)) + (a.Key.length : Int)) + 1)) : PAddr }, Now := ((((((((((((k + 1) + 1) + 1) + (a.Cn.length : Int)) + (a.Sn.length : Int)) + 1) + 1) + (a.Body.length : Int)) + (a.Key.length : Int)) + 1) + 1)) : PNote }
def wt_PNote (a : PNote) : Int := ((((((((((((0 + 1) + 1) + 1) + (a.Cn.length : Int)) + (a.Sn.length : Int)) + 1) + 1) + (a.Body.length : Int)) + (a.Key.length : Int)) + 1) + 1) + 1)
theorem C_laws_markNoteS (w0 : World) (a : Option Addr) (c : Nat) (x : List PNote) (lo hi : Nat) (k : Int) (h0 : 0 ≤ k) (h1 : k ≤ 4000000000000000000) (r : OLv LT_41 w0 lo hi a x.length c x) :
    Fn Try.prog 55 #[vs a x.length c, vi k] w0 (fun v w' => v = vi (k + totL wt_PNote x) ∧ Ch (RowS LT_41 w0 lo hi) w0 w' ∧ RLk LT_41 w' lo hi a x.length c (marksE mkE_PNote wt_PNote x k)) := by
 obtain ⟨y, hy, hn, hl, hC, hI⟩ := OLv.mark (mk := mkE_PNote) (wt := wt_PNote) (k := k) r
 have hwb : ∀ i, i ≤ x.length → 0 ≤ totL wt_PNote ((y.take i).map Prod.fst) ∧ totL wt_PNote ((y.take i).map Prod.fst) ≤ 4294967304 * (i : Int) := fun i hi => by rw [List.map_take, hy]; exact OLv.wb r (by intro x; simp only [wt_PNote]; omega) (by intro x hx; simp only [LT_41, List.mem_cons, List.not_mem_nil, or_false, forall_eq_or_imp, forall_eq] at hx; simp only [wt_PNote]; omega) i hi
 have hy0 : y.length = x.length := hC.len
 refine fn_of (n := 99) (l := [(vs a x.length c), (vi k), U, U, U, U, U, U, U, U, U, U, U, U, U, U, U, U, U, U, U, U, U, U, U, U, U, U, U, U, U, U, U, U, U, U, U, U, U, U, U, U, U, U, U, U, U, U, U, U, U, U, U, U, U, U, U, U, U, U, U, U, U, U, U, U, U, U, U, U, U, U, U, U, U, U, U, U, U, U, U, U, U, U, U, U, U, U, U, U, U, U, U, U, U, U, U, U, U]) Try.func55 rfl rfl (by kernel_rfl) rfl ?_
 refine sr ?_
 refine ag (vi 0) wN ?_
 refine wl_nil <| wq_then <| wc_seq <| sr ?_
 refine ag (vi 0) wN ?_
 refine wl_nil <| wq_then <| wc_block ?_
 refine wc_norm [(vs a x.length c), (vi k), U, U, (vi 0), (vi 0), U, U, U, U, U, U, U, U, U, U, U, U, U, U, U, U, U, U, U, U, U, U, U, U, U, U, U, U, U, U, U, U, U, U, U, U, U, U, U, U, U, U, U, U, U, U, U, U, U, U, U, U, U, U, U, U, U, U, U, U, U, U, U, U, U, U, U, U, U, U, U, U, U, U, U, U, U, U, U, U, U, U, U, U, U, U, U, U, U, U, U, U, U] rfl ⟨rfl, rfl, rfl, rfl, rfl, rfl, rfl, rfl, rfl, rfl, rfl, rfl, rfl, rfl, rfl, rfl, rfl, rfl, rfl, rfl, rfl, rfl, rfl, rfl, rfl, rfl, rfl, rfl, rfl, rfl, rfl, rfl, rfl, rfl, rfl, rfl, rfl, rfl, rfl, rfl, rfl, rfl, rfl, rfl, rfl, rfl, rfl, rfl, rfl, rfl, rfl, rfl, rfl, rfl, rfl, rfl, rfl, rfl, rfl, rfl, rfl, rfl, rfl, rfl, rfl, rfl, rfl, rfl, rfl, rfl, rfl, rfl, rfl, rfl, rfl, rfl, rfl, rfl, rfl, rfl, rfl, rfl, rfl, rfl, rfl, rfl, rfl, rfl, rfl, rfl, rfl, rfl, rfl, rfl, rfl, rfl, rfl, rfl, rfl, trivial⟩ ?_
 refine wc_loop (fun e' w' => ∃ (i : Nat) (u0 : Nat → Value), e' = lst [(vs a x.length c), (vi (k + totL wt_PNote ((y.take i).map Prod.fst))), U, U, (vi 0), (vi ((i : Nat) : Int)), (u0 0), (u0 1), (u0 2), (u0 3), (u0 4), (u0 5), (u0 6), (u0 7), (u0 8), (u0 9), (u0 10), (u0 11), (u0 12), (u0 13), (u0 14), (u0 15), (u0 16), (u0 17), (u0 18), (u0 19), (u0 20), (u0 21), (u0 22), (u0 23), (u0 24), (u0 25), (u0 26), (u0 27), (u0 28), (u0 29), (u0 30), (u0 31), (u0 32), (u0 33), (u0 34), (u0 35), (u0 36), (u0 37), (u0 38), (u0 39), (u0 40), (u0 41), (u0 42), (u0 43), (u0 44), (u0 45), (u0 46), (u0 47), (u0 48), (u0 49), (u0 50), (u0 51), (u0 52), (u0 53), (u0 54), (u0 55), (u0 56), (u0 57), (u0 58), (u0 59), (u0 60), (u0 61), (u0 62), (u0 63), (u0 64), (u0 65), (u0 66), (u0 67), (u0 68), (u0 69), (u0 70), (u0 71), (u0 72), (u0 73), (u0 74), (u0 75), (u0 76), (u0 77), (u0 78), (u0 79), (u0 80), (u0 81), (u0 82), (u0 83), (u0 84), (u0 85), (u0 86), (u0 87), (u0 88), (u0 89), (u0 90), (u0 91), U] ∧ i ≤ x.length ∧ MkI LT_41 mkE_PNote wt_PNote w0 lo hi a x.length c y k i w') (fun e' _ => x.length - (intOf (e' 5)).toNat) ?_ ?_
 ·exact ⟨0, unL [U, U, U, U, U, U, U, U, U, U, U, U, U, U, U, U, U, U, U, U, U, U, U, U, U, U, U, U, U, U, U, U, U, U, U, U, U, U, U, U, U, U, U, U, U, U, U, U, U, U, U, U, U, U, U, U, U, U, U, U, U, U, U, U, U, U, U, U, U, U, U, U, U, U, U, U, U, U, U, U, U, U, U, U, U, U, U, U, U, U, U, U], congrArg (fun (p : Value) => lst [(vs a x.length c), p, U, U, (vi 0), (vi 0), U, U, U, U, U, U, U, U, U, U, U, U, U, U, U, U, U, U, U, U, U, U, U, U, U, U, U, U, U, U, U, U, U, U, U, U, U, U, U, U, U, U, U, U, U, U, U, U, U, U, U, U, U, U, U, U, U, U, U, U, U, U, U, U, U, U, U, U, U, U, U, U, U, U, U, U, U, U, U, U, U, U, U, U, U, U, U, U, U, U, U, U, U]) (congrArg (Value.int .i64) (show k = k + totL wt_PNote ((y.take 0).map Prod.fst) by simp [totL])), Nat.zero_le _, hI⟩
 ·rintro _ w1 ⟨i, u0, rfl, hi, hI1⟩
  have hb0 := hwb i hi
  refine wc_seq <| sr ?_
  refine mv (vi ((i : Nat) : Int)) wN ?_
  refine mv (vs a x.length c) wN ?_
  refine ln wN slTy_36 (Rd.of_own hI1.row) ?_
  refine pu (vb (decide (((i : Nat) : Int) < (x.length : Int)))) wN ?_
  refine wl_nil <| wq_then ?_
  rcases bf (decide (((i : Nat) : Int) < (x.length : Int))) with h101 | h101
  ·have q237 := of_decide_eq_false h101
   refine cf h101 ?_
   refine wc_exit <| wq_then_exit <| wq_then_exit <| wq_blk_exit <| wq_then <| sr ?_
   refine mv (vi (k + totL wt_PNote ((y.take i).map Prod.fst))) wN ?_
   refine ag (vi (k + totL wt_PNote ((y.take i).map Prod.fst))) wN ?_
   refine wl_nil <| wq_then <| wc_ret ?_
   obtain rfl : i = x.length := by omega
   have hz : (y.take x.length).map Prod.fst = x := by rw [List.map_take, hy, List.take_length]
   refine ret_1 (.inl rfl) (vi (k + totL wt_PNote ((y.take x.length).map Prod.fst))) rfl rfl ⟨by rw [hz], hI1.ch, hI1.doneK hC hy rfl hl⟩
  have q102 := of_decide_eq_true h101
  refine ct h101 ?_
  refine wc_skip <| wq_then <| wc_seq <| wc_block <| sr ?_
  refine mv (vs a x.length c) wN ?_
  refine mv (vi ((i : Nat) : Int)) wN ?_
  refine mv (vi (k + totL wt_PNote ((y.take i).map Prod.fst))) wN ?_
  obtain ⟨e, l, hex, x103, s104, t105, p106, q107, d108⟩ := MkI.open z_PNote hI1 hC (by omega)
  rw [hy] at hex
  subst hex
  obtain ⟨a109, c110, l111, rfl, w112, s113⟩ := SubW.c s104
  have b114 := w112.2.2
  obtain ⟨a115, c116, l117, rfl, w118, s119⟩ := SubW.c s113
  have b120 := w118.2.2
  obtain ⟨a121, c122, l123, rfl, w124, s125⟩ := SubW.c s119
  have b126 := w124.2.2
  obtain ⟨a127, c128, l129, rfl, w130, s131⟩ := SubW.c s125
  have b132 := w130.2.2
  obtain rfl := SubW.nn s131
  refine wl_index (v := (vs a x.length c)) wN ((i : Nat) : Int) rfl rfl rfl slTy_36 rfl rfl (Rd.of_own hI1.row) (by first | omega | (simp only [List.length_cons, List.length_nil, List.length_replicate, List.length_append, List.length_take, List.length_set, List.length_map]; omega)) (by first | omega | (simp only [List.length_cons, List.length_nil, List.length_replicate, List.length_append, List.length_take, List.length_set, List.length_map]; omega)) ?_
  refine wl_fieldE wN rfl rfl rfl fieldAt_41_0 rfl (Rd.of_own hI1.row) (by omega) ?_
  refine wl_storeF LT_41.len (markY mkE_PNote wt_PNote (y.take i) k ++ y.drop i) i 0 (z_PNote, []) ({ Kind := (k + totL wt_PNote ((y.take i).map Prod.fst)), Id := ((x.getD i z_PNote).Id), Role := ((x.getD i z_PNote).Role), Cn := ((x.getD i z_PNote).Cn), Sn := ((x.getD i z_PNote).Sn), Epoch := ((x.getD i z_PNote).Epoch), Seq := ((x.getD i z_PNote).Seq), Body := ((x.getD i z_PNote).Body), Key := ((x.getD i z_PNote).Key), A := ((x.getD i z_PNote).A), Now := ((x.getD i z_PNote).Now) : PNote }, [(a109, c110), (a115, c116), (a121, c122), (a127, c128)]) (vi (k + totL wt_PNote ((y.take i).map Prod.fst))) [(vi (k + totL wt_PNote ((y.take i).map Prod.fst)))] wN rfl rfl rfl (by first | rfl | simp | omega) rfl rfl (one_all rfl) sizeOf_3 hI1.row (by simp only [List.length_append, markY_len, List.length_take, List.length_drop, List.length_set]; omega) (Nat.le_of_ble_eq_true rfl) (Nat.succ_pos 0) (by rw [x103]; rfl) ?_
  intro w2 k133 o134
  have x135 : ((markY mkE_PNote wt_PNote (y.take i) k ++ y.drop i).set i ({ Kind := (k + totL wt_PNote ((y.take i).map Prod.fst)), Id := ((x.getD i z_PNote).Id), Role := ((x.getD i z_PNote).Role), Cn := ((x.getD i z_PNote).Cn), Sn := ((x.getD i z_PNote).Sn), Epoch := ((x.getD i z_PNote).Epoch), Seq := ((x.getD i z_PNote).Seq), Body := ((x.getD i z_PNote).Body), Key := ((x.getD i z_PNote).Key), A := ((x.getD i z_PNote).A), Now := ((x.getD i z_PNote).Now) : PNote }, [(a109, c110), (a115, c116), (a121, c122), (a127, c128)])).getD i (z_PNote, []) = ({ Kind := (k + totL wt_PNote ((y.take i).map Prod.fst)), Id := ((x.getD i z_PNote).Id), Role := ((x.getD i z_PNote).Role), Cn := ((x.getD i z_PNote).Cn), Sn := ((x.getD i z_PNote).Sn), Epoch := ((x.getD i z_PNote).Epoch), Seq := ((x.getD i z_PNote).Seq), Body := ((x.getD i z_PNote).Body), Key := ((x.getD i z_PNote).Key), A := ((x.getD i z_PNote).A), Now := ((x.getD i z_PNote).Now) : PNote }, [(a109, c110), (a115, c116), (a121, c122), (a127, c128)]) := getD_set_self (by simp only [List.length_append, markY_len, List.length_take, List.length_drop, List.length_set]; omega)
  have w136 := W1.row w112 hI1.row LT_41.ne k133
  have w137 := W1.row w118 hI1.row LT_41.ne k133
  have w138 := W1.row w124 hI1.row LT_41.ne k133
  have w139 := W1.row w130 hI1.row LT_41.ne k133
  have t140 := Rst.row t105 hI1.row k133
  have h141 := ch_row (lo' := 0) (sz := 0) (m := 0) (xs := []) hI1.ch k133 hC
  refine nx ?_
  refine mv (vi (k + totL wt_PNote ((y.take i).map Prod.fst))) wN ?_
  refine ar ((k + totL wt_PNote ((y.take i).map Prod.fst)) + 1) wN ?_
  refine ag (vi ((k + totL wt_PNote ((y.take i).map Prod.fst)) + 1)) wN ?_
  refine nx ?_
  refine mv (vs a x.length c) wN ?_
  refine mv (vi ((i : Nat) : Int)) wN ?_
  refine mv (vi ((k + totL wt_PNote ((y.take i).map Prod.fst)) + 1)) wN ?_
  refine wl_index (v := (vs a x.length c)) wN ((i : Nat) : Int) rfl rfl rfl slTy_36 rfl rfl (Rd.of_own o134) (by first | omega | (simp only [List.length_cons, List.length_nil, List.length_replicate, List.length_append, List.length_take, List.length_set, List.length_map]; omega)) (by first | omega | (simp only [List.length_cons, List.length_nil, List.length_replicate, List.length_append, List.length_take, List.length_set, List.length_map]; omega)) ?_
  refine wl_fieldE wN rfl rfl rfl fieldAt_41_1 rfl (Rd.of_own o134) (by omega) ?_
  refine wl_storeF LT_41.len ((markY mkE_PNote wt_PNote (y.take i) k ++ y.drop i).set i ({ Kind := (k + totL wt_PNote ((y.take i).map Prod.fst)), Id := ((x.getD i z_PNote).Id), Role := ((x.getD i z_PNote).Role), Cn := ((x.getD i z_PNote).Cn), Sn := ((x.getD i z_PNote).Sn), Epoch := ((x.getD i z_PNote).Epoch), Seq := ((x.getD i z_PNote).Seq), Body := ((x.getD i z_PNote).Body), Key := ((x.getD i z_PNote).Key), A := ((x.getD i z_PNote).A), Now := ((x.getD i z_PNote).Now) : PNote }, [(a109, c110), (a115, c116), (a121, c122), (a127, c128)])) i 1 (z_PNote, []) ({ Kind := (k + totL wt_PNote ((y.take i).map Prod.fst)), Id := ((k + totL wt_PNote ((y.take i).map Prod.fst)) + 1), Role := ((x.getD i z_PNote).Role), Cn := ((x.getD i z_PNote).Cn), Sn := ((x.getD i z_PNote).Sn), Epoch := ((x.getD i z_PNote).Epoch), Seq := ((x.getD i z_PNote).Seq), Body := ((x.getD i z_PNote).Body), Key := ((x.getD i z_PNote).Key), A := ((x.getD i z_PNote).A), Now := ((x.getD i z_PNote).Now) : PNote }, [(a109, c110), (a115, c116), (a121, c122), (a127, c128)]) (vi ((k + totL wt_PNote ((y.take i).map Prod.fst)) + 1)) [(vi ((k + totL wt_PNote ((y.take i).map Prod.fst)) + 1))] wN rfl rfl rfl (by first | rfl | simp | omega) rfl rfl (one_all rfl) sizeOf_3 o134 (by simp only [List.length_append, markY_len, List.length_take, List.length_drop, List.length_set]; omega) (Nat.le_of_ble_eq_true rfl) (Nat.succ_pos 0) (by rw [x135]; rfl) ?_
  intro w3 k142 o143
  rw [List.set_set] at o143
  have x144 : ((markY mkE_PNote wt_PNote (y.take i) k ++ y.drop i).set i ({ Kind := (k + totL wt_PNote ((y.take i).map Prod.fst)), Id := ((k + totL wt_PNote ((y.take i).map Prod.fst)) + 1), Role := ((x.getD i z_PNote).Role), Cn := ((x.getD i z_PNote).Cn), Sn := ((x.getD i z_PNote).Sn), Epoch := ((x.getD i z_PNote).Epoch), Seq := ((x.getD i z_PNote).Seq), Body := ((x.getD i z_PNote).Body), Key := ((x.getD i z_PNote).Key), A := ((x.getD i z_PNote).A), Now := ((x.getD i z_PNote).Now) : PNote }, [(a109, c110), (a115, c116), (a121, c122), (a127, c128)])).getD i (z_PNote, []) = ({ Kind := (k + totL wt_PNote ((y.take i).map Prod.fst)), Id := ((k + totL wt_PNote ((y.take i).map Prod.fst)) + 1), Role := ((x.getD i z_PNote).Role), Cn := ((x.getD i z_PNote).Cn), Sn := ((x.getD i z_PNote).Sn), Epoch := ((x.getD i z_PNote).Epoch), Seq := ((x.getD i z_PNote).Seq), Body := ((x.getD i z_PNote).Body), Key := ((x.getD i z_PNote).Key), A := ((x.getD i z_PNote).A), Now := ((x.getD i z_PNote).Now) : PNote }, [(a109, c110), (a115, c116), (a121, c122), (a127, c128)]) := getD_set_self (by simp only [List.length_append, markY_len, List.length_take, List.length_drop, List.length_set]; omega)
  have w145 := W1.row w136 o134 LT_41.ne k142
  have w146 := W1.row w137 o134 LT_41.ne k142
  have w147 := W1.row w138 o134 LT_41.ne k142
  have w148 := W1.row w139 o134 LT_41.ne k142
  have t149 := Rst.row t140 o134 k142
  have h150 := ch_row (lo' := 0) (sz := 0) (m := 0) (xs := []) h141 k142 hC
  refine nx ?_
  refine mv (vi ((k + totL wt_PNote ((y.take i).map Prod.fst)) + 1)) wN ?_
  refine ar (((k + totL wt_PNote ((y.take i).map Prod.fst)) + 1) + 1) wN ?_
  refine ag (vi (((k + totL wt_PNote ((y.take i).map Prod.fst)) + 1) + 1)) wN ?_
  refine nx ?_
  refine mv (vs a x.length c) wN ?_
  refine mv (vi ((i : Nat) : Int)) wN ?_
  refine mv (vi (((k + totL wt_PNote ((y.take i).map Prod.fst)) + 1) + 1)) wN ?_
  refine wl_index (v := (vs a x.length c)) wN ((i : Nat) : Int) rfl rfl rfl slTy_36 rfl rfl (Rd.of_own o143) (by first | omega | (simp only [List.length_cons, List.length_nil, List.length_replicate, List.length_append, List.length_take, List.length_set, List.length_map]; omega)) (by first | omega | (simp only [List.length_cons, List.length_nil, List.length_replicate, List.length_append, List.length_take, List.length_set, List.length_map]; omega)) ?_
  refine wl_fieldE wN rfl rfl rfl fieldAt_41_2 rfl (Rd.of_own o143) (by omega) ?_
  refine wl_storeF LT_41.len ((markY mkE_PNote wt_PNote (y.take i) k ++ y.drop i).set i ({ Kind := (k + totL wt_PNote ((y.take i).map Prod.fst)), Id := ((k + totL wt_PNote ((y.take i).map Prod.fst)) + 1), Role := ((x.getD i z_PNote).Role), Cn := ((x.getD i z_PNote).Cn), Sn := ((x.getD i z_PNote).Sn), Epoch := ((x.getD i z_PNote).Epoch), Seq := ((x.getD i z_PNote).Seq), Body := ((x.getD i z_PNote).Body), Key := ((x.getD i z_PNote).Key), A := ((x.getD i z_PNote).A), Now := ((x.getD i z_PNote).Now) : PNote }, [(a109, c110), (a115, c116), (a121, c122), (a127, c128)])) i 2 (z_PNote, []) ({ Kind := (k + totL wt_PNote ((y.take i).map Prod.fst)), Id := ((k + totL wt_PNote ((y.take i).map Prod.fst)) + 1), Role := (((k + totL wt_PNote ((y.take i).map Prod.fst)) + 1) + 1), Cn := ((x.getD i z_PNote).Cn), Sn := ((x.getD i z_PNote).Sn), Epoch := ((x.getD i z_PNote).Epoch), Seq := ((x.getD i z_PNote).Seq), Body := ((x.getD i z_PNote).Body), Key := ((x.getD i z_PNote).Key), A := ((x.getD i z_PNote).A), Now := ((x.getD i z_PNote).Now) : PNote }, [(a109, c110), (a115, c116), (a121, c122), (a127, c128)]) (vi (((k + totL wt_PNote ((y.take i).map Prod.fst)) + 1) + 1)) [(vi (((k + totL wt_PNote ((y.take i).map Prod.fst)) + 1) + 1))] wN rfl rfl rfl (by first | rfl | simp | omega) rfl rfl (one_all rfl) sizeOf_3 o143 (by simp only [List.length_append, markY_len, List.length_take, List.length_drop, List.length_set]; omega) (Nat.le_of_ble_eq_true rfl) (Nat.succ_pos 0) (by rw [x144]; rfl) ?_
  intro w4 k151 o152
  rw [List.set_set] at o152
  have x153 : ((markY mkE_PNote wt_PNote (y.take i) k ++ y.drop i).set i ({ Kind := (k + totL wt_PNote ((y.take i).map Prod.fst)), Id := ((k + totL wt_PNote ((y.take i).map Prod.fst)) + 1), Role := (((k + totL wt_PNote ((y.take i).map Prod.fst)) + 1) + 1), Cn := ((x.getD i z_PNote).Cn), Sn := ((x.getD i z_PNote).Sn), Epoch := ((x.getD i z_PNote).Epoch), Seq := ((x.getD i z_PNote).Seq), Body := ((x.getD i z_PNote).Body), Key := ((x.getD i z_PNote).Key), A := ((x.getD i z_PNote).A), Now := ((x.getD i z_PNote).Now) : PNote }, [(a109, c110), (a115, c116), (a121, c122), (a127, c128)])).getD i (z_PNote, []) = ({ Kind := (k + totL wt_PNote ((y.take i).map Prod.fst)), Id := ((k + totL wt_PNote ((y.take i).map Prod.fst)) + 1), Role := (((k + totL wt_PNote ((y.take i).map Prod.fst)) + 1) + 1), Cn := ((x.getD i z_PNote).Cn), Sn := ((x.getD i z_PNote).Sn), Epoch := ((x.getD i z_PNote).Epoch), Seq := ((x.getD i z_PNote).Seq), Body := ((x.getD i z_PNote).Body), Key := ((x.getD i z_PNote).Key), A := ((x.getD i z_PNote).A), Now := ((x.getD i z_PNote).Now) : PNote }, [(a109, c110), (a115, c116), (a121, c122), (a127, c128)]) := getD_set_self (by simp only [List.length_append, markY_len, List.length_take, List.length_drop, List.length_set]; omega)
  have w154 := W1.row w145 o143 LT_41.ne k151
  have w155 := W1.row w146 o143 LT_41.ne k151
  have w156 := W1.row w147 o143 LT_41.ne k151
  have w157 := W1.row w148 o143 LT_41.ne k151
  have t158 := Rst.row t149 o143 k151
  have h159 := ch_row (lo' := 0) (sz := 0) (m := 0) (xs := []) h150 k151 hC
  refine nx ?_
  refine mv (vi (((k + totL wt_PNote ((y.take i).map Prod.fst)) + 1) + 1)) wN ?_
  refine ar ((((k + totL wt_PNote ((y.take i).map Prod.fst)) + 1) + 1) + 1) wN ?_
  refine ag (vi ((((k + totL wt_PNote ((y.take i).map Prod.fst)) + 1) + 1) + 1)) wN ?_
  refine nx ?_
  refine mv (vs a x.length c) wN ?_
  refine mv (vi ((i : Nat) : Int)) wN ?_
  refine wl_index (v := (vs a x.length c)) wN ((i : Nat) : Int) rfl rfl rfl slTy_36 rfl rfl (Rd.of_own o152) (by first | omega | (simp only [List.length_cons, List.length_nil, List.length_replicate, List.length_append, List.length_take, List.length_set, List.length_map]; omega)) (by first | omega | (simp only [List.length_cons, List.length_nil, List.length_replicate, List.length_append, List.length_take, List.length_set, List.length_map]; omega)) ?_
  refine wl_fieldE wN rfl rfl rfl fieldAt_41_3 rfl (Rd.of_own o152) (by omega) ?_
  refine wl_loadE (vs a109 (x.getD i z_PNote).Cn.length c110) wN rfl rfl rfl rfl isAgg_22 (Rd.of_own o152) ((rows_get (k := i) (i := 3) LT_41.len (z_PNote, []) (by first | rfl | simp | omega) (Nat.le_of_ble_eq_true rfl) (by simp only [List.length_append, markY_len, List.length_take, List.length_drop, List.length_set]; omega)).trans (by rw [x153]; rfl)) ?_
  refine mv (vi ((((k + totL wt_PNote ((y.take i).map Prod.fst)) + 1) + 1) + 1)) wN ?_
  refine cl wN (C_laws_markByteS_w w4 a109 c110 (x.getD i z_PNote).Cn ((((k + totL wt_PNote ((y.take i).map Prod.fst)) + 1) + 1) + 1) (by omega) (by omega) w154) ?_
  rintro _ w5 ⟨rfl, k160, w161⟩
  have o162 := row_ms o152 w154 LT_41.ne k160
  have w163 := W1.ms w155 (p106.1.1) (rd_cap w154.2.1) k160
  have w164 := W1.ms w156 (p106.1.2.1) (rd_cap w154.2.1) k160
  have w165 := W1.ms w157 (p106.1.2.2.1) (rd_cap w154.2.1) k160
  have t166 := Rst.ms t158 (q107 (a109, c110) (by simp)) (rd_cap w154.2.1) k160
  have h167 := ch_ms (q := (a109, c110)) h159 k160 (d108 (a109, c110) (by simp))
  refine ag (vi (((((k + totL wt_PNote ((y.take i).map Prod.fst)) + 1) + 1) + 1) + ((x.getD i z_PNote).Cn.length : Int))) wN ?_
  refine nx ?_
  refine mv (vs a x.length c) wN ?_
  refine mv (vi ((i : Nat) : Int)) wN ?_
  refine wl_index (v := (vs a x.length c)) wN ((i : Nat) : Int) rfl rfl rfl slTy_36 rfl rfl (Rd.of_own o162) (by first | omega | (simp only [List.length_cons, List.length_nil, List.length_replicate, List.length_append, List.length_take, List.length_set, List.length_map]; omega)) (by first | omega | (simp only [List.length_cons, List.length_nil, List.length_replicate, List.length_append, List.length_take, List.length_set, List.length_map]; omega)) ?_
  refine wl_fieldE wN rfl rfl rfl fieldAt_41_4 rfl (Rd.of_own o162) (by omega) ?_
  refine wl_loadE (vs a115 (x.getD i z_PNote).Sn.length c116) wN rfl rfl rfl rfl isAgg_22 (Rd.of_own o162) ((rows_get (k := i) (i := 4) LT_41.len (z_PNote, []) (by first | rfl | simp | omega) (Nat.le_of_ble_eq_true rfl) (by simp only [List.length_append, markY_len, List.length_take, List.length_drop, List.length_set]; omega)).trans (by rw [x153]; rfl)) ?_
  refine mv (vi (((((k + totL wt_PNote ((y.take i).map Prod.fst)) + 1) + 1) + 1) + ((x.getD i z_PNote).Cn.length : Int))) wN ?_
  refine cl wN (C_laws_markByteS_w w5 a115 c116 (x.getD i z_PNote).Sn (((((k + totL wt_PNote ((y.take i).map Prod.fst)) + 1) + 1) + 1) + ((x.getD i z_PNote).Cn.length : Int)) (by omega) (by omega) w163) ?_
  rintro _ w6 ⟨rfl, k168, w169⟩
  have o170 := row_ms o162 w163 LT_41.ne k168
  have w171 := W1.ms w161 (p106.1.1).symm (rd_cap w163.2.1) k168
  have w172 := W1.ms w164 (p106.2.1.1) (rd_cap w163.2.1) k168
  have w173 := W1.ms w165 (p106.2.1.2.1) (rd_cap w163.2.1) k168
  have t174 := Rst.ms t166 (q107 (a115, c116) (by simp)) (rd_cap w163.2.1) k168
  have h175 := ch_ms (q := (a115, c116)) h167 k168 (d108 (a115, c116) (by simp))
  refine ag (vi ((((((k + totL wt_PNote ((y.take i).map Prod.fst)) + 1) + 1) + 1) + ((x.getD i z_PNote).Cn.length : Int)) + ((x.getD i z_PNote).Sn.length : Int))) wN ?_
  refine nx ?_
  refine mv (vs a x.length c) wN ?_
  refine mv (vi ((i : Nat) : Int)) wN ?_
  refine mv (vi ((((((k + totL wt_PNote ((y.take i).map Prod.fst)) + 1) + 1) + 1) + ((x.getD i z_PNote).Cn.length : Int)) + ((x.getD i z_PNote).Sn.length : Int))) wN ?_
  refine wl_index (v := (vs a x.length c)) wN ((i : Nat) : Int) rfl rfl rfl slTy_36 rfl rfl (Rd.of_own o170) (by first | omega | (simp only [List.length_cons, List.length_nil, List.length_replicate, List.length_append, List.length_take, List.length_set, List.length_map]; omega)) (by first | omega | (simp only [List.length_cons, List.length_nil, List.length_replicate, List.length_append, List.length_take, List.length_set, List.length_map]; omega)) ?_
  refine wl_fieldE wN rfl rfl rfl fieldAt_41_5 rfl (Rd.of_own o170) (by omega) ?_
  refine wl_storeF LT_41.len ((markY mkE_PNote wt_PNote (y.take i) k ++ y.drop i).set i ({ Kind := (k + totL wt_PNote ((y.take i).map Prod.fst)), Id := ((k + totL wt_PNote ((y.take i).map Prod.fst)) + 1), Role := (((k + totL wt_PNote ((y.take i).map Prod.fst)) + 1) + 1), Cn := ((x.getD i z_PNote).Cn), Sn := ((x.getD i z_PNote).Sn), Epoch := ((x.getD i z_PNote).Epoch), Seq := ((x.getD i z_PNote).Seq), Body := ((x.getD i z_PNote).Body), Key := ((x.getD i z_PNote).Key), A := ((x.getD i z_PNote).A), Now := ((x.getD i z_PNote).Now) : PNote }, [(a109, c110), (a115, c116), (a121, c122), (a127, c128)])) i 5 (z_PNote, []) ({ Kind := (k + totL wt_PNote ((y.take i).map Prod.fst)), Id := ((k + totL wt_PNote ((y.take i).map Prod.fst)) + 1), Role := (((k + totL wt_PNote ((y.take i).map Prod.fst)) + 1) + 1), Cn := ((x.getD i z_PNote).Cn), Sn := ((x.getD i z_PNote).Sn), Epoch := ((((((k + totL wt_PNote ((y.take i).map Prod.fst)) + 1) + 1) + 1) + ((x.getD i z_PNote).Cn.length : Int)) + ((x.getD i z_PNote).Sn.length : Int)), Seq := ((x.getD i z_PNote).Seq), Body := ((x.getD i z_PNote).Body), Key := ((x.getD i z_PNote).Key), A := ((x.getD i z_PNote).A), Now := ((x.getD i z_PNote).Now) : PNote }, [(a109, c110), (a115, c116), (a121, c122), (a127, c128)]) (vi ((((((k + totL wt_PNote ((y.take i).map Prod.fst)) + 1) + 1) + 1) + ((x.getD i z_PNote).Cn.length : Int)) + ((x.getD i z_PNote).Sn.length : Int))) [(vi ((((((k + totL wt_PNote ((y.take i).map Prod.fst)) + 1) + 1) + 1) + ((x.getD i z_PNote).Cn.length : Int)) + ((x.getD i z_PNote).Sn.length : Int)))] wN rfl rfl rfl (by first | rfl | simp | omega) rfl rfl (one_all rfl) sizeOf_3 o170 (by simp only [List.length_append, markY_len, List.length_take, List.length_drop, List.length_set]; omega) (Nat.le_of_ble_eq_true rfl) (Nat.succ_pos 0) (by rw [x153]; rfl) ?_
  intro w7 k176 o177
  rw [List.set_set] at o177
  have x178 : ((markY mkE_PNote wt_PNote (y.take i) k ++ y.drop i).set i ({ Kind := (k + totL wt_PNote ((y.take i).map Prod.fst)), Id := ((k + totL wt_PNote ((y.take i).map Prod.fst)) + 1), Role := (((k + totL wt_PNote ((y.take i).map Prod.fst)) + 1) + 1), Cn := ((x.getD i z_PNote).Cn), Sn := ((x.getD i z_PNote).Sn), Epoch := ((((((k + totL wt_PNote ((y.take i).map Prod.fst)) + 1) + 1) + 1) + ((x.getD i z_PNote).Cn.length : Int)) + ((x.getD i z_PNote).Sn.length : Int)), Seq := ((x.getD i z_PNote).Seq), Body := ((x.getD i z_PNote).Body), Key := ((x.getD i z_PNote).Key), A := ((x.getD i z_PNote).A), Now := ((x.getD i z_PNote).Now) : PNote }, [(a109, c110), (a115, c116), (a121, c122), (a127, c128)])).getD i (z_PNote, []) = ({ Kind := (k + totL wt_PNote ((y.take i).map Prod.fst)), Id := ((k + totL wt_PNote ((y.take i).map Prod.fst)) + 1), Role := (((k + totL wt_PNote ((y.take i).map Prod.fst)) + 1) + 1), Cn := ((x.getD i z_PNote).Cn), Sn := ((x.getD i z_PNote).Sn), Epoch := ((((((k + totL wt_PNote ((y.take i).map Prod.fst)) + 1) + 1) + 1) + ((x.getD i z_PNote).Cn.length : Int)) + ((x.getD i z_PNote).Sn.length : Int)), Seq := ((x.getD i z_PNote).Seq), Body := ((x.getD i z_PNote).Body), Key := ((x.getD i z_PNote).Key), A := ((x.getD i z_PNote).A), Now := ((x.getD i z_PNote).Now) : PNote }, [(a109, c110), (a115, c116), (a121, c122), (a127, c128)]) := getD_set_self (by simp only [List.length_append, markY_len, List.length_take, List.length_drop, List.length_set]; omega)
  have w179 := W1.row w171 o170 LT_41.ne k176
  have w180 := W1.row w169 o170 LT_41.ne k176
  have w181 := W1.row w172 o170 LT_41.ne k176
  have w182 := W1.row w173 o170 LT_41.ne k176
  have t183 := Rst.row t174 o170 k176
  have h184 := ch_row (lo' := 0) (sz := 0) (m := 0) (xs := []) h175 k176 hC
  refine nx ?_
  refine mv (vi ((((((k + totL wt_PNote ((y.take i).map Prod.fst)) + 1) + 1) + 1) + ((x.getD i z_PNote).Cn.length : Int)) + ((x.getD i z_PNote).Sn.length : Int))) wN ?_
  refine ar (((((((k + totL wt_PNote ((y.take i).map Prod.fst)) + 1) + 1) + 1) + ((x.getD i z_PNote).Cn.length : Int)) + ((x.getD i z_PNote).Sn.length : Int)) + 1) wN ?_
  refine ag (vi (((((((k + totL wt_PNote ((y.take i).map Prod.fst)) + 1) + 1) + 1) + ((x.getD i z_PNote).Cn.length : Int)) + ((x.getD i z_PNote).Sn.length : Int)) + 1)) wN ?_
  refine nx ?_
  refine mv (vs a x.length c) wN ?_
  refine mv (vi ((i : Nat) : Int)) wN ?_
  refine mv (vi (((((((k + totL wt_PNote ((y.take i).map Prod.fst)) + 1) + 1) + 1) + ((x.getD i z_PNote).Cn.length : Int)) + ((x.getD i z_PNote).Sn.length : Int)) + 1)) wN ?_
  refine wl_index (v := (vs a x.length c)) wN ((i : Nat) : Int) rfl rfl rfl slTy_36 rfl rfl (Rd.of_own o177) (by first | omega | (simp only [List.length_cons, List.length_nil, List.length_replicate, List.length_append, List.length_take, List.length_set, List.length_map]; omega)) (by first | omega | (simp only [List.length_cons, List.length_nil, List.length_replicate, List.length_append, List.length_take, List.length_set, List.length_map]; omega)) ?_
  refine wl_fieldE wN rfl rfl rfl fieldAt_41_6 rfl (Rd.of_own o177) (by omega) ?_
  refine wl_storeF LT_41.len ((markY mkE_PNote wt_PNote (y.take i) k ++ y.drop i).set i ({ Kind := (k + totL wt_PNote ((y.take i).map Prod.fst)), Id := ((k + totL wt_PNote ((y.take i).map Prod.fst)) + 1), Role := (((k + totL wt_PNote ((y.take i).map Prod.fst)) + 1) + 1), Cn := ((x.getD i z_PNote).Cn), Sn := ((x.getD i z_PNote).Sn), Epoch := ((((((k + totL wt_PNote ((y.take i).map Prod.fst)) + 1) + 1) + 1) + ((x.getD i z_PNote).Cn.length : Int)) + ((x.getD i z_PNote).Sn.length : Int)), Seq := ((x.getD i z_PNote).Seq), Body := ((x.getD i z_PNote).Body), Key := ((x.getD i z_PNote).Key), A := ((x.getD i z_PNote).A), Now := ((x.getD i z_PNote).Now) : PNote }, [(a109, c110), (a115, c116), (a121, c122), (a127, c128)])) i 6 (z_PNote, []) ({ Kind := (k + totL wt_PNote ((y.take i).map Prod.fst)), Id := ((k + totL wt_PNote ((y.take i).map Prod.fst)) + 1), Role := (((k + totL wt_PNote ((y.take i).map Prod.fst)) + 1) + 1), Cn := ((x.getD i z_PNote).Cn), Sn := ((x.getD i z_PNote).Sn), Epoch := ((((((k + totL wt_PNote ((y.take i).map Prod.fst)) + 1) + 1) + 1) + ((x.getD i z_PNote).Cn.length : Int)) + ((x.getD i z_PNote).Sn.length : Int)), Seq := (((((((k + totL wt_PNote ((y.take i).map Prod.fst)) + 1) + 1) + 1) + ((x.getD i z_PNote).Cn.length : Int)) + ((x.getD i z_PNote).Sn.length : Int)) + 1), Body := ((x.getD i z_PNote).Body), Key := ((x.getD i z_PNote).Key), A := ((x.getD i z_PNote).A), Now := ((x.getD i z_PNote).Now) : PNote }, [(a109, c110), (a115, c116), (a121, c122), (a127, c128)]) (vi (((((((k + totL wt_PNote ((y.take i).map Prod.fst)) + 1) + 1) + 1) + ((x.getD i z_PNote).Cn.length : Int)) + ((x.getD i z_PNote).Sn.length : Int)) + 1)) [(vi (((((((k + totL wt_PNote ((y.take i).map Prod.fst)) + 1) + 1) + 1) + ((x.getD i z_PNote).Cn.length : Int)) + ((x.getD i z_PNote).Sn.length : Int)) + 1))] wN rfl rfl rfl (by first | rfl | simp | omega) rfl rfl (one_all rfl) sizeOf_3 o177 (by simp only [List.length_append, markY_len, List.length_take, List.length_drop, List.length_set]; omega) (Nat.le_of_ble_eq_true rfl) (Nat.succ_pos 0) (by rw [x178]; rfl) ?_
  intro w8 k185 o186
  rw [List.set_set] at o186
  have x187 : ((markY mkE_PNote wt_PNote (y.take i) k ++ y.drop i).set i ({ Kind := (k + totL wt_PNote ((y.take i).map Prod.fst)), Id := ((k + totL wt_PNote ((y.take i).map Prod.fst)) + 1), Role := (((k + totL wt_PNote ((y.take i).map Prod.fst)) + 1) + 1), Cn := ((x.getD i z_PNote).Cn), Sn := ((x.getD i z_PNote).Sn), Epoch := ((((((k + totL wt_PNote ((y.take i).map Prod.fst)) + 1) + 1) + 1) + ((x.getD i z_PNote).Cn.length : Int)) + ((x.getD i z_PNote).Sn.length : Int)), Seq := (((((((k + totL wt_PNote ((y.take i).map Prod.fst)) + 1) + 1) + 1) + ((x.getD i z_PNote).Cn.length : Int)) + ((x.getD i z_PNote).Sn.length : Int)) + 1), Body := ((x.getD i z_PNote).Body), Key := ((x.getD i z_PNote).Key), A := ((x.getD i z_PNote).A), Now := ((x.getD i z_PNote).Now) : PNote }, [(a109, c110), (a115, c116), (a121, c122), (a127, c128)])).getD i (z_PNote, []) = ({ Kind := (k + totL wt_PNote ((y.take i).map Prod.fst)), Id := ((k + totL wt_PNote ((y.take i).map Prod.fst)) + 1), Role := (((k + totL wt_PNote ((y.take i).map Prod.fst)) + 1) + 1), Cn := ((x.getD i z_PNote).Cn), Sn := ((x.getD i z_PNote).Sn), Epoch := ((((((k + totL wt_PNote ((y.take i).map Prod.fst)) + 1) + 1) + 1) + ((x.getD i z_PNote).Cn.length : Int)) + ((x.getD i z_PNote).Sn.length : Int)), Seq := (((((((k + totL wt_PNote ((y.take i).map Prod.fst)) + 1) + 1) + 1) + ((x.getD i z_PNote).Cn.length : Int)) + ((x.getD i z_PNote).Sn.length : Int)) + 1), Body := ((x.getD i z_PNote).Body), Key := ((x.getD i z_PNote).Key), A := ((x.getD i z_PNote).A), Now := ((x.getD i z_PNote).Now) : PNote }, [(a109, c110), (a115, c116), (a121, c122), (a127, c128)]) := getD_set_self (by simp only [List.length_append, markY_len, List.length_take, List.length_drop, List.length_set]; omega)
  have w188 := W1.row w179 o177 LT_41.ne k185
  have w189 := W1.row w180 o177 LT_41.ne k185
  have w190 := W1.row w181 o177 LT_41.ne k185
  have w191 := W1.row w182 o177 LT_41.ne k185
  have t192 := Rst.row t183 o177 k185
  have h193 := ch_row (lo' := 0) (sz := 0) (m := 0) (xs := []) h184 k185 hC
  refine nx ?_
  refine mv (vi (((((((k + totL wt_PNote ((y.take i).map Prod.fst)) + 1) + 1) + 1) + ((x.getD i z_PNote).Cn.length : Int)) + ((x.getD i z_PNote).Sn.length : Int)) + 1)) wN ?_
  refine ar ((((((((k + totL wt_PNote ((y.take i).map Prod.fst)) + 1) + 1) + 1) + ((x.getD i z_PNote).Cn.length : Int)) + ((x.getD i z_PNote).Sn.length : Int)) + 1) + 1) wN ?_
  refine ag (vi ((((((((k + totL wt_PNote ((y.take i).map Prod.fst)) + 1) + 1) + 1) + ((x.getD i z_PNote).Cn.length : Int)) + ((x.getD i z_PNote).Sn.length : Int)) + 1) + 1)) wN ?_
  refine nx ?_
  refine mv (vs a x.length c) wN ?_
  refine mv (vi ((i : Nat) : Int)) wN ?_
  refine wl_index (v := (vs a x.length c)) wN ((i : Nat) : Int) rfl rfl rfl slTy_36 rfl rfl (Rd.of_own o186) (by first | omega | (simp only [List.length_cons, List.length_nil, List.length_replicate, List.length_append, List.length_take, List.length_set, List.length_map]; omega)) (by first | omega | (simp only [List.length_cons, List.length_nil, List.length_replicate, List.length_append, List.length_take, List.length_set, List.length_map]; omega)) ?_
  refine wl_fieldE wN rfl rfl rfl fieldAt_41_7 rfl (Rd.of_own o186) (by omega) ?_
  refine wl_loadE (vs a121 (x.getD i z_PNote).Body.length c122) wN rfl rfl rfl rfl isAgg_22 (Rd.of_own o186) ((rows_get (k := i) (i := 7) LT_41.len (z_PNote, []) (by first | rfl | simp | omega) (Nat.le_of_ble_eq_true rfl) (by simp only [List.length_append, markY_len, List.length_take, List.length_drop, List.length_set]; omega)).trans (by rw [x187]; rfl)) ?_
  refine mv (vi ((((((((k + totL wt_PNote ((y.take i).map Prod.fst)) + 1) + 1) + 1) + ((x.getD i z_PNote).Cn.length : Int)) + ((x.getD i z_PNote).Sn.length : Int)) + 1) + 1)) wN ?_
  refine cl wN (C_laws_markByteS_w w8 a121 c122 (x.getD i z_PNote).Body ((((((((k + totL wt_PNote ((y.take i).map Prod.fst)) + 1) + 1) + 1) + ((x.getD i z_PNote).Cn.length : Int)) + ((x.getD i z_PNote).Sn.length : Int)) + 1) + 1) (by omega) (by omega) w190) ?_
  rintro _ w9 ⟨rfl, k194, w195⟩
  have o196 := row_ms o186 w190 LT_41.ne k194
  have w197 := W1.ms w188 (p106.1.2.1).symm (rd_cap w190.2.1) k194
  have w198 := W1.ms w189 (p106.2.1.1).symm (rd_cap w190.2.1) k194
  have w199 := W1.ms w191 (p106.2.2.1.1) (rd_cap w190.2.1) k194
  have t200 := Rst.ms t192 (q107 (a121, c122) (by simp)) (rd_cap w190.2.1) k194
  have h201 := ch_ms (q := (a121, c122)) h193 k194 (d108 (a121, c122) (by simp))
  refine ag (vi (((((((((k + totL wt_PNote ((y.take i).map Prod.fst)) + 1) + 1) + 1) + ((x.getD i z_PNote).Cn.length : Int)) + ((x.getD i z_PNote).Sn.length : Int)) + 1) + 1) + ((x.getD i z_PNote).Body.length : Int))) wN ?_
  refine nx ?_
  refine mv (vs a x.length c) wN ?_
  refine mv (vi ((i : Nat) : Int)) wN ?_
  refine wl_index (v := (vs a x.length c)) wN ((i : Nat) : Int) rfl rfl rfl slTy_36 rfl rfl (Rd.of_own o196) (by first | omega | (simp only [List.length_cons, List.length_nil, List.length_replicate, List.length_append, List.length_take, List.length_set, List.length_map]; omega)) (by first | omega | (simp only [List.length_cons, List.length_nil, List.length_replicate, List.length_append, List.length_take, List.length_set, List.length_map]; omega)) ?_
  refine wl_fieldE wN rfl rfl rfl fieldAt_41_8 rfl (Rd.of_own o196) (by omega) ?_
  refine wl_loadE (vs a127 (x.getD i z_PNote).Key.length c128) wN rfl rfl rfl rfl isAgg_22 (Rd.of_own o196) ((rows_get (k := i) (i := 8) LT_41.len (z_PNote, []) (by first | rfl | simp | omega) (Nat.le_of_ble_eq_true rfl) (by simp only [List.length_append, markY_len, List.length_take, List.length_drop, List.length_set]; omega)).trans (by rw [x187]; rfl)) ?_
  refine mv (vi (((((((((k + totL wt_PNote ((y.take i).map Prod.fst)) + 1) + 1) + 1) + ((x.getD i z_PNote).Cn.length : Int)) + ((x.getD i z_PNote).Sn.length : Int)) + 1) + 1) + ((x.getD i z_PNote).Body.length : Int))) wN ?_
  refine cl wN (C_laws_markByteS_w w9 a127 c128 (x.getD i z_PNote).Key (((((((((k + totL wt_PNote ((y.take i).map Prod.fst)) + 1) + 1) + 1) + ((x.getD i z_PNote).Cn.length : Int)) + ((x.getD i z_PNote).Sn.length : Int)) + 1) + 1) + ((x.getD i z_PNote).Body.length : Int)) (by omega) (by omega) w199) ?_
  rintro _ w10 ⟨rfl, k202, w203⟩
  have o204 := row_ms o196 w199 LT_41.ne k202
  have w205 := W1.ms w197 (p106.1.2.2.1).symm (rd_cap w199.2.1) k202
  have w206 := W1.ms w198 (p106.2.1.2.1).symm (rd_cap w199.2.1) k202
  have w207 := W1.ms w195 (p106.2.2.1.1).symm (rd_cap w199.2.1) k202
  have t208 := Rst.ms t200 (q107 (a127, c128) (by simp)) (rd_cap w199.2.1) k202
  have h209 := ch_ms (q := (a127, c128)) h201 k202 (d108 (a127, c128) (by simp))
  refine ag (vi ((((((((((k + totL wt_PNote ((y.take i).map Prod.fst)) + 1) + 1) + 1) + ((x.getD i z_PNote).Cn.length : Int)) + ((x.getD i z_PNote).Sn.length : Int)) + 1) + 1) + ((x.getD i z_PNote).Body.length : Int)) + ((x.getD i z_PNote).Key.length : Int))) wN ?_
  refine nx ?_
  refine mv (vs a x.length c) wN ?_
  refine mv (vi ((i : Nat) : Int)) wN ?_
  refine mv (vi ((((((((((k + totL wt_PNote ((y.take i).map Prod.fst)) + 1) + 1) + 1) + ((x.getD i z_PNote).Cn.length : Int)) + ((x.getD i z_PNote).Sn.length : Int)) + 1) + 1) + ((x.getD i z_PNote).Body.length : Int)) + ((x.getD i z_PNote).Key.length : Int))) wN ?_
  refine wl_index (v := (vs a x.length c)) wN ((i : Nat) : Int) rfl rfl rfl slTy_36 rfl rfl (Rd.of_own o204) (by first | omega | (simp only [List.length_cons, List.length_nil, List.length_replicate, List.length_append, List.length_take, List.length_set, List.length_map]; omega)) (by first | omega | (simp only [List.length_cons, List.length_nil, List.length_replicate, List.length_append, List.length_take, List.length_set, List.length_map]; omega)) ?_
  refine wl_fieldE wN rfl rfl rfl fieldAt_41_9 rfl (Rd.of_own o204) (by omega) ?_
  refine wl_fieldE wN rfl rfl rfl fieldAt_26_0 rfl (Rd.of_own o204) (by omega) ?_
  refine wl_storeF LT_41.len ((markY mkE_PNote wt_PNote (y.take i) k ++ y.drop i).set i ({ Kind := (k + totL wt_PNote ((y.take i).map Prod.fst)), Id := ((k + totL wt_PNote ((y.take i).map Prod.fst)) + 1), Role := (((k + totL wt_PNote ((y.take i).map Prod.fst)) + 1) + 1), Cn := ((x.getD i z_PNote).Cn), Sn := ((x.getD i z_PNote).Sn), Epoch := ((((((k + totL wt_PNote ((y.take i).map Prod.fst)) + 1) + 1) + 1) + ((x.getD i z_PNote).Cn.length : Int)) + ((x.getD i z_PNote).Sn.length : Int)), Seq := (((((((k + totL wt_PNote ((y.take i).map Prod.fst)) + 1) + 1) + 1) + ((x.getD i z_PNote).Cn.length : Int)) + ((x.getD i z_PNote).Sn.length : Int)) + 1), Body := ((x.getD i z_PNote).Body), Key := ((x.getD i z_PNote).Key), A := ((x.getD i z_PNote).A), Now := ((x.getD i z_PNote).Now) : PNote }, [(a109, c110), (a115, c116), (a121, c122), (a127, c128)])) i 9 (z_PNote, []) ({ Kind := (k + totL wt_PNote ((y.take i).map Prod.fst)), Id := ((k + totL wt_PNote ((y.take i).map Prod.fst)) + 1), Role := (((k + totL wt_PNote ((y.take i).map Prod.fst)) + 1) + 1), Cn := ((x.getD i z_PNote).Cn), Sn := ((x.getD i z_PNote).Sn), Epoch := ((((((k + totL wt_PNote ((y.take i).map Prod.fst)) + 1) + 1) + 1) + ((x.getD i z_PNote).Cn.length : Int)) + ((x.getD i z_PNote).Sn.length : Int)), Seq := (((((((k + totL wt_PNote ((y.take i).map Prod.fst)) + 1) + 1) + 1) + ((x.getD i z_PNote).Cn.length : Int)) + ((x.getD i z_PNote).Sn.length : Int)) + 1), Body := ((x.getD i z_PNote).Body), Key := ((x.getD i z_PNote).Key), A := { Host := ((((((((((k + totL wt_PNote ((y.take i).map Prod.fst)) + 1) + 1) + 1) + ((x.getD i z_PNote).Cn.length : Int)) + ((x.getD i z_PNote).Sn.length : Int)) + 1) + 1) + ((x.getD i z_PNote).Body.length : Int)) + ((x.getD i z_PNote).Key.length : Int)), Port := (((x.getD i z_PNote).A).Port) : PAddr }, Now := ((x.getD i z_PNote).Now) : PNote }, [(a109, c110), (a115, c116), (a121, c122), (a127, c128)]) (vi ((((((((((k + totL wt_PNote ((y.take i).map Prod.fst)) + 1) + 1) + 1) + ((x.getD i z_PNote).Cn.length : Int)) + ((x.getD i z_PNote).Sn.length : Int)) + 1) + 1) + ((x.getD i z_PNote).Body.length : Int)) + ((x.getD i z_PNote).Key.length : Int))) [(vi ((((((((((k + totL wt_PNote ((y.take i).map Prod.fst)) + 1) + 1) + 1) + ((x.getD i z_PNote).Cn.length : Int)) + ((x.getD i z_PNote).Sn.length : Int)) + 1) + 1) + ((x.getD i z_PNote).Body.length : Int)) + ((x.getD i z_PNote).Key.length : Int)))] wN rfl rfl rfl (by first | rfl | simp | omega) rfl rfl (one_all rfl) sizeOf_3 o204 (by simp only [List.length_append, markY_len, List.length_take, List.length_drop, List.length_set]; omega) (Nat.le_of_ble_eq_true rfl) (Nat.succ_pos 0) (by rw [x187]; rfl) ?_
  intro w11 k210 o211
  rw [List.set_set] at o211
  have x212 : ((markY mkE_PNote wt_PNote (y.take i) k ++ y.drop i).set i ({ Kind := (k + totL wt_PNote ((y.take i).map Prod.fst)), Id := ((k + totL wt_PNote ((y.take i).map Prod.fst)) + 1), Role := (((k + totL wt_PNote ((y.take i).map Prod.fst)) + 1) + 1), Cn := ((x.getD i z_PNote).Cn), Sn := ((x.getD i z_PNote).Sn), Epoch := ((((((k + totL wt_PNote ((y.take i).map Prod.fst)) + 1) + 1) + 1) + ((x.getD i z_PNote).Cn.length : Int)) + ((x.getD i z_PNote).Sn.length : Int)), Seq := (((((((k + totL wt_PNote ((y.take i).map Prod.fst)) + 1) + 1) + 1) + ((x.getD i z_PNote).Cn.length : Int)) + ((x.getD i z_PNote).Sn.length : Int)) + 1), Body := ((x.getD i z_PNote).Body), Key := ((x.getD i z_PNote).Key), A := { Host := ((((((((((k + totL wt_PNote ((y.take i).map Prod.fst)) + 1) + 1) + 1) + ((x.getD i z_PNote).Cn.length : Int)) + ((x.getD i z_PNote).Sn.length : Int)) + 1) + 1) + ((x.getD i z_PNote).Body.length : Int)) + ((x.getD i z_PNote).Key.length : Int)), Port := (((x.getD i z_PNote).A).Port) : PAddr }, Now := ((x.getD i z_PNote).Now) : PNote }, [(a109, c110), (a115, c116), (a121, c122), (a127, c128)])).getD i (z_PNote, []) = ({ Kind := (k + totL wt_PNote ((y.take i).map Prod.fst)), Id := ((k + totL wt_PNote ((y.take i).map Prod.fst)) + 1), Role := (((k + totL wt_PNote ((y.take i).map Prod.fst)) + 1) + 1), Cn := ((x.getD i z_PNote).Cn), Sn := ((x.getD i z_PNote).Sn), Epoch := ((((((k + totL wt_PNote ((y.take i).map Prod.fst)) + 1) + 1) + 1) + ((x.getD i z_PNote).Cn.length : Int)) + ((x.getD i z_PNote).Sn.length : Int)), Seq := (((((((k + totL wt_PNote ((y.take i).map Prod.fst)) + 1) + 1) + 1) + ((x.getD i z_PNote).Cn.length : Int)) + ((x.getD i z_PNote).Sn.length : Int)) + 1), Body := ((x.getD i z_PNote).Body), Key := ((x.getD i z_PNote).Key), A := { Host := ((((((((((k + totL wt_PNote ((y.take i).map Prod.fst)) + 1) + 1) + 1) + ((x.getD i z_PNote).Cn.length : Int)) + ((x.getD i z_PNote).Sn.length : Int)) + 1) + 1) + ((x.getD i z_PNote).Body.length : Int)) + ((x.getD i z_PNote).Key.length : Int)), Port := (((x.getD i z_PNote).A).Port) : PAddr }, Now := ((x.getD i z_PNote).Now) : PNote }, [(a109, c110), (a115, c116), (a121, c122), (a127, c128)]) := getD_set_self (by simp only [List.length_append, markY_len, List.length_take, List.length_drop, List.length_set]; omega)
  have w213 := W1.row w205 o204 LT_41.ne k210
  have w214 := W1.row w206 o204 LT_41.ne k210
  have w215 := W1.row w207 o204 LT_41.ne k210
  have w216 := W1.row w203 o204 LT_41.ne k210
  have t217 := Rst.row t208 o204 k210
  have h218 := ch_row (lo' := 0) (sz := 0) (m := 0) (xs := []) h209 k210 hC
  refine nx ?_
  refine mv (vi ((((((((((k + totL wt_PNote ((y.take i).map Prod.fst)) + 1) + 1) + 1) + ((x.getD i z_PNote).Cn.length : Int)) + ((x.getD i z_PNote).Sn.length : Int)) + 1) + 1) + ((x.getD i z_PNote).Body.length : Int)) + ((x.getD i z_PNote).Key.length : Int))) wN ?_
  refine ar (((((((((((k + totL wt_PNote ((y.take i).map Prod.fst)) + 1) + 1) + 1) + ((x.getD i z_PNote).Cn.length : Int)) + ((x.getD i z_PNote).Sn.length : Int)) + 1) + 1) + ((x.getD i z_PNote).Body.length : Int)) + ((x.getD i z_PNote).Key.length : Int)) + 1) wN ?_
  refine ag (vi (((((((((((k + totL wt_PNote ((y.take i).map Prod.fst)) + 1) + 1) + 1) + ((x.getD i z_PNote).Cn.length : Int)) + ((x.getD i z_PNote).Sn.length : Int)) + 1) + 1) + ((x.getD i z_PNote).Body.length : Int)) + ((x.getD i z_PNote).Key.length : Int)) + 1)) wN ?_
  refine nx ?_
  refine mv (vs a x.length c) wN ?_
  refine mv (vi ((i : Nat) : Int)) wN ?_
  refine mv (vi (((((((((((k + totL wt_PNote ((y.take i).map Prod.fst)) + 1) + 1) + 1) + ((x.getD i z_PNote).Cn.length : Int)) + ((x.getD i z_PNote).Sn.length : Int)) + 1) + 1) + ((x.getD i z_PNote).Body.length : Int)) + ((x.getD i z_PNote).Key.length : Int)) + 1)) wN ?_
  refine wl_index (v := (vs a x.length c)) wN ((i : Nat) : Int) rfl rfl rfl slTy_36 rfl rfl (Rd.of_own o211) (by first | omega | (simp only [List.length_cons, List.length_nil, List.length_replicate, List.length_append, List.length_take, List.length_set, List.length_map]; omega)) (by first | omega | (simp only [List.length_cons, List.length_nil, List.length_replicate, List.length_append, List.length_take, List.length_set, List.length_map]; omega)) ?_
  refine wl_fieldE wN rfl rfl rfl fieldAt_41_9 rfl (Rd.of_own o211) (by omega) ?_
  refine wl_fieldE wN rfl rfl rfl fieldAt_26_1 rfl (Rd.of_own o211) (by omega) ?_
  refine wl_storeF LT_41.len ((markY mkE_PNote wt_PNote (y.take i) k ++ y.drop i).set i ({ Kind := (k + totL wt_PNote ((y.take i).map Prod.fst)), Id := ((k + totL wt_PNote ((y.take i).map Prod.fst)) + 1), Role := (((k + totL wt_PNote ((y.take i).map Prod.fst)) + 1) + 1), Cn := ((x.getD i z_PNote).Cn), Sn := ((x.getD i z_PNote).Sn), Epoch := ((((((k + totL wt_PNote ((y.take i).map Prod.fst)) + 1) + 1) + 1) + ((x.getD i z_PNote).Cn.length : Int)) + ((x.getD i z_PNote).Sn.length : Int)), Seq := (((((((k + totL wt_PNote ((y.take i).map Prod.fst)) + 1) + 1) + 1) + ((x.getD i z_PNote).Cn.length : Int)) + ((x.getD i z_PNote).Sn.length : Int)) + 1), Body := ((x.getD i z_PNote).Body), Key := ((x.getD i z_PNote).Key), A := { Host := ((((((((((k + totL wt_PNote ((y.take i).map Prod.fst)) + 1) + 1) + 1) + ((x.getD i z_PNote).Cn.length : Int)) + ((x.getD i z_PNote).Sn.length : Int)) + 1) + 1) + ((x.getD i z_PNote).Body.length : Int)) + ((x.getD i z_PNote).Key.length : Int)), Port := (((x.getD i z_PNote).A).Port) : PAddr }, Now := ((x.getD i z_PNote).Now) : PNote }, [(a109, c110), (a115, c116), (a121, c122), (a127, c128)])) i 10 (z_PNote, []) ({ Kind := (k + totL wt_PNote ((y.take i).map Prod.fst)), Id := ((k + totL wt_PNote ((y.take i).map Prod.fst)) + 1), Role := (((k + totL wt_PNote ((y.take i).map Prod.fst)) + 1) + 1), Cn := ((x.getD i z_PNote).Cn), Sn := ((x.getD i z_PNote).Sn), Epoch := ((((((k + totL wt_PNote ((y.take i).map Prod.fst)) + 1) + 1) + 1) + ((x.getD i z_PNote).Cn.length : Int)) + ((x.getD i z_PNote).Sn.length : Int)), Seq := (((((((k + totL wt_PNote ((y.take i).map Prod.fst)) + 1) + 1) + 1) + ((x.getD i z_PNote).Cn.length : Int)) + ((x.getD i z_PNote).Sn.length : Int)) + 1), Body := ((x.getD i z_PNote).Body), Key := ((x.getD i z_PNote).Key), A := { Host := ((((((((((k + totL wt_PNote ((y.take i).map Prod.fst)) + 1) + 1) + 1) + ((x.getD i z_PNote).Cn.length : Int)) + ((x.getD i z_PNote).Sn.length : Int)) + 1) + 1) + ((x.getD i z_PNote).Body.length : Int)) + ((x.getD i z_PNote).Key.length : Int)), Port := (((((((((((k + totL wt_PNote ((y.take i).map Prod.fst)) + 1) + 1) + 1) + ((x.getD i z_PNote).Cn.length : Int)) + ((x.getD i z_PNote).Sn.length : Int)) + 1) + 1) + ((x.getD i z_PNote).Body.length : Int)) + ((x.getD i z_PNote).Key.length : Int)) + 1) : PAddr }, Now := ((x.getD i z_PNote).Now) : PNote }, [(a109, c110), (a115, c116), (a121, c122), (a127, c128)]) (vi (((((((((((k + totL wt_PNote ((y.take i).map Prod.fst)) + 1) + 1) + 1) + ((x.getD i z_PNote).Cn.length : Int)) + ((x.getD i z_PNote).Sn.length : Int)) + 1) + 1) + ((x.getD i z_PNote).Body.length : Int)) + ((x.getD i z_PNote).Key.length : Int)) + 1)) [(vi (((((((((((k + totL wt_PNote ((y.take i).map Prod.fst)) + 1) + 1) + 1) + ((x.getD i z_PNote).Cn.length : Int)) + ((x.getD i z_PNote).Sn.length : Int)) + 1) + 1) + ((x.getD i z_PNote).Body.length : Int)) + ((x.getD i z_PNote).Key.length : Int)) + 1))] wN rfl rfl rfl (by first | rfl | simp | omega) rfl rfl (one_all rfl) sizeOf_3 o211 (by simp only [List.length_append, markY_len, List.length_take, List.length_drop, List.length_set]; omega) (Nat.le_of_ble_eq_true rfl) (Nat.succ_pos 0) (by rw [x212]; rfl) ?_
  intro w12 k219 o220
  rw [List.set_set] at o220
  have x221 : ((markY mkE_PNote wt_PNote (y.take i) k ++ y.drop i).set i ({ Kind := (k + totL wt_PNote ((y.take i).map Prod.fst)), Id := ((k + totL wt_PNote ((y.take i).map Prod.fst)) + 1), Role := (((k + totL wt_PNote ((y.take i).map Prod.fst)) + 1) + 1), Cn := ((x.getD i z_PNote).Cn), Sn := ((x.getD i z_PNote).Sn), Epoch := ((((((k + totL wt_PNote ((y.take i).map Prod.fst)) + 1) + 1) + 1) + ((x.getD i z_PNote).Cn.length : Int)) + ((x.getD i z_PNote).Sn.length : Int)), Seq := (((((((k + totL wt_PNote ((y.take i).map Prod.fst)) + 1) + 1) + 1) + ((x.getD i z_PNote).Cn.length : Int)) + ((x.getD i z_PNote).Sn.length : Int)) + 1), Body := ((x.getD i z_PNote).Body), Key := ((x.getD i z_PNote).Key), A := { Host := ((((((((((k + totL wt_PNote ((y.take i).map Prod.fst)) + 1) + 1) + 1) + ((x.getD i z_PNote).Cn.length : Int)) + ((x.getD i z_PNote).Sn.length : Int)) + 1) + 1) + ((x.getD i z_PNote).Body.length : Int)) + ((x.getD i z_PNote).Key.length : Int)), Port := (((((((((((k + totL wt_PNote ((y.take i).map Prod.fst)) + 1) + 1) + 1) + ((x.getD i z_PNote).Cn.length : Int)) + ((x.getD i z_PNote).Sn.length : Int)) + 1) + 1) + ((x.getD i z_PNote).Body.length : Int)) + ((x.getD i z_PNote).Key.length : Int)) + 1) : PAddr }, Now := ((x.getD i z_PNote).Now) : PNote }, [(a109, c110), (a115, c116), (a121, c122), (a127, c128)])).getD i (z_PNote, []) = ({ Kind := (k + totL wt_PNote ((y.take i).map Prod.fst)), Id := ((k + totL wt_PNote ((y.take i).map Prod.fst)) + 1), Role := (((k + totL wt_PNote ((y.take i).map Prod.fst)) + 1) + 1), Cn := ((x.getD i z_PNote).Cn), Sn := ((x.getD i z_PNote).Sn), Epoch := ((((((k + totL wt_PNote ((y.take i).map Prod.fst)) + 1) + 1) + 1) + ((x.getD i z_PNote).Cn.length : Int)) + ((x.getD i z_PNote).Sn.length : Int)), Seq := (((((((k + totL wt_PNote ((y.take i).map Prod.fst)) + 1) + 1) + 1) + ((x.getD i z_PNote).Cn.length : Int)) + ((x.getD i z_PNote).Sn.length : Int)) + 1), Body := ((x.getD i z_PNote).Body), Key := ((x.getD i z_PNote).Key), A := { Host := ((((((((((k + totL wt_PNote ((y.take i).map Prod.fst)) + 1) + 1) + 1) + ((x.getD i z_PNote).Cn.length : Int)) + ((x.getD i z_PNote).Sn.length : Int)) + 1) + 1) + ((x.getD i z_PNote).Body.length : Int)) + ((x.getD i z_PNote).Key.length : Int)), Port := (((((((((((k + totL wt_PNote ((y.take i).map Prod.fst)) + 1) + 1) + 1) + ((x.getD i z_PNote).Cn.length : Int)) + ((x.getD i z_PNote).Sn.length : Int)) + 1) + 1) + ((x.getD i z_PNote).Body.length : Int)) + ((x.getD i z_PNote).Key.length : Int)) + 1) : PAddr }, Now := ((x.getD i z_PNote).Now) : PNote }, [(a109, c110), (a115, c116), (a121, c122), (a127, c128)]) := getD_set_self (by simp only [List.length_append, markY_len, List.length_take, List.length_drop, List.length_set]; omega)
  have w222 := W1.row w213 o211 LT_41.ne k219
  have w223 := W1.row w214 o211 LT_41.ne k219
  have w224 := W1.row w215 o211 LT_41.ne k219
  have w225 := W1.row w216 o211 LT_41.ne k219
  have t226 := Rst.row t217 o211 k219
  have h227 := ch_row (lo' := 0) (sz := 0) (m := 0) (xs := []) h218 k219 hC
  refine nx ?_
  refine mv (vi (((((((((((k + totL wt_PNote ((y.take i).map Prod.fst)) + 1) + 1) + 1) + ((x.getD i z_PNote).Cn.length : Int)) + ((x.getD i z_PNote).Sn.length : Int)) + 1) + 1) + ((x.getD i z_PNote).Body.length : Int)) + ((x.getD i z_PNote).Key.length : Int)) + 1)) wN ?_
  refine ar ((((((((((((k + totL wt_PNote ((y.take i).map Prod.fst)) + 1) + 1) + 1) + ((x.getD i z_PNote).Cn.length : Int)) + ((x.getD i z_PNote).Sn.length : Int)) + 1) + 1) + ((x.getD i z_PNote).Body.length : Int)) + ((x.getD i z_PNote).Key.length : Int)) + 1) + 1) wN ?_
  refine ag (vi ((((((((((((k + totL wt_PNote ((y.take i).map Prod.fst)) + 1) + 1) + 1) + ((x.getD i z_PNote).Cn.length : Int)) + ((x.getD i z_PNote).Sn.length : Int)) + 1) + 1) + ((x.getD i z_PNote).Body.length : Int)) + ((x.getD i z_PNote).Key.length : Int)) + 1) + 1)) wN ?_
  refine nx ?_
  refine mv (vs a x.length c) wN ?_
  refine mv (vi ((i : Nat) : Int)) wN ?_
  refine mv (vi ((((((((((((k + totL wt_PNote ((y.take i).map Prod.fst)) + 1) + 1) + 1) + ((x.getD i z_PNote).Cn.length : Int)) + ((x.getD i z_PNote).Sn.length : Int)) + 1) + 1) + ((x.getD i z_PNote).Body.length : Int)) + ((x.getD i z_PNote).Key.length : Int)) + 1) + 1)) wN ?_
  refine wl_index (v := (vs a x.length c)) wN ((i : Nat) : Int) rfl rfl rfl slTy_36 rfl rfl (Rd.of_own o220) (by first | omega | (simp only [List.length_cons, List.length_nil, List.length_replicate, List.length_append, List.length_take, List.length_set, List.length_map]; omega)) (by first | omega | (simp only [List.length_cons, List.length_nil, List.length_replicate, List.length_append, List.length_take, List.length_set, List.length_map]; omega)) ?_
  refine wl_fieldE wN rfl rfl rfl fieldAt_41_10 rfl (Rd.of_own o220) (by omega) ?_
  refine wl_storeF LT_41.len ((markY mkE_PNote wt_PNote (y.take i) k ++ y.drop i).set i ({ Kind := (k + totL wt_PNote ((y.take i).map Prod.fst)), Id := ((k + totL wt_PNote ((y.take i).map Prod.fst)) + 1), Role := (((k + totL wt_PNote ((y.take i).map Prod.fst)) + 1) + 1), Cn := ((x.getD i z_PNote).Cn), Sn := ((x.getD i z_PNote).Sn), Epoch := ((((((k + totL wt_PNote ((y.take i).map Prod.fst)) + 1) + 1) + 1) + ((x.getD i z_PNote).Cn.length : Int)) + ((x.getD i z_PNote).Sn.length : Int)), Seq := (((((((k + totL wt_PNote ((y.take i).map Prod.fst)) + 1) + 1) + 1) + ((x.getD i z_PNote).Cn.length : Int)) + ((x.getD i z_PNote).Sn.length : Int)) + 1), Body := ((x.getD i z_PNote).Body), Key := ((x.getD i z_PNote).Key), A := { Host := ((((((((((k + totL wt_PNote ((y.take i).map Prod.fst)) + 1) + 1) + 1) + ((x.getD i z_PNote).Cn.length : Int)) + ((x.getD i z_PNote).Sn.length : Int)) + 1) + 1) + ((x.getD i z_PNote).Body.length : Int)) + ((x.getD i z_PNote).Key.length : Int)), Port := (((((((((((k + totL wt_PNote ((y.take i).map Prod.fst)) + 1) + 1) + 1) + ((x.getD i z_PNote).Cn.length : Int)) + ((x.getD i z_PNote).Sn.length : Int)) + 1) + 1) + ((x.getD i z_PNote).Body.length : Int)) + ((x.getD i z_PNote).Key.length : Int)) + 1) : PAddr }, Now := ((x.getD i z_PNote).Now) : PNote }, [(a109, c110), (a115, c116), (a121, c122), (a127, c128)])) i 11 (z_PNote, []) ({ Kind := (k + totL wt_PNote ((y.take i).map Prod.fst)), Id := ((k + totL wt_PNote ((y.take i).map Prod.fst)) + 1), Role := (((k + totL wt_PNote ((y.take i).map Prod.fst)) + 1) + 1), Cn := ((x.getD i z_PNote).Cn), Sn := ((x.getD i z_PNote).Sn), Epoch := ((((((k + totL wt_PNote ((y.take i).map Prod.fst)) + 1) + 1) + 1) + ((x.getD i z_PNote).Cn.length : Int)) + ((x.getD i z_PNote).Sn.length : Int)), Seq := (((((((k + totL wt_PNote ((y.take i).map Prod.fst)) + 1) + 1) + 1) + ((x.getD i z_PNote).Cn.length : Int)) + ((x.getD i z_PNote).Sn.length : Int)) + 1), Body := ((x.getD i z_PNote).Body), Key := ((x.getD i z_PNote).Key), A := { Host := ((((((((((k + totL wt_PNote ((y.take i).map Prod.fst)) + 1) + 1) + 1) + ((x.getD i z_PNote).Cn.length : Int)) + ((x.getD i z_PNote).Sn.length : Int)) + 1) + 1) + ((x.getD i z_PNote).Body.length : Int)) + ((x.getD i z_PNote).Key.length : Int)), Port := (((((((((((k + totL wt_PNote ((y.take i).map Prod.fst)) + 1) + 1) + 1) + ((x.getD i z_PNote).Cn.length : Int)) + ((x.getD i z_PNote).Sn.length : Int)) + 1) + 1) + ((x.getD i z_PNote).Body.length : Int)) + ((x.getD i z_PNote).Key.length : Int)) + 1) : PAddr }, Now := ((((((((((((k + totL wt_PNote ((y.take i).map Prod.fst)) + 1) + 1) + 1) + ((x.getD i z_PNote).Cn.length : Int)) + ((x.getD i z_PNote).Sn.length : Int)) + 1) + 1) + ((x.getD i z_PNote).Body.length : Int)) + ((x.getD i z_PNote).Key.length : Int)) + 1) + 1) : PNote }, [(a109, c110), (a115, c116), (a121, c122), (a127, c128)]) (vi ((((((((((((k + totL wt_PNote ((y.take i).map Prod.fst)) + 1) + 1) + 1) + ((x.getD i z_PNote).Cn.length : Int)) + ((x.getD i z_PNote).Sn.length : Int)) + 1) + 1) + ((x.getD i z_PNote).Body.length : Int)) + ((x.getD i z_PNote).Key.length : Int)) + 1) + 1)) [(vi ((((((((((((k + totL wt_PNote ((y.take i).map Prod.fst)) + 1) + 1) + 1) + ((x.getD i z_PNote).Cn.length : Int)) + ((x.getD i z_PNote).Sn.length : Int)) + 1) + 1) + ((x.getD i z_PNote).Body.length : Int)) + ((x.getD i z_PNote).Key.length : Int)) + 1) + 1))] wN rfl rfl rfl (by first | rfl | simp | omega) rfl rfl (one_all rfl) sizeOf_3 o220 (by simp only [List.length_append, markY_len, List.length_take, List.length_drop, List.length_set]; omega) (Nat.le_of_ble_eq_true rfl) (Nat.succ_pos 0) (by rw [x221]; rfl) ?_
  intro w13 k228 o229
  rw [List.set_set] at o229
  have x230 : ((markY mkE_PNote wt_PNote (y.take i) k ++ y.drop i).set i ({ Kind := (k + totL wt_PNote ((y.take i).map Prod.fst)), Id := ((k + totL wt_PNote ((y.take i).map Prod.fst)) + 1), Role := (((k + totL wt_PNote ((y.take i).map Prod.fst)) + 1) + 1), Cn := ((x.getD i z_PNote).Cn), Sn := ((x.getD i z_PNote).Sn), Epoch := ((((((k + totL wt_PNote ((y.take i).map Prod.fst)) + 1) + 1) + 1) + ((x.getD i z_PNote).Cn.length : Int)) + ((x.getD i z_PNote).Sn.length : Int)), Seq := (((((((k + totL wt_PNote ((y.take i).map Prod.fst)) + 1) + 1) + 1) + ((x.getD i z_PNote).Cn.length : Int)) + ((x.getD i z_PNote).Sn.length : Int)) + 1), Body := ((x.getD i z_PNote).Body), Key := ((x.getD i z_PNote).Key), A := { Host := ((((((((((k + totL wt_PNote ((y.take i).map Prod.fst)) + 1) + 1) + 1) + ((x.getD i z_PNote).Cn.length : Int)) + ((x.getD i z_PNote).Sn.length : Int)) + 1) + 1) + ((x.getD i z_PNote).Body.length : Int)) + ((x.getD i z_PNote).Key.length : Int)), Port := (((((((((((k + totL wt_PNote ((y.take i).map Prod.fst)) + 1) + 1) + 1) + ((x.getD i z_PNote).Cn.length : Int)) + ((x.getD i z_PNote).Sn.length : Int)) + 1) + 1) + ((x.getD i z_PNote).Body.length : Int)) + ((x.getD i z_PNote).Key.length : Int)) + 1) : PAddr }, Now := ((((((((((((k + totL wt_PNote ((y.take i).map Prod.fst)) + 1) + 1) + 1) + ((x.getD i z_PNote).Cn.length : Int)) + ((x.getD i z_PNote).Sn.length : Int)) + 1) + 1) + ((x.getD i z_PNote).Body.length : Int)) + ((x.getD i z_PNote).Key.length : Int)) + 1) + 1) : PNote }, [(a109, c110), (a115, c116), (a121, c122), (a127, c128)])).getD i (z_PNote, []) = ({ Kind := (k + totL wt_PNote ((y.take i).map Prod.fst)), Id := ((k + totL wt_PNote ((y.take i).map Prod.fst)) + 1), Role := (((k + totL wt_PNote ((y.take i).map Prod.fst)) + 1) + 1), Cn := ((x.getD i z_PNote).Cn), Sn := ((x.getD i z_PNote).Sn), Epoch := ((((((k + totL wt_PNote ((y.take i).map Prod.fst)) + 1) + 1) + 1) + ((x.getD i z_PNote).Cn.length : Int)) + ((x.getD i z_PNote).Sn.length : Int)), Seq := (((((((k + totL wt_PNote ((y.take i).map Prod.fst)) + 1) + 1) + 1) + ((x.getD i z_PNote).Cn.length : Int)) + ((x.getD i z_PNote).Sn.length : Int)) + 1), Body := ((x.getD i z_PNote).Body), Key := ((x.getD i z_PNote).Key), A := { Host := ((((((((((k + totL wt_PNote ((y.take i).map Prod.fst)) + 1) + 1) + 1) + ((x.getD i z_PNote).Cn.length : Int)) + ((x.getD i z_PNote).Sn.length : Int)) + 1) + 1) + ((x.getD i z_PNote).Body.length : Int)) + ((x.getD i z_PNote).Key.length : Int)), Port := (((((((((((k + totL wt_PNote ((y.take i).map Prod.fst)) + 1) + 1) + 1) + ((x.getD i z_PNote).Cn.length : Int)) + ((x.getD i z_PNote).Sn.length : Int)) + 1) + 1) + ((x.getD i z_PNote).Body.length : Int)) + ((x.getD i z_PNote).Key.length : Int)) + 1) : PAddr }, Now := ((((((((((((k + totL wt_PNote ((y.take i).map Prod.fst)) + 1) + 1) + 1) + ((x.getD i z_PNote).Cn.length : Int)) + ((x.getD i z_PNote).Sn.length : Int)) + 1) + 1) + ((x.getD i z_PNote).Body.length : Int)) + ((x.getD i z_PNote).Key.length : Int)) + 1) + 1) : PNote }, [(a109, c110), (a115, c116), (a121, c122), (a127, c128)]) := getD_set_self (by simp only [List.length_append, markY_len, List.length_take, List.length_drop, List.length_set]; omega)
  have w231 := W1.row w222 o220 LT_41.ne k228
  have w232 := W1.row w223 o220 LT_41.ne k228
  have w233 := W1.row w224 o220 LT_41.ne k228
  have w234 := W1.row w225 o220 LT_41.ne k228
  have t235 := Rst.row t226 o220 k228
  have h236 := ch_row (lo' := 0) (sz := 0) (m := 0) (xs := []) h227 k228 hC
  refine wl_nil <| wq_then <| wc_region ?_
  refine mv (vi ((((((((((((k + totL wt_PNote ((y.take i).map Prod.fst)) + 1) + 1) + 1) + ((x.getD i z_PNote).Cn.length : Int)) + ((x.getD i z_PNote).Sn.length : Int)) + 1) + 1) + ((x.getD i z_PNote).Body.length : Int)) + ((x.getD i z_PNote).Key.length : Int)) + 1) + 1)) wN ?_
  refine ar (((((((((((((k + totL wt_PNote ((y.take i).map Prod.fst)) + 1) + 1) + 1) + ((x.getD i z_PNote).Cn.length : Int)) + ((x.getD i z_PNote).Sn.length : Int)) + 1) + 1) + ((x.getD i z_PNote).Body.length : Int)) + ((x.getD i z_PNote).Key.length : Int)) + 1) + 1) + 1) wN ?_
  refine ag (vi (((((((((((((k + totL wt_PNote ((y.take i).map Prod.fst)) + 1) + 1) + 1) + ((x.getD i z_PNote).Cn.length : Int)) + ((x.getD i z_PNote).Sn.length : Int)) + 1) + 1) + ((x.getD i z_PNote).Body.length : Int)) + ((x.getD i z_PNote).Key.length : Int)) + 1) + 1) + 1)) wN ?_
  refine wl_nil <| wq_blk_normal <| wq_then <| wc_region ?_
  refine mv (vi ((i : Nat) : Int)) wN ?_
  refine ar (((i : Nat) : Int) + 1) wN ?_
  refine ag (vi (((i : Nat) : Int) + 1)) wN ?_
  refine wl_nil ?_
  have hq : totL wt_PNote ((y.take (i + 1)).map Prod.fst) = totL wt_PNote ((y.take i).map Prod.fst) + wt_PNote (x.getD i z_PNote) := by rw [List.map_take, List.map_take, hy]; exact totL_take (by omega)
  simp only [wt_PNote] at hq
  have hN := MkI.next z_PNote hC (by omega) x103 o229 (by simp only [LT_41, mkE_PNote, marksB_len]) ⟨w231, w232, w233, w234, trivial⟩ t235 h236
  exact wq_loopN (w0 := w1) [(vs a x.length c), (vi (k + totL wt_PNote ((y.take (i + 1)).map Prod.fst))), U, U, (vi 0), (vi ((i + 1 : Nat) : Int)), (vi ((i : Nat) : Int)), (vs a x.length c), (vi (x.length : Int)), (vb (decide (((i : Nat) : Int) < (x.length : Int)))), (vi ((i : Nat) : Int)), (vi (((i : Nat) : Int) + 1)), (vs a x.length c), (vi ((i : Nat) : Int)), (vi (k + totL wt_PNote ((y.take i).map Prod.fst))), (ve (vs a x.length c) ((((i : Nat) : Int)).toNat * 12)), (ve (vs a x.length c) ((((i : Nat) : Int)).toNat * 12 + 0)), (vi (k + totL wt_PNote ((y.take i).map Prod.fst))), (vi ((k + totL wt_PNote ((y.take i).map Prod.fst)) + 1)), (vs a x.length c), (vi ((i : Nat) : Int)), (vi ((k + totL wt_PNote ((y.take i).map Prod.fst)) + 1)), (ve (vs a x.length c) ((((i : Nat) : Int)).toNat * 12)), (ve (vs a x.length c) ((((i : Nat) : Int)).toNat * 12 + 1)), (vi ((k + totL wt_PNote ((y.take i).map Prod.fst)) + 1)), (vi (((k + totL wt_PNote ((y.take i).map Prod.fst)) + 1) + 1)), (vs a x.length c), (vi ((i : Nat) : Int)), (vi (((k + totL wt_PNote ((y.take i).map Prod.fst)) + 1) + 1)), (ve (vs a x.length c) ((((i : Nat) : Int)).toNat * 12)), (ve (vs a x.length c) ((((i : Nat) : Int)).toNat * 12 + 2)), (vi (((k + totL wt_PNote ((y.take i).map Prod.fst)) + 1) + 1)), (vi ((((k + totL wt_PNote ((y.take i).map Prod.fst)) + 1) + 1) + 1)), (vs a x.length c), (vi ((i : Nat) : Int)), (ve (vs a x.length c) ((((i : Nat) : Int)).toNat * 12)), (ve (vs a x.length c) ((((i : Nat) : Int)).toNat * 12 + 3)), (vs a109 (x.getD i z_PNote).Cn.length c110), (vi ((((k + totL wt_PNote ((y.take i).map Prod.fst)) + 1) + 1) + 1)), (vi (((((k + totL wt_PNote ((y.take i).map Prod.fst)) + 1) + 1) + 1) + ((x.getD i z_PNote).Cn.length : Int))), (vs a x.length c), (vi ((i : Nat) : Int)), (ve (vs a x.length c) ((((i : Nat) : Int)).toNat * 12)), (ve (vs a x.length c) ((((i : Nat) : Int)).toNat * 12 + 4)), (vs a115 (x.getD i z_PNote).Sn.length c116), (vi (((((k + totL wt_PNote ((y.take i).map Prod.fst)) + 1) + 1) + 1) + ((x.getD i z_PNote).Cn.length : Int))), (vi ((((((k + totL wt_PNote ((y.take i).map Prod.fst)) + 1) + 1) + 1) + ((x.getD i z_PNote).Cn.length : Int)) + ((x.getD i z_PNote).Sn.length : Int))), (vs a x.length c), (vi ((i : Nat) : Int)), (vi ((((((k + totL wt_PNote ((y.take i).map Prod.fst)) + 1) + 1) + 1) + ((x.getD i z_PNote).Cn.length : Int)) + ((x.getD i z_PNote).Sn.length : Int))), (ve (vs a x.length c) ((((i : Nat) : Int)).toNat * 12)), (ve (vs a x.length c) ((((i : Nat) : Int)).toNat * 12 + 5)), (vi ((((((k + totL wt_PNote ((y.take i).map Prod.fst)) + 1) + 1) + 1) + ((x.getD i z_PNote).Cn.length : Int)) + ((x.getD i z_PNote).Sn.length : Int))), (vi (((((((k + totL wt_PNote ((y.take i).map Prod.fst)) + 1) + 1) + 1) + ((x.getD i z_PNote).Cn.length : Int)) + ((x.getD i z_PNote).Sn.length : Int)) + 1)), (vs a x.length c), (vi ((i : Nat) : Int)), (vi (((((((k + totL wt_PNote ((y.take i).map Prod.fst)) + 1) + 1) + 1) + ((x.getD i z_PNote).Cn.length : Int)) + ((x.getD i z_PNote).Sn.length : Int)) + 1)), (ve (vs a x.length c) ((((i : Nat) : Int)).toNat * 12)), (ve (vs a x.length c) ((((i : Nat) : Int)).toNat * 12 + 6)), (vi (((((((k + totL wt_PNote ((y.take i).map Prod.fst)) + 1) + 1) + 1) + ((x.getD i z_PNote).Cn.length : Int)) + ((x.getD i z_PNote).Sn.length : Int)) + 1)), (vi ((((((((k + totL wt_PNote ((y.take i).map Prod.fst)) + 1) + 1) + 1) + ((x.getD i z_PNote).Cn.length : Int)) + ((x.getD i z_PNote).Sn.length : Int)) + 1) + 1)), (vs a x.length c), (vi ((i : Nat) : Int)), (ve (vs a x.length c) ((((i : Nat) : Int)).toNat * 12)), (ve (vs a x.length c) ((((i : Nat) : Int)).toNat * 12 + 7)), (vs a121 (x.getD i z_PNote).Body.length c122), (vi ((((((((k + totL wt_PNote ((y.take i).map Prod.fst)) + 1) + 1) + 1) + ((x.getD i z_PNote).Cn.length : Int)) + ((x.getD i z_PNote).Sn.length : Int)) + 1) + 1)), (vi (((((((((k + totL wt_PNote ((y.take i).map Prod.fst)) + 1) + 1) + 1) + ((x.getD i z_PNote).Cn.length : Int)) + ((x.getD i z_PNote).Sn.length : Int)) + 1) + 1) + ((x.getD i z_PNote).Body.length : Int))), (vs a x.length c), (vi ((i : Nat) : Int)), (ve (vs a x.length c) ((((i : Nat) : Int)).toNat * 12)), (ve (vs a x.length c) ((((i : Nat) : Int)).toNat * 12 + 8)), (vs a127 (x.getD i z_PNote).Key.length c128), (vi (((((((((k + totL wt_PNote ((y.take i).map Prod.fst)) + 1) + 1) + 1) + ((x.getD i z_PNote).Cn.length : Int)) + ((x.getD i z_PNote).Sn.length : Int)) + 1) + 1) + ((x.getD i z_PNote).Body.length : Int))), (vi ((((((((((k + totL wt_PNote ((y.take i).map Prod.fst)) + 1) + 1) + 1) + ((x.getD i z_PNote).Cn.length : Int)) + ((x.getD i z_PNote).Sn.length : Int)) + 1) + 1) + ((x.getD i z_PNote).Body.length : Int)) + ((x.getD i z_PNote).Key.length : Int))), (vs a x.length c), (vi ((i : Nat) : Int)), (vi ((((((((((k + totL wt_PNote ((y.take i).map Prod.fst)) + 1) + 1) + 1) + ((x.getD i z_PNote).Cn.length : Int)) + ((x.getD i z_PNote).Sn.length : Int)) + 1) + 1) + ((x.getD i z_PNote).Body.length : Int)) + ((x.getD i z_PNote).Key.length : Int))), (ve (vs a x.length c) ((((i : Nat) : Int)).toNat * 12)), (ve (vs a x.length c) ((((i : Nat) : Int)).toNat * 12 + 9)), (ve (vs a x.length c) ((((i : Nat) : Int)).toNat * 12 + 9 + 0)), (vi ((((((((((k + totL wt_PNote ((y.take i).map Prod.fst)) + 1) + 1) + 1) + ((x.getD i z_PNote).Cn.length : Int)) + ((x.getD i z_PNote).Sn.length : Int)) + 1) + 1) + ((x.getD i z_PNote).Body.length : Int)) + ((x.getD i z_PNote).Key.length : Int))), (vi (((((((((((k + totL wt_PNote ((y.take i).map Prod.fst)) + 1) + 1) + 1) + ((x.getD i z_PNote).Cn.length : Int)) + ((x.getD i z_PNote).Sn.length : Int)) + 1) + 1) + ((x.getD i z_PNote).Body.length : Int)) + ((x.getD i z_PNote).Key.length : Int)) + 1)), (vs a x.length c), (vi ((i : Nat) : Int)), (vi (((((((((((k + totL wt_PNote ((y.take i).map Prod.fst)) + 1) + 1) + 1) + ((x.getD i z_PNote).Cn.length : Int)) + ((x.getD i z_PNote).Sn.length : Int)) + 1) + 1) + ((x.getD i z_PNote).Body.length : Int)) + ((x.getD i z_PNote).Key.length : Int)) + 1)), (ve (vs a x.length c) ((((i : Nat) : Int)).toNat * 12)), (ve (vs a x.length c) ((((i : Nat) : Int)).toNat * 12 + 9)), (ve (vs a x.length c) ((((i : Nat) : Int)).toNat * 12 + 9 + 1)), (vi (((((((((((k + totL wt_PNote ((y.take i).map Prod.fst)) + 1) + 1) + 1) + ((x.getD i z_PNote).Cn.length : Int)) + ((x.getD i z_PNote).Sn.length : Int)) + 1) + 1) + ((x.getD i z_PNote).Body.length : Int)) + ((x.getD i z_PNote).Key.length : Int)) + 1)), (vi ((((((((((((k + totL wt_PNote ((y.take i).map Prod.fst)) + 1) + 1) + 1) + ((x.getD i z_PNote).Cn.length : Int)) + ((x.getD i z_PNote).Sn.length : Int)) + 1) + 1) + ((x.getD i z_PNote).Body.length : Int)) + ((x.getD i z_PNote).Key.length : Int)) + 1) + 1)), (vs a x.length c), (vi ((i : Nat) : Int)), (vi ((((((((((((k + totL wt_PNote ((y.take i).map Prod.fst)) + 1) + 1) + 1) + ((x.getD i z_PNote).Cn.length : Int)) + ((x.getD i z_PNote).Sn.length : Int)) + 1) + 1) + ((x.getD i z_PNote).Body.length : Int)) + ((x.getD i z_PNote).Key.length : Int)) + 1) + 1)), (ve (vs a x.length c) ((((i : Nat) : Int)).toNat * 12)), (ve (vs a x.length c) ((((i : Nat) : Int)).toNat * 12 + 11)), (vi ((((((((((((k + totL wt_PNote ((y.take i).map Prod.fst)) + 1) + 1) + 1) + ((x.getD i z_PNote).Cn.length : Int)) + ((x.getD i z_PNote).Sn.length : Int)) + 1) + 1) + ((x.getD i z_PNote).Body.length : Int)) + ((x.getD i z_PNote).Key.length : Int)) + 1) + 1)), (vi (((((((((((((k + totL wt_PNote ((y.take i).map Prod.fst)) + 1) + 1) + 1) + ((x.getD i z_PNote).Cn.length : Int)) + ((x.getD i z_PNote).Sn.length : Int)) + 1) + 1) + ((x.getD i z_PNote).Body.length : Int)) + ((x.getD i z_PNote).Key.length : Int)) + 1) + 1) + 1)), U] rfl ⟨rfl, (congrArg (Value.int .i64) (show ((((((((((((((k + totL wt_PNote ((y.take i).map Prod.fst)) + 1) + 1) + 1) + ((x.getD i z_PNote).Cn.length : Int)) + ((x.getD i z_PNote).Sn.length : Int)) + 1) + 1) + ((x.getD i z_PNote).Body.length : Int)) + ((x.getD i z_PNote).Key.length : Int)) + 1) + 1) + 1) : Int) = (k + totL wt_PNote ((y.take (i + 1)).map Prod.fst)) by omega)), rfl, rfl, rfl, (congrArg (Value.int .i64) (show ((((i : Nat) : Int) + 1) : Int) = ((i + 1 : Nat) : Int) by omega)), rfl, rfl, rfl, rfl, rfl, rfl, rfl, rfl, rfl, rfl, rfl, rfl, rfl, rfl, rfl, rfl, rfl, rfl, rfl, rfl, rfl, rfl, rfl, rfl, rfl, rfl, rfl, rfl, rfl, rfl, rfl, rfl, rfl, rfl, rfl, rfl, rfl, rfl, rfl, rfl, rfl, rfl, rfl, rfl, rfl, rfl, rfl, rfl, rfl, rfl, rfl, rfl, rfl, rfl, rfl, rfl, rfl, rfl, rfl, rfl, rfl, rfl, rfl, rfl, rfl, rfl, rfl, rfl, rfl, rfl, rfl, rfl, rfl, rfl, rfl, rfl, rfl, rfl, rfl, rfl, rfl, rfl, rfl, rfl, rfl, rfl, rfl, rfl, rfl, rfl, rfl, rfl, rfl, trivial⟩ ⟨i + 1, unL [(vi ((i : Nat) : Int)), (vs a x.length c), (vi (x.length : Int)), (vb (decide (((i : Nat) : Int) < (x.length : Int)))), (vi ((i : Nat) : Int)), (vi (((i : Nat) : Int) + 1)), (vs a x.length c), (vi ((i : Nat) : Int)), (vi (k + totL wt_PNote ((y.take i).map Prod.fst))), (ve (vs a x.length c) ((((i : Nat) : Int)).toNat * 12)), (ve (vs a x.length c) ((((i : Nat) : Int)).toNat * 12 + 0)), (vi (k + totL wt_PNote ((y.take i).map Prod.fst))), (vi ((k + totL wt_PNote ((y.take i).map Prod.fst)) + 1)), (vs a x.length c), (vi ((i : Nat) : Int)), (vi ((k + totL wt_PNote ((y.take i).map Prod.fst)) + 1)), (ve (vs a x.length c) ((((i : Nat) : Int)).toNat * 12)), (ve (vs a x.length c) ((((i : Nat) : Int)).toNat * 12 + 1)), (vi ((k + totL wt_PNote ((y.take i).map Prod.fst)) + 1)), (vi (((k + totL wt_PNote ((y.take i).map Prod.fst)) + 1) + 1)), (vs a x.length c), (vi ((i : Nat) : Int)), (vi (((k + totL wt_PNote ((y.take i).map Prod.fst)) + 1) + 1)), (ve (vs a x.length c) ((((i : Nat) : Int)).toNat * 12)), (ve (vs a x.length c) ((((i : Nat) : Int)).toNat * 12 + 2)), (vi (((k + totL wt_PNote ((y.take i).map Prod.fst)) + 1) + 1)), (vi ((((k + totL wt_PNote ((y.take i).map Prod.fst)) + 1) + 1) + 1)), (vs a x.length c), (vi ((i : Nat) : Int)), (ve (vs a x.length c) ((((i : Nat) : Int)).toNat * 12)), (ve (vs a x.length c) ((((i : Nat) : Int)).toNat * 12 + 3)), (vs a109 (x.getD i z_PNote).Cn.length c110), (vi ((((k + totL wt_PNote ((y.take i).map Prod.fst)) + 1) + 1) + 1)), (vi (((((k + totL wt_PNote ((y.take i).map Prod.fst)) + 1) + 1) + 1) + ((x.getD i z_PNote).Cn.length : Int))), (vs a x.length c), (vi ((i : Nat) : Int)), (ve (vs a x.length c) ((((i : Nat) : Int)).toNat * 12)), (ve (vs a x.length c) ((((i : Nat) : Int)).toNat * 12 + 4)), (vs a115 (x.getD i z_PNote).Sn.length c116), (vi (((((k + totL wt_PNote ((y.take i).map Prod.fst)) + 1) + 1) + 1) + ((x.getD i z_PNote).Cn.length : Int))), (vi ((((((k + totL wt_PNote ((y.take i).map Prod.fst)) + 1) + 1) + 1) + ((x.getD i z_PNote).Cn.length : Int)) + ((x.getD i z_PNote).Sn.length : Int))), (vs a x.length c), (vi ((i : Nat) : Int)), (vi ((((((k + totL wt_PNote ((y.take i).map Prod.fst)) + 1) + 1) + 1) + ((x.getD i z_PNote).Cn.length : Int)) + ((x.getD i z_PNote).Sn.length : Int))), (ve (vs a x.length c) ((((i : Nat) : Int)).toNat * 12)), (ve (vs a x.length c) ((((i : Nat) : Int)).toNat * 12 + 5)), (vi ((((((k + totL wt_PNote ((y.take i).map Prod.fst)) + 1) + 1) + 1) + ((x.getD i z_PNote).Cn.length : Int)) + ((x.getD i z_PNote).Sn.length : Int))), (vi (((((((k + totL wt_PNote ((y.take i).map Prod.fst)) + 1) + 1) + 1) + ((x.getD i z_PNote).Cn.length : Int)) + ((x.getD i z_PNote).Sn.length : Int)) + 1)), (vs a x.length c), (vi ((i : Nat) : Int)), (vi (((((((k + totL wt_PNote ((y.take i).map Prod.fst)) + 1) + 1) + 1) + ((x.getD i z_PNote).Cn.length : Int)) + ((x.getD i z_PNote).Sn.length : Int)) + 1)), (ve (vs a x.length c) ((((i : Nat) : Int)).toNat * 12)), (ve (vs a x.length c) ((((i : Nat) : Int)).toNat * 12 + 6)), (vi (((((((k + totL wt_PNote ((y.take i).map Prod.fst)) + 1) + 1) + 1) + ((x.getD i z_PNote).Cn.length : Int)) + ((x.getD i z_PNote).Sn.length : Int)) + 1)), (vi ((((((((k + totL wt_PNote ((y.take i).map Prod.fst)) + 1) + 1) + 1) + ((x.getD i z_PNote).Cn.length : Int)) + ((x.getD i z_PNote).Sn.length : Int)) + 1) + 1)), (vs a x.length c), (vi ((i : Nat) : Int)), (ve (vs a x.length c) ((((i : Nat) : Int)).toNat * 12)), (ve (vs a x.length c) ((((i : Nat) : Int)).toNat * 12 + 7)), (vs a121 (x.getD i z_PNote).Body.length c122), (vi ((((((((k + totL wt_PNote ((y.take i).map Prod.fst)) + 1) + 1) + 1) + ((x.getD i z_PNote).Cn.length : Int)) + ((x.getD i z_PNote).Sn.length : Int)) + 1) + 1)), (vi (((((((((k + totL wt_PNote ((y.take i).map Prod.fst)) + 1) + 1) + 1) + ((x.getD i z_PNote).Cn.length : Int)) + ((x.getD i z_PNote).Sn.length : Int)) + 1) + 1) + ((x.getD i z_PNote).Body.length : Int))), (vs a x.length c), (vi ((i : Nat) : Int)), (ve (vs a x.length c) ((((i : Nat) : Int)).toNat * 12)), (ve (vs a x.length c) ((((i : Nat) : Int)).toNat * 12 + 8)), (vs a127 (x.getD i z_PNote).Key.length c128), (vi (((((((((k + totL wt_PNote ((y.take i).map Prod.fst)) + 1) + 1) + 1) + ((x.getD i z_PNote).Cn.length : Int)) + ((x.getD i z_PNote).Sn.length : Int)) + 1) + 1) + ((x.getD i z_PNote).Body.length : Int))), (vi ((((((((((k + totL wt_PNote ((y.take i).map Prod.fst)) + 1) + 1) + 1) + ((x.getD i z_PNote).Cn.length : Int)) + ((x.getD i z_PNote).Sn.length : Int)) + 1) + 1) + ((x.getD i z_PNote).Body.length : Int)) + ((x.getD i z_PNote).Key.length : Int))), (vs a x.length c), (vi ((i : Nat) : Int)), (vi ((((((((((k + totL wt_PNote ((y.take i).map Prod.fst)) + 1) + 1) + 1) + ((x.getD i z_PNote).Cn.length : Int)) + ((x.getD i z_PNote).Sn.length : Int)) + 1) + 1) + ((x.getD i z_PNote).Body.length : Int)) + ((x.getD i z_PNote).Key.length : Int))), (ve (vs a x.length c) ((((i : Nat) : Int)).toNat * 12)), (ve (vs a x.length c) ((((i : Nat) : Int)).toNat * 12 + 9)), (ve (vs a x.length c) ((((i : Nat) : Int)).toNat * 12 + 9 + 0)), (vi ((((((((((k + totL wt_PNote ((y.take i).map Prod.fst)) + 1) + 1) + 1) + ((x.getD i z_PNote).Cn.length : Int)) + ((x.getD i z_PNote).Sn.length : Int)) + 1) + 1) + ((x.getD i z_PNote).Body.length : Int)) + ((x.getD i z_PNote).Key.length : Int))), (vi (((((((((((k + totL wt_PNote ((y.take i).map Prod.fst)) + 1) + 1) + 1) + ((x.getD i z_PNote).Cn.length : Int)) + ((x.getD i z_PNote).Sn.length : Int)) + 1) + 1) + ((x.getD i z_PNote).Body.length : Int)) + ((x.getD i z_PNote).Key.length : Int)) + 1)), (vs a x.length c), (vi ((i : Nat) : Int)), (vi (((((((((((k + totL wt_PNote ((y.take i).map Prod.fst)) + 1) + 1) + 1) + ((x.getD i z_PNote).Cn.length : Int)) + ((x.getD i z_PNote).Sn.length : Int)) + 1) + 1) + ((x.getD i z_PNote).Body.length : Int)) + ((x.getD i z_PNote).Key.length : Int)) + 1)), (ve (vs a x.length c) ((((i : Nat) : Int)).toNat * 12)), (ve (vs a x.length c) ((((i : Nat) : Int)).toNat * 12 + 9)), (ve (vs a x.length c) ((((i : Nat) : Int)).toNat * 12 + 9 + 1)), (vi (((((((((((k + totL wt_PNote ((y.take i).map Prod.fst)) + 1) + 1) + 1) + ((x.getD i z_PNote).Cn.length : Int)) + ((x.getD i z_PNote).Sn.length : Int)) + 1) + 1) + ((x.getD i z_PNote).Body.length : Int)) + ((x.getD i z_PNote).Key.length : Int)) + 1)), (vi ((((((((((((k + totL wt_PNote ((y.take i).map Prod.fst)) + 1) + 1) + 1) + ((x.getD i z_PNote).Cn.length : Int)) + ((x.getD i z_PNote).Sn.length : Int)) + 1) + 1) + ((x.getD i z_PNote).Body.length : Int)) + ((x.getD i z_PNote).Key.length : Int)) + 1) + 1)), (vs a x.length c), (vi ((i : Nat) : Int)), (vi ((((((((((((k + totL wt_PNote ((y.take i).map Prod.fst)) + 1) + 1) + 1) + ((x.getD i z_PNote).Cn.length : Int)) + ((x.getD i z_PNote).Sn.length : Int)) + 1) + 1) + ((x.getD i z_PNote).Body.length : Int)) + ((x.getD i z_PNote).Key.length : Int)) + 1) + 1)), (ve (vs a x.length c) ((((i : Nat) : Int)).toNat * 12)), (ve (vs a x.length c) ((((i : Nat) : Int)).toNat * 12 + 11)), (vi ((((((((((((k + totL wt_PNote ((y.take i).map Prod.fst)) + 1) + 1) + 1) + ((x.getD i z_PNote).Cn.length : Int)) + ((x.getD i z_PNote).Sn.length : Int)) + 1) + 1) + ((x.getD i z_PNote).Body.length : Int)) + ((x.getD i z_PNote).Key.length : Int)) + 1) + 1)), (vi (((((((((((((k + totL wt_PNote ((y.take i).map Prod.fst)) + 1) + 1) + 1) + ((x.getD i z_PNote).Cn.length : Int)) + ((x.getD i z_PNote).Sn.length : Int)) + 1) + 1) + ((x.getD i z_PNote).Body.length : Int)) + ((x.getD i z_PNote).Key.length : Int)) + 1) + 1) + 1))], rfl, by omega, hN⟩ (by show x.length - (((i + 1 : Nat) : Int)).toNat < x.length - (((i : Nat) : Int)).toNat; omega)

theorem C_laws_heldByteS (w0 : World) (v_x_a : Value) (x_a : List UInt8) (r_x_a : R_22 w0 v_x_a x_a) (x_k : Int) (pre0 : 0 ≤ x_k) (pre1 : x_k ≤ 9000000000000000000) : Fn Try.prog 105 #[v_x_a, (vi x_k)] w0 (fun v w' => Keep w0 w' ∧ O_3 w' w0.heap.size v (heldB x_a x_k)) := by
 obtain ⟨a1, c2, rfl, r3, s4⟩ := r_x_a
 refine fn_of (n := 22) (l := [(vs a1 x_a.length c2), (vi x_k), U, U, U, U, U, U, U, U, U, U, U, U, U, U, U, U, U, U, U, U]) Try.func105 rfl rfl (by kernel_rfl) rfl ?_
 refine sr ?_
 refine ag (vi 0) wN ?_
 refine wl_nil <| wq_then <| wc_seq <| sr ?_
 refine ag (vi 0) wN ?_
 refine wl_nil <| wq_then <| wc_block ?_
 refine wc_normQ (fun e => [e 0, (vi (x_k + ((0 : Nat) : Int))), e 2, e 3, e 4, (vi ((0 : Nat) : Int)), e 6, e 7, e 8, e 9, e 10, e 11, e 12, e 13, e 14, e 15, e 16, e 17, e 18, e 19, e 20, e 21]) rfl ⟨rfl, (congrArg (Value.int .i64) (show (x_k : Int) = (x_k + ((0 : Nat) : Int)) by omega)), rfl, rfl, rfl, (congrArg (Value.int .i64) (show (0 : Int) = ((0 : Nat) : Int) by omega)), rfl, rfl, rfl, rfl, rfl, rfl, rfl, rfl, rfl, rfl, rfl, rfl, rfl, rfl, rfl, rfl, trivial⟩ ?_
 refine wc_loop (fun e' w' => ∃ (i : Nat) (u6 : Nat → Value), e' = lst [(vs a1 x_a.length c2), (vi (x_k + ((i : Nat) : Int))), (u6 0), (u6 1), (u6 2), (vi ((i : Nat) : Int)), (u6 3), (u6 4), (u6 5), (u6 6), (u6 7), (u6 8), (u6 9), (u6 10), (u6 11), (u6 12), (u6 13), (u6 14), (u6 15), (u6 16), (u6 17), U] ∧ Ch (fun k => w0.heap.size ≤ k) w0 w' ∧ Ch (fun k => w0.heap.size ≤ k) w0 w' ∧ i ≤ x_a.length ∧ heldB x_a x_k = heldB (x_a.drop i) (x_k + ((i : Nat) : Int))) (fun e' _ => x_a.length - ((intOf (e' 5))).toNat) ?_ ?_
 ·exact ⟨0, (unL [U, U, _, U, U, U, U, U, U, U, U, U, U, U, U, U, U, U]), rfl, (Ch.base w0), (Ch.refl (fun k => w0.heap.size ≤ k) w0), (by omega), (by first | exact heldB_next (by assumption) (by omega) (by assumption) | simp)⟩
 ·rintro _ w1 ⟨i, u6, rfl, m7, k8, i9, i10⟩
  refine wc_seq <| sr ?_
  refine mv (vi ((i : Nat) : Int)) wN ?_
  refine mv (vs a1 x_a.length c2) wN ?_
  refine ln wN slTy_22 (r3.from0 m7) ?_
  refine pu (vb (decide (((i : Nat) : Int) < (x_a.length : Int)))) wN ?_
  refine wl_nil <| wq_then ?_
  rcases bf (decide (((i : Nat) : Int) < (x_a.length : Int))) with h11 | h11
  ·have q17 := of_decide_eq_false h11
   refine cf h11 ?_
   refine wc_exit <| wq_then_exit <| wq_then_exit <| wq_blk_exit <| wq_then <| sr ?_
   refine mv (vi (x_k + ((i : Nat) : Int))) wN ?_
   refine ag (vi (x_k + ((i : Nat) : Int))) wN ?_
   refine wl_nil <| wq_then <| wc_ret ?_
   refine ret_1 (.inl rfl) (vi (x_k + ((i : Nat) : Int))) rfl rfl ?_
   refine ⟨m7.keep0, ?_⟩
   have hF18 : heldB x_a x_k = (x_k + ((i : Nat) : Int)) := by first | exact heldB_ne (by assumption) (by omega) (by assumption) | exact heldB_end (by assumption) (by omega)
   rw [hF18]
   exact rfl
  have q12 := of_decide_eq_true h11
  refine ct h11 ?_
  refine wc_skip <| wq_then <| wc_seq <| wc_block <| wc_seq <| sr ?_
  refine mv (vs a1 x_a.length c2) wN ?_
  refine mv (vi ((i : Nat) : Int)) wN ?_
  refine wl_index (v := (vs a1 x_a.length c2)) wN ((i : Nat) : Int) rfl rfl rfl slTy_22 rfl rfl (r3.from0 m7) (by first | omega | (simp only [List.length_cons, List.length_nil, List.length_replicate, List.length_append, List.length_take, List.length_set, List.length_map]; omega)) (by first | omega | (simp only [List.length_cons, List.length_nil, List.length_replicate, List.length_append, List.length_take, List.length_set, List.length_map]; omega)) ?_
  refine wl_loadE (bV (x_a.getD i 0)) wN rfl rfl rfl rfl isAgg_5 (r3.from0 m7) (bget (by simp) (by first | omega | (simp only [List.length_cons, List.length_nil, List.length_replicate, List.length_append, List.length_take, List.length_set, List.length_map]; omega))) ?_
  refine mv (vi (x_k + ((i : Nat) : Int))) wN ?_
  refine wl_conv8 (x_k + ((i : Nat) : Int)) wN rfl rfl (by kernel_rfl) ?_
  refine pu (vb (!(decide (((x_a.getD i 0).toNat : Int) = ((by8 (x_k + ((i : Nat) : Int))).toNat : Int))))) wN ?_
  refine wl_nil <| wq_then ?_
  rcases bf (decide (((x_a.getD i 0).toNat : Int) = ((by8 (x_k + ((i : Nat) : Int))).toNat : Int))) with h13 | h13
  ·have q15 := of_decide_eq_false h13
   refine ct (congrArg not h13) ?_
   refine sr ?_
   refine ag (vi (-1)) wN ?_
   refine wl_nil <| wq_then <| wc_ret <| wq_then_ret <| wq_blk_ret <| wq_then_ret <| wq_then_ret <| wq_blk_ret <| wq_then_ret ?_
   refine ret_1 (.inl rfl) (vi (-1)) rfl rfl ?_
   refine ⟨m7.keep0, ?_⟩
   have hF16 : heldB x_a x_k = (-1) := by first | exact heldB_ne (by assumption) (by omega) (by assumption) | exact heldB_end (by assumption) (by omega)
   rw [hF16]
   exact rfl
  have q14 := of_decide_eq_true h13
  refine cf (congrArg not h13) ?_
  refine wc_skip <| wq_then <| wc_region ?_
  refine mv (vi (x_k + ((i : Nat) : Int))) wN ?_
  refine ar ((x_k + ((i : Nat) : Int)) + 1) wN ?_
  refine ag (vi ((x_k + ((i : Nat) : Int)) + 1)) wN ?_
  refine wl_nil <| wq_blk_normal <| wq_then <| wc_region ?_
  refine mv (vi ((i : Nat) : Int)) wN ?_
  refine ar (((i : Nat) : Int) + 1) wN ?_
  refine ag (vi (((i : Nat) : Int) + 1)) wN ?_
  refine wl_nil ?_
  refine wq_loopQ (w0 := w1) (fun e => [e 0, (vi (x_k + (((i + 1) : Nat) : Int))), e 2, e 3, e 4, (vi (((i + 1) : Nat) : Int)), e 6, e 7, e 8, e 9, e 10, e 11, e 12, e 13, e 14, e 15, e 16, e 17, e 18, e 19, e 20, e 21]) rfl ?_ ?_ ?_
  · exact ⟨rfl, (congrArg (Value.int .i64) (show (((x_k + ((i : Nat) : Int)) + 1) : Int) = (x_k + (((i + 1) : Nat) : Int)) by omega)), rfl, rfl, rfl, (congrArg (Value.int .i64) (show ((((i : Nat) : Int) + 1) : Int) = (((i + 1) : Nat) : Int) by omega)), rfl, rfl, rfl, rfl, rfl, rfl, rfl, rfl, rfl, rfl, rfl, rfl, rfl, rfl, rfl, rfl, trivial⟩
  · exact ⟨(i + 1), (unL [_, _, _, _, _, _, _, _, _, _, _, _, _, _, _, _, _, _]), rfl, m7, ((Ch.refl (fun k => w0.heap.size ≤ k) w0).ext k8 (fun k hk => Nat.le_trans (Nat.le_refl w0.heap.size) hk)), (by omega), (by first | exact heldB_next (by assumption) (by omega) (by assumption) | simp)⟩
  · show x_a.length - ((((i + 1) : Nat) : Int)).toNat < x_a.length - (((i : Nat) : Int)).toNat; omega

def hC_PNote (a : PNote) (k : Int) : Int := bif decide (a.Kind = k) then (bif decide (a.Id = (k + 1)) then (bif decide (a.Role = ((k + 1) + 1)) then (bif decide ((heldB a.Cn (((k + 1) + 1) + 1)) < 0) then (-1) else (bif decide ((heldB a.Sn (heldB a.Cn (((k + 1) + 1) + 1))) < 0) then (-1) else (bif decide (a.Epoch = (heldB a.Sn (heldB a.Cn (((k + 1) + 1) + 1)))) then (bif decide (a.Seq = ((heldB a.Sn (heldB a.Cn (((k + 1) + 1) + 1))) + 1)) then (bif decide ((heldB a.Body (((heldB a.Sn (heldB a.Cn (((k + 1) + 1) + 1))) + 1) + 1)) < 0) then (-1) else (bif decide ((heldB a.Key (heldB a.Body (((heldB a.Sn (heldB a.Cn (((k + 1) + 1) + 1))) + 1) + 1))) < 0) then (-1) else (bif decide (a.A.Host = (heldB a.Key (heldB a.Body (((heldB a.Sn (heldB a.Cn (((k + 1) + 1) + 1))) + 1) + 1)))) then (bif decide (a.A.Port = ((heldB a.Key (heldB a.Body (((heldB a.Sn (heldB a.Cn (((k + 1) + 1) + 1))) + 1) + 1))) + 1)) then (bif decide (a.Now = (((heldB a.Key (heldB a.Body (((heldB a.Sn (heldB a.Cn (((k + 1) + 1) + 1))) + 1) + 1))) + 1) + 1)) then (((((heldB a.Key (heldB a.Body (((heldB a.Sn (heldB a.Cn (((k + 1) + 1) + 1))) + 1) + 1))) + 1) + 1) + 1)) else (-1)) else (-1)) else (-1)))) else (-1)) else (-1)))) else (-1)) else (-1)) else (-1)
theorem C_laws_heldNoteS (w0 : World) (v_x_a : Value) (x_a : List PNote) (r_x_a : R_36 w0 v_x_a x_a) (x_k : Int) (pre0 : 0 ≤ x_k) (pre1 : x_k ≤ 4000000000000000000) : Fn Try.prog 56 #[v_x_a, (vi x_k)] w0 (fun v w' => Keep w0 w' ∧ O_3 w' w0.heap.size v (heldL hC_PNote x_a x_k)) := by
 obtain ⟨a1, c2, rfl, r3, s4⟩ := r_x_a
 refine fn_of (n := 123) (l := [(vs a1 x_a.length c2), (vi x_k), U, U, U, U, U, U, U, U, U, U, U, U, U, U, U, U, U, U, U, U, U, U, U, U, U, U, U, U, U, U, U, U, U, U, U, U, U, U, U, U, U, U, U, U, U, U, U, U, U, U, U, U, U, U, U, U, U, U, U, U, U, U, U, U, U, U, U, U, U, U, U, U, U, U, U, U, U, U, U, U, U, U, U, U, U, U, U, U, U, U, U, U, U, U, U, U, U, U, U, U, U, U, U, U, U, U, U, U, U, U, U, U, U, U, U, U, U, U, U, U, U]) Try.func56 rfl rfl (by kernel_rfl) rfl ?_
 refine sr ?_
 refine ag (vi 0) wN ?_
 refine wl_nil <| wq_then <| wc_seq <| sr ?_
 refine ag (vi 0) wN ?_
 refine wl_nil <| wq_then <| wc_block ?_
 refine wc_normQ (fun e => [e 0, (vi x_k), e 2, e 3, e 4, (vi ((0 : Nat) : Int)), e 6, e 7, e 8, e 9, e 10, e 11, e 12, e 13, e 14, e 15, e 16, e 17, e 18, e 19, e 20, e 21, e 22, e 23, e 24, e 25, e 26, e 27, e 28, e 29, e 30, e 31, e 32, e 33, e 34, e 35, e 36, e 37, e 38, e 39, e 40, e 41, e 42, e 43, e 44, e 45, e 46, e 47, e 48, e 49, e 50, e 51, e 52, e 53, e 54, e 55, e 56, e 57, e 58, e 59, e 60, e 61, e 62, e 63, e 64, e 65, e 66, e 67, e 68, e 69, e 70, e 71, e 72, e 73, e 74, e 75, e 76, e 77, e 78, e 79, e 80, e 81, e 82, e 83, e 84, e 85, e 86, e 87, e 88, e 89, e 90, e 91, e 92, e 93, e 94, e 95, e 96, e 97, e 98, e 99, e 100, e 101, e 102, e 103, e 104, e 105, e 106, e 107, e 108, e 109, e 110, e 111, e 112, e 113, e 114, e 115, e 116, e 117, e 118, e 119, e 120, e 121, e 122]) rfl ⟨rfl, rfl, rfl, rfl, rfl, (congrArg (Value.int .i64) (show (0 : Int) = ((0 : Nat) : Int) by omega)), rfl, rfl, rfl, rfl, rfl, rfl, rfl, rfl, rfl, rfl, rfl, rfl, rfl, rfl, rfl, rfl, rfl, rfl, rfl, rfl, rfl, rfl, rfl, rfl, rfl, rfl, rfl, rfl, rfl, rfl, rfl, rfl, rfl, rfl, rfl, rfl, rfl, rfl, rfl, rfl, rfl, rfl, rfl, rfl, rfl, rfl, rfl, rfl, rfl, rfl, rfl, rfl, rfl, rfl, rfl, rfl, rfl, rfl, rfl, rfl, rfl, rfl, rfl, rfl, rfl, rfl, rfl, rfl, rfl, rfl, rfl, rfl, rfl, rfl, rfl, rfl, rfl, rfl, rfl, rfl, rfl, rfl, rfl, rfl, rfl, rfl, rfl, rfl, rfl, rfl, rfl, rfl, rfl, rfl, rfl, rfl, rfl, rfl, rfl, rfl, rfl, rfl, rfl, rfl, rfl, rfl, rfl, rfl, rfl, rfl, rfl, rfl, rfl, rfl, rfl, rfl, rfl, trivial⟩ ?_
 refine wc_loop (fun e' w' => ∃ (i : Nat) (q : Int) (u6 : Nat → Value), e' = lst [(vs a1 x_a.length c2), (vi q), (u6 0), (u6 1), (u6 2), (vi ((i : Nat) : Int)), (u6 3), (u6 4), (u6 5), (u6 6), (u6 7), (u6 8), (u6 9), (u6 10), (u6 11), (u6 12), (u6 13), (u6 14), (u6 15), (u6 16), (u6 17), (u6 18), (u6 19), (u6 20), (u6 21), (u6 22), (u6 23), (u6 24), (u6 25), (u6 26), (u6 27), (u6 28), (u6 29), (u6 30), (u6 31), (u6 32), (u6 33), (u6 34), (u6 35), (u6 36), (u6 37), (u6 38), (u6 39), (u6 40), (u6 41), (u6 42), (u6 43), (u6 44), (u6 45), (u6 46), (u6 47), (u6 48), (u6 49), (u6 50), (u6 51), (u6 52), (u6 53), (u6 54), (u6 55), (u6 56), (u6 57), (u6 58), (u6 59), (u6 60), (u6 61), (u6 62), (u6 63), (u6 64), (u6 65), (u6 66), (u6 67), (u6 68), (u6 69), (u6 70), (u6 71), (u6 72), (u6 73), (u6 74), (u6 75), (u6 76), (u6 77), (u6 78), (u6 79), (u6 80), (u6 81), (u6 82), (u6 83), (u6 84), (u6 85), (u6 86), (u6 87), (u6 88), (u6 89), (u6 90), (u6 91), (u6 92), (u6 93), (u6 94), (u6 95), (u6 96), (u6 97), (u6 98), (u6 99), (u6 100), (u6 101), (u6 102), (u6 103), (u6 104), (u6 105), (u6 106), (u6 107), (u6 108), (u6 109), (u6 110), (u6 111), (u6 112), (u6 113), (u6 114), (u6 115), (u6 116), (u6 117), (u6 118), U] ∧ Ch (fun k => w0.heap.size ≤ k) w0 w' ∧ Ch (fun k => w0.heap.size ≤ k) w0 w' ∧ i ≤ x_a.length ∧ heldL hC_PNote x_a x_k = heldL hC_PNote (x_a.drop i) q ∧ x_k ≤ q ∧ q ≤ x_k + 4294967304 * ((i : Nat) : Int)) (fun e' _ => x_a.length - ((intOf (e' 5))).toNat) ?_ ?_
 ·exact ⟨0, x_k, (unL [U, U, _, U, U, U, U, U, U, U, U, U, U, U, U, U, U, U, U, U, U, U, U, U, U, U, U, U, U, U, U, U, U, U, U, U, U, U, U, U, U, U, U, U, U, U, U, U, U, U, U, U, U, U, U, U, U, U, U, U, U, U, U, U, U, U, U, U, U, U, U, U, U, U, U, U, U, U, U, U, U, U, U, U, U, U, U, U, U, U, U, U, U, U, U, U, U, U, U, U, U, U, U, U, U, U, U, U, U, U, U, U, U, U, U, U, U, U, U]), rfl, (Ch.base w0), (Ch.refl (fun k => w0.heap.size ≤ k) w0), (by omega), (by first | (simp; done) | exact heldL_next (z := z_PNote) (by assumption) (by omega) (by simp only [hC_PNote, ]; simp) (by omega)), (by omega), (by omega)⟩
 ·rintro _ w1 ⟨i, q, u6, rfl, m7, k8, i9, i10, i11, i12⟩
  refine wc_seq <| sr ?_
  refine mv (vi ((i : Nat) : Int)) wN ?_
  refine mv (vs a1 x_a.length c2) wN ?_
  obtain ⟨y13, r14⟩ := RLv.row (r3.from0 m7)
  refine ln wN slTy_36 r14 ?_
  refine pu (vb (decide (((i : Nat) : Int) < (x_a.length : Int)))) wN ?_
  refine wl_nil <| wq_then ?_
  rcases bf (decide (((i : Nat) : Int) < (x_a.length : Int))) with h15 | h15
  ·have q134 := of_decide_eq_false h15
   refine cf h15 ?_
   refine wc_exit <| wq_then_exit <| wq_then_exit <| wq_blk_exit <| wq_then <| sr ?_
   refine mv (vi q) wN ?_
   refine ag (vi q) wN ?_
   refine wl_nil <| wq_then <| wc_ret ?_
   refine ret_1 (.inl rfl) (vi q) rfl rfl ?_
   refine ⟨m7.keep0, ?_⟩
   have hF135 : heldL hC_PNote x_a x_k = q := by first | exact heldL_ne (z := z_PNote) (by assumption) (by omega) (by simp only [hC_PNote, h15]; simp) | exact heldL_end (by assumption) (by omega)
   rw [hF135]
   exact rfl
  have q16 := of_decide_eq_true h15
  refine ct h15 ?_
  refine wc_skip <| wq_then <| wc_seq <| wc_block <| wc_seq <| sr ?_
  refine mv (vs a1 x_a.length c2) wN ?_
  refine mv (vi ((i : Nat) : Int)) wN ?_
  obtain ⟨y17, r18⟩ := RLv.row (r3.from0 m7)
  refine wl_index (v := (vs a1 x_a.length c2)) wN ((i : Nat) : Int) rfl rfl rfl slTy_36 rfl rfl r18 (by first | omega | (simp only [List.length_cons, List.length_nil, List.length_replicate, List.length_append, List.length_take, List.length_set, List.length_map]; omega)) (by first | omega | (simp only [List.length_cons, List.length_nil, List.length_replicate, List.length_append, List.length_take, List.length_set, List.length_map]; omega)) ?_
  obtain ⟨y19, l20, r21, e22, u23⟩ := RLv.el z_PNote (i := i) r3 (by first | omega | (simp only [List.length_cons, List.length_nil, List.length_replicate, List.length_append, List.length_take, List.length_set, List.length_map]; omega))
  obtain ⟨a24, c25, l29, rfl, r26, s27, u30⟩ := SubR.c u23
  obtain ⟨a31, c32, l36, rfl, r33, s34, u37⟩ := SubR.c u30
  obtain ⟨a38, c39, l43, rfl, r40, s41, u44⟩ := SubR.c u37
  obtain ⟨a45, c46, l50, rfl, r47, s48, u51⟩ := SubR.c u44
  obtain rfl := SubR.n u51
  refine wl_fieldE wN rfl rfl rfl fieldAt_41_0 rfl (r21.from0 m7) (by omega) ?_
  refine wl_loadE (vi ((x_a.getD i z_PNote).Kind)) wN rfl rfl rfl rfl isAgg_3 (r21.from0 m7) ((get_of (off := 0) e22 (by first | rfl | simp | omega) (by decide)).trans rfl) ?_
  refine mv (vi q) wN ?_
  refine pu (vb (!(decide ((x_a.getD i z_PNote).Kind = q)))) wN ?_
  refine wl_nil <| wq_then ?_
  rcases bf (decide ((x_a.getD i z_PNote).Kind = q)) with h52 | h52
  ·have q132 := of_decide_eq_false h52
   refine ct (congrArg not h52) ?_
   refine sr ?_
   refine ag (vi (-1)) wN ?_
   refine wl_nil <| wq_then <| wc_ret <| wq_then_ret <| wq_blk_ret <| wq_then_ret <| wq_then_ret <| wq_blk_ret <| wq_then_ret ?_
   refine ret_1 (.inl rfl) (vi (-1)) rfl rfl ?_
   refine ⟨m7.keep0, ?_⟩
   have hF133 : heldL hC_PNote x_a x_k = (-1) := by first | exact heldL_ne (z := z_PNote) (by assumption) (by omega) (by simp only [hC_PNote, h15, h52]; simp) | exact heldL_end (by assumption) (by omega)
   rw [hF133]
   exact rfl
  have q53 := of_decide_eq_true h52
  refine cf (congrArg not h52) ?_
  refine wc_skip <| wq_then <| sr ?_
  refine mv (vi q) wN ?_
  refine ar (q + 1) wN ?_
  refine ag (vi (q + 1)) wN ?_
  refine wl_nil <| wq_then <| wc_seq <| sr ?_
  refine mv (vs a1 x_a.length c2) wN ?_
  refine mv (vi ((i : Nat) : Int)) wN ?_
  obtain ⟨y54, r55⟩ := RLv.row (r3.from0 m7)
  refine wl_index (v := (vs a1 x_a.length c2)) wN ((i : Nat) : Int) rfl rfl rfl slTy_36 rfl rfl r55 (by first | omega | (simp only [List.length_cons, List.length_nil, List.length_replicate, List.length_append, List.length_take, List.length_set, List.length_map]; omega)) (by first | omega | (simp only [List.length_cons, List.length_nil, List.length_replicate, List.length_append, List.length_take, List.length_set, List.length_map]; omega)) ?_
  refine wl_fieldE wN rfl rfl rfl fieldAt_41_1 rfl (r21.from0 m7) (by omega) ?_
  refine wl_loadE (vi ((x_a.getD i z_PNote).Id)) wN rfl rfl rfl rfl isAgg_3 (r21.from0 m7) ((get_of (off := 1) e22 (by first | rfl | simp | omega) (by decide)).trans rfl) ?_
  refine mv (vi (q + 1)) wN ?_
  refine pu (vb (!(decide ((x_a.getD i z_PNote).Id = (q + 1))))) wN ?_
  refine wl_nil <| wq_then ?_
  rcases bf (decide ((x_a.getD i z_PNote).Id = (q + 1))) with h56 | h56
  ·have q130 := of_decide_eq_false h56
   refine ct (congrArg not h56) ?_
   refine sr ?_
   refine ag (vi (-1)) wN ?_
   refine wl_nil <| wq_then <| wc_ret <| wq_then_ret <| wq_blk_ret <| wq_then_ret <| wq_then_ret <| wq_blk_ret <| wq_then_ret ?_
   refine ret_1 (.inl rfl) (vi (-1)) rfl rfl ?_
   refine ⟨m7.keep0, ?_⟩
   have hF131 : heldL hC_PNote x_a x_k = (-1) := by first | exact heldL_ne (z := z_PNote) (by assumption) (by omega) (by simp only [hC_PNote, h15, h52, h56]; simp) | exact heldL_end (by assumption) (by omega)
   rw [hF131]
   exact rfl
  have q57 := of_decide_eq_true h56
  refine cf (congrArg not h56) ?_
  refine wc_skip <| wq_then <| sr ?_
  refine mv (vi (q + 1)) wN ?_
  refine ar ((q + 1) + 1) wN ?_
  refine ag (vi ((q + 1) + 1)) wN ?_
  refine wl_nil <| wq_then <| wc_seq <| sr ?_
  refine mv (vs a1 x_a.length c2) wN ?_
  refine mv (vi ((i : Nat) : Int)) wN ?_
  obtain ⟨y58, r59⟩ := RLv.row (r3.from0 m7)
  refine wl_index (v := (vs a1 x_a.length c2)) wN ((i : Nat) : Int) rfl rfl rfl slTy_36 rfl rfl r59 (by first | omega | (simp only [List.length_cons, List.length_nil, List.length_replicate, List.length_append, List.length_take, List.length_set, List.length_map]; omega)) (by first | omega | (simp only [List.length_cons, List.length_nil, List.length_replicate, List.length_append, List.length_take, List.length_set, List.length_map]; omega)) ?_
  refine wl_fieldE wN rfl rfl rfl fieldAt_41_2 rfl (r21.from0 m7) (by omega) ?_
  refine wl_loadE (vi ((x_a.getD i z_PNote).Role)) wN rfl rfl rfl rfl isAgg_3 (r21.from0 m7) ((get_of (off := 2) e22 (by first | rfl | simp | omega) (by decide)).trans rfl) ?_
  refine mv (vi ((q + 1) + 1)) wN ?_
  refine pu (vb (!(decide ((x_a.getD i z_PNote).Role = ((q + 1) + 1))))) wN ?_
  refine wl_nil <| wq_then ?_
  rcases bf (decide ((x_a.getD i z_PNote).Role = ((q + 1) + 1))) with h60 | h60
  ·have q128 := of_decide_eq_false h60
   refine ct (congrArg not h60) ?_
   refine sr ?_
   refine ag (vi (-1)) wN ?_
   refine wl_nil <| wq_then <| wc_ret <| wq_then_ret <| wq_blk_ret <| wq_then_ret <| wq_then_ret <| wq_blk_ret <| wq_then_ret ?_
   refine ret_1 (.inl rfl) (vi (-1)) rfl rfl ?_
   refine ⟨m7.keep0, ?_⟩
   have hF129 : heldL hC_PNote x_a x_k = (-1) := by first | exact heldL_ne (z := z_PNote) (by assumption) (by omega) (by simp only [hC_PNote, h15, h52, h56, h60]; simp) | exact heldL_end (by assumption) (by omega)
   rw [hF129]
   exact rfl
  have q61 := of_decide_eq_true h60
  refine cf (congrArg not h60) ?_
  refine wc_skip <| wq_then <| sr ?_
  refine mv (vi ((q + 1) + 1)) wN ?_
  refine ar (((q + 1) + 1) + 1) wN ?_
  refine ag (vi (((q + 1) + 1) + 1)) wN ?_
  refine nx ?_
  refine mv (vs a1 x_a.length c2) wN ?_
  refine mv (vi ((i : Nat) : Int)) wN ?_
  obtain ⟨y62, r63⟩ := RLv.row (r3.from0 m7)
  refine wl_index (v := (vs a1 x_a.length c2)) wN ((i : Nat) : Int) rfl rfl rfl slTy_36 rfl rfl r63 (by first | omega | (simp only [List.length_cons, List.length_nil, List.length_replicate, List.length_append, List.length_take, List.length_set, List.length_map]; omega)) (by first | omega | (simp only [List.length_cons, List.length_nil, List.length_replicate, List.length_append, List.length_take, List.length_set, List.length_map]; omega)) ?_
  refine wl_fieldE wN rfl rfl rfl fieldAt_41_3 rfl (r21.from0 m7) (by omega) ?_
  refine wl_loadE (vs a24 (x_a.getD i z_PNote).Cn.length c25) wN rfl rfl rfl rfl isAgg_22 (r21.from0 m7) ((get_of (off := 3) e22 (by first | rfl | simp | omega) (by decide)).trans rfl) ?_
  refine mv (vi (((q + 1) + 1) + 1)) wN ?_
  refine cl wN (C_laws_heldByteS w1 _ ((x_a.getD i z_PNote).Cn) (mR_22 (r26.from0 m7) s27) (((q + 1) + 1) + 1) (by omega) (by omega)) ?_
  rintro _ w2 ⟨k64, rfl⟩
  have m65 := m7.extk k64
  have q66 := heldB_le ((x_a.getD i z_PNote).Cn) (((q + 1) + 1) + 1)
  refine ag (vi (heldB ((x_a.getD i z_PNote).Cn) (((q + 1) + 1) + 1))) wN ?_
  refine wl_nil <| wq_then <| wc_seq <| sr ?_
  refine mv (vi (heldB ((x_a.getD i z_PNote).Cn) (((q + 1) + 1) + 1))) wN ?_
  refine pu (vb (decide ((heldB ((x_a.getD i z_PNote).Cn) (((q + 1) + 1) + 1)) < 0))) wN ?_
  refine wl_nil <| wq_then ?_
  rcases bt (decide ((heldB ((x_a.getD i z_PNote).Cn) (((q + 1) + 1) + 1)) < 0)) with h67 | h67
  ·have q68 := of_decide_eq_true h67
   refine ct h67 ?_
   refine sr ?_
   refine ag (vi (-1)) wN ?_
   refine wl_nil <| wq_then <| wc_ret <| wq_then_ret <| wq_blk_ret <| wq_then_ret <| wq_then_ret <| wq_blk_ret <| wq_then_ret ?_
   refine ret_1 (.inl rfl) (vi (-1)) rfl rfl ?_
   refine ⟨m65.keep0, ?_⟩
   have hF69 : heldL hC_PNote x_a x_k = (-1) := by first | exact heldL_ne (z := z_PNote) (by assumption) (by omega) (by simp only [hC_PNote, h15, h52, h56, h60, h67]; simp) | exact heldL_end (by assumption) (by omega)
   rw [hF69]
   exact rfl
  have q70 := of_decide_eq_false h67
  refine cf h67 ?_
  refine wc_skip <| wq_then <| sr ?_
  refine mv (vs a1 x_a.length c2) wN ?_
  refine mv (vi ((i : Nat) : Int)) wN ?_
  obtain ⟨y71, r72⟩ := RLv.row (r3.from0 m65)
  refine wl_index (v := (vs a1 x_a.length c2)) wN ((i : Nat) : Int) rfl rfl rfl slTy_36 rfl rfl r72 (by first | omega | (simp only [List.length_cons, List.length_nil, List.length_replicate, List.length_append, List.length_take, List.length_set, List.length_map]; omega)) (by first | omega | (simp only [List.length_cons, List.length_nil, List.length_replicate, List.length_append, List.length_take, List.length_set, List.length_map]; omega)) ?_
  refine wl_fieldE wN rfl rfl rfl fieldAt_41_4 rfl (r21.from0 m65) (by omega) ?_
  refine wl_loadE (vs a31 (x_a.getD i z_PNote).Sn.length c32) wN rfl rfl rfl rfl isAgg_22 (r21.from0 m65) ((get_of (off := 4) e22 (by first | rfl | simp | omega) (by decide)).trans rfl) ?_
  refine mv (vi (heldB ((x_a.getD i z_PNote).Cn) (((q + 1) + 1) + 1))) wN ?_
  refine cl wN (C_laws_heldByteS w2 _ ((x_a.getD i z_PNote).Sn) (mR_22 (r33.from0 m65) s34) (heldB ((x_a.getD i z_PNote).Cn) (((q + 1) + 1) + 1)) (by omega) (by omega)) ?_
  rintro _ w3 ⟨k73, rfl⟩
  have m74 := m65.extk k73
  have q75 := heldB_le ((x_a.getD i z_PNote).Sn) (heldB ((x_a.getD i z_PNote).Cn) (((q + 1) + 1) + 1))
  refine ag (vi (heldB ((x_a.getD i z_PNote).Sn) (heldB ((x_a.getD i z_PNote).Cn) (((q + 1) + 1) + 1)))) wN ?_
  refine wl_nil <| wq_then <| wc_seq <| sr ?_
  refine mv (vi (heldB ((x_a.getD i z_PNote).Sn) (heldB ((x_a.getD i z_PNote).Cn) (((q + 1) + 1) + 1)))) wN ?_
  refine pu (vb (decide ((heldB ((x_a.getD i z_PNote).Sn) (heldB ((x_a.getD i z_PNote).Cn) (((q + 1) + 1) + 1))) < 0))) wN ?_
  refine wl_nil <| wq_then ?_
  rcases bt (decide ((heldB ((x_a.getD i z_PNote).Sn) (heldB ((x_a.getD i z_PNote).Cn) (((q + 1) + 1) + 1))) < 0)) with h76 | h76
  ·have q77 := of_decide_eq_true h76
   refine ct h76 ?_
   refine sr ?_
   refine ag (vi (-1)) wN ?_
   refine wl_nil <| wq_then <| wc_ret <| wq_then_ret <| wq_blk_ret <| wq_then_ret <| wq_then_ret <| wq_blk_ret <| wq_then_ret ?_
   refine ret_1 (.inl rfl) (vi (-1)) rfl rfl ?_
   refine ⟨m74.keep0, ?_⟩
   have hF78 : heldL hC_PNote x_a x_k = (-1) := by first | exact heldL_ne (z := z_PNote) (by assumption) (by omega) (by simp only [hC_PNote, h15, h52, h56, h60, h67, h76]; simp) | exact heldL_end (by assumption) (by omega)
   rw [hF78]
   exact rfl
  have q79 := of_decide_eq_false h76
  refine cf h76 ?_
  refine wc_skip <| wq_then <| wc_seq <| sr ?_
  refine mv (vs a1 x_a.length c2) wN ?_
  refine mv (vi ((i : Nat) : Int)) wN ?_
  obtain ⟨y80, r81⟩ := RLv.row (r3.from0 m74)
  refine wl_index (v := (vs a1 x_a.length c2)) wN ((i : Nat) : Int) rfl rfl rfl slTy_36 rfl rfl r81 (by first | omega | (simp only [List.length_cons, List.length_nil, List.length_replicate, List.length_append, List.length_take, List.length_set, List.length_map]; omega)) (by first | omega | (simp only [List.length_cons, List.length_nil, List.length_replicate, List.length_append, List.length_take, List.length_set, List.length_map]; omega)) ?_
  refine wl_fieldE wN rfl rfl rfl fieldAt_41_5 rfl (r21.from0 m74) (by omega) ?_
  refine wl_loadE (vi ((x_a.getD i z_PNote).Epoch)) wN rfl rfl rfl rfl isAgg_3 (r21.from0 m74) ((get_of (off := 5) e22 (by first | rfl | simp | omega) (by decide)).trans rfl) ?_
  refine mv (vi (heldB ((x_a.getD i z_PNote).Sn) (heldB ((x_a.getD i z_PNote).Cn) (((q + 1) + 1) + 1)))) wN ?_
  refine pu (vb (!(decide ((x_a.getD i z_PNote).Epoch = (heldB ((x_a.getD i z_PNote).Sn) (heldB ((x_a.getD i z_PNote).Cn) (((q + 1) + 1) + 1))))))) wN ?_
  refine wl_nil <| wq_then ?_
  rcases bf (decide ((x_a.getD i z_PNote).Epoch = (heldB ((x_a.getD i z_PNote).Sn) (heldB ((x_a.getD i z_PNote).Cn) (((q + 1) + 1) + 1))))) with h82 | h82
  ·have q126 := of_decide_eq_false h82
   refine ct (congrArg not h82) ?_
   refine sr ?_
   refine ag (vi (-1)) wN ?_
   refine wl_nil <| wq_then <| wc_ret <| wq_then_ret <| wq_blk_ret <| wq_then_ret <| wq_then_ret <| wq_blk_ret <| wq_then_ret ?_
   refine ret_1 (.inl rfl) (vi (-1)) rfl rfl ?_
   refine ⟨m74.keep0, ?_⟩
   have hF127 : heldL hC_PNote x_a x_k = (-1) := by first | exact heldL_ne (z := z_PNote) (by assumption) (by omega) (by simp only [hC_PNote, h15, h52, h56, h60, h67, h76, h82]; simp) | exact heldL_end (by assumption) (by omega)
   rw [hF127]
   exact rfl
  have q83 := of_decide_eq_true h82
  refine cf (congrArg not h82) ?_
  refine wc_skip <| wq_then <| sr ?_
  refine mv (vi (heldB ((x_a.getD i z_PNote).Sn) (heldB ((x_a.getD i z_PNote).Cn) (((q + 1) + 1) + 1)))) wN ?_
  refine ar ((heldB ((x_a.getD i z_PNote).Sn) (heldB ((x_a.getD i z_PNote).Cn) (((q + 1) + 1) + 1))) + 1) wN ?_
  refine ag (vi ((heldB ((x_a.getD i z_PNote).Sn) (heldB ((x_a.getD i z_PNote).Cn) (((q + 1) + 1) + 1))) + 1)) wN ?_
  refine wl_nil <| wq_then <| wc_seq <| sr ?_
  refine mv (vs a1 x_a.length c2) wN ?_
  refine mv (vi ((i : Nat) : Int)) wN ?_
  obtain ⟨y84, r85⟩ := RLv.row (r3.from0 m74)
  refine wl_index (v := (vs a1 x_a.length c2)) wN ((i : Nat) : Int) rfl rfl rfl slTy_36 rfl rfl r85 (by first | omega | (simp only [List.length_cons, List.length_nil, List.length_replicate, List.length_append, List.length_take, List.length_set, List.length_map]; omega)) (by first | omega | (simp only [List.length_cons, List.length_nil, List.length_replicate, List.length_append, List.length_take, List.length_set, List.length_map]; omega)) ?_
  refine wl_fieldE wN rfl rfl rfl fieldAt_41_6 rfl (r21.from0 m74) (by omega) ?_
  refine wl_loadE (vi ((x_a.getD i z_PNote).Seq)) wN rfl rfl rfl rfl isAgg_3 (r21.from0 m74) ((get_of (off := 6) e22 (by first | rfl | simp | omega) (by decide)).trans rfl) ?_
  refine mv (vi ((heldB ((x_a.getD i z_PNote).Sn) (heldB ((x_a.getD i z_PNote).Cn) (((q + 1) + 1) + 1))) + 1)) wN ?_
  refine pu (vb (!(decide ((x_a.getD i z_PNote).Seq = ((heldB ((x_a.getD i z_PNote).Sn) (heldB ((x_a.getD i z_PNote).Cn) (((q + 1) + 1) + 1))) + 1))))) wN ?_
  refine wl_nil <| wq_then ?_
  rcases bf (decide ((x_a.getD i z_PNote).Seq = ((heldB ((x_a.getD i z_PNote).Sn) (heldB ((x_a.getD i z_PNote).Cn) (((q + 1) + 1) + 1))) + 1))) with h86 | h86
  ·have q124 := of_decide_eq_false h86
   refine ct (congrArg not h86) ?_
   refine sr ?_
   refine ag (vi (-1)) wN ?_
   refine wl_nil <| wq_then <| wc_ret <| wq_then_ret <| wq_blk_ret <| wq_then_ret <| wq_then_ret <| wq_blk_ret <| wq_then_ret ?_
   refine ret_1 (.inl rfl) (vi (-1)) rfl rfl ?_
   refine ⟨m74.keep0, ?_⟩
   have hF125 : heldL hC_PNote x_a x_k = (-1) := by first | exact heldL_ne (z := z_PNote) (by assumption) (by omega) (by simp only [hC_PNote, h15, h52, h56, h60, h67, h76, h82, h86]; simp) | exact heldL_end (by assumption) (by omega)
   rw [hF125]
   exact rfl
  have q87 := of_decide_eq_true h86
  refine cf (congrArg not h86) ?_
  refine wc_skip <| wq_then <| sr ?_
  refine mv (vi ((heldB ((x_a.getD i z_PNote).Sn) (heldB ((x_a.getD i z_PNote).Cn) (((q + 1) + 1) + 1))) + 1)) wN ?_
  refine ar (((heldB ((x_a.getD i z_PNote).Sn) (heldB ((x_a.getD i z_PNote).Cn) (((q + 1) + 1) + 1))) + 1) + 1) wN ?_
  refine ag (vi (((heldB ((x_a.getD i z_PNote).Sn) (heldB ((x_a.getD i z_PNote).Cn) (((q + 1) + 1) + 1))) + 1) + 1)) wN ?_
  refine nx ?_
  refine mv (vs a1 x_a.length c2) wN ?_
  refine mv (vi ((i : Nat) : Int)) wN ?_
  obtain ⟨y88, r89⟩ := RLv.row (r3.from0 m74)
  refine wl_index (v := (vs a1 x_a.length c2)) wN ((i : Nat) : Int) rfl rfl rfl slTy_36 rfl rfl r89 (by first | omega | (simp only [List.length_cons, List.length_nil, List.length_replicate, List.length_append, List.length_take, List.length_set, List.length_map]; omega)) (by first | omega | (simp only [List.length_cons, List.length_nil, List.length_replicate, List.length_append, List.length_take, List.length_set, List.length_map]; omega)) ?_
  refine wl_fieldE wN rfl rfl rfl fieldAt_41_7 rfl (r21.from0 m74) (by omega) ?_
  refine wl_loadE (vs a38 (x_a.getD i z_PNote).Body.length c39) wN rfl rfl rfl rfl isAgg_22 (r21.from0 m74) ((get_of (off := 7) e22 (by first | rfl | simp | omega) (by decide)).trans rfl) ?_
  refine mv (vi (((heldB ((x_a.getD i z_PNote).Sn) (heldB ((x_a.getD i z_PNote).Cn) (((q + 1) + 1) + 1))) + 1) + 1)) wN ?_
  refine cl wN (C_laws_heldByteS w3 _ ((x_a.getD i z_PNote).Body) (mR_22 (r40.from0 m74) s41) (((heldB ((x_a.getD i z_PNote).Sn) (heldB ((x_a.getD i z_PNote).Cn) (((q + 1) + 1) + 1))) + 1) + 1) (by omega) (by omega)) ?_
  rintro _ w4 ⟨k90, rfl⟩
  have m91 := m74.extk k90
  have q92 := heldB_le ((x_a.getD i z_PNote).Body) (((heldB ((x_a.getD i z_PNote).Sn) (heldB ((x_a.getD i z_PNote).Cn) (((q + 1) + 1) + 1))) + 1) + 1)
  refine ag (vi (heldB ((x_a.getD i z_PNote).Body) (((heldB ((x_a.getD i z_PNote).Sn) (heldB ((x_a.getD i z_PNote).Cn) (((q + 1) + 1) + 1))) + 1) + 1))) wN ?_
  refine wl_nil <| wq_then <| wc_seq <| sr ?_
  refine mv (vi (heldB ((x_a.getD i z_PNote).Body) (((heldB ((x_a.getD i z_PNote).Sn) (heldB ((x_a.getD i z_PNote).Cn) (((q + 1) + 1) + 1))) + 1) + 1))) wN ?_
  refine pu (vb (decide ((heldB ((x_a.getD i z_PNote).Body) (((heldB ((x_a.getD i z_PNote).Sn) (heldB ((x_a.getD i z_PNote).Cn) (((q + 1) + 1) + 1))) + 1) + 1)) < 0))) wN ?_
  refine wl_nil <| wq_then ?_
  rcases bt (decide ((heldB ((x_a.getD i z_PNote).Body) (((heldB ((x_a.getD i z_PNote).Sn) (heldB ((x_a.getD i z_PNote).Cn) (((q + 1) + 1) + 1))) + 1) + 1)) < 0)) with h93 | h93
  ·have q94 := of_decide_eq_true h93
   refine ct h93 ?_
   refine sr ?_
   refine ag (vi (-1)) wN ?_
   refine wl_nil <| wq_then <| wc_ret <| wq_then_ret <| wq_blk_ret <| wq_then_ret <| wq_then_ret <| wq_blk_ret <| wq_then_ret ?_
   refine ret_1 (.inl rfl) (vi (-1)) rfl rfl ?_
   refine ⟨m91.keep0, ?_⟩
   have hF95 : heldL hC_PNote x_a x_k = (-1) := by first | exact heldL_ne (z := z_PNote) (by assumption) (by omega) (by simp only [hC_PNote, h15, h52, h56, h60, h67, h76, h82, h86, h93]; simp) | exact heldL_end (by assumption) (by omega)
   rw [hF95]
   exact rfl
  have q96 := of_decide_eq_false h93
  refine cf h93 ?_
  refine wc_skip <| wq_then <| sr ?_
  refine mv (vs a1 x_a.length c2) wN ?_
  refine mv (vi ((i : Nat) : Int)) wN ?_
  obtain ⟨y97, r98⟩ := RLv.row (r3.from0 m91)
  refine wl_index (v := (vs a1 x_a.length c2)) wN ((i : Nat) : Int) rfl rfl rfl slTy_36 rfl rfl r98 (by first | omega | (simp only [List.length_cons, List.length_nil, List.length_replicate, List.length_append, List.length_take, List.length_set, List.length_map]; omega)) (by first | omega | (simp only [List.length_cons, List.length_nil, List.length_replicate, List.length_append, List.length_take, List.length_set, List.length_map]; omega)) ?_
  refine wl_fieldE wN rfl rfl rfl fieldAt_41_8 rfl (r21.from0 m91) (by omega) ?_
  refine wl_loadE (vs a45 (x_a.getD i z_PNote).Key.length c46) wN rfl rfl rfl rfl isAgg_22 (r21.from0 m91) ((get_of (off := 8) e22 (by first | rfl | simp | omega) (by decide)).trans rfl) ?_
  refine mv (vi (heldB ((x_a.getD i z_PNote).Body) (((heldB ((x_a.getD i z_PNote).Sn) (heldB ((x_a.getD i z_PNote).Cn) (((q + 1) + 1) + 1))) + 1) + 1))) wN ?_
  refine cl wN (C_laws_heldByteS w4 _ ((x_a.getD i z_PNote).Key) (mR_22 (r47.from0 m91) s48) (heldB ((x_a.getD i z_PNote).Body) (((heldB ((x_a.getD i z_PNote).Sn) (heldB ((x_a.getD i z_PNote).Cn) (((q + 1) + 1) + 1))) + 1) + 1)) (by omega) (by omega)) ?_
  rintro _ w5 ⟨k99, rfl⟩
  have m100 := m91.extk k99
  have q101 := heldB_le ((x_a.getD i z_PNote).Key) (heldB ((x_a.getD i z_PNote).Body) (((heldB ((x_a.getD i z_PNote).Sn) (heldB ((x_a.getD i z_PNote).Cn) (((q + 1) + 1) + 1))) + 1) + 1))
  refine ag (vi (heldB ((x_a.getD i z_PNote).Key) (heldB ((x_a.getD i z_PNote).Body) (((heldB ((x_a.getD i z_PNote).Sn) (heldB ((x_a.getD i z_PNote).Cn) (((q + 1) + 1) + 1))) + 1) + 1)))) wN ?_
  refine wl_nil <| wq_then <| wc_seq <| sr ?_
  refine mv (vi (heldB ((x_a.getD i z_PNote).Key) (heldB ((x_a.getD i z_PNote).Body) (((heldB ((x_a.getD i z_PNote).Sn) (heldB ((x_a.getD i z_PNote).Cn) (((q + 1) + 1) + 1))) + 1) + 1)))) wN ?_
  refine pu (vb (decide ((heldB ((x_a.getD i z_PNote).Key) (heldB ((x_a.getD i z_PNote).Body) (((heldB ((x_a.getD i z_PNote).Sn) (heldB ((x_a.getD i z_PNote).Cn) (((q + 1) + 1) + 1))) + 1) + 1))) < 0))) wN ?_
  refine wl_nil <| wq_then ?_
  rcases bt (decide ((heldB ((x_a.getD i z_PNote).Key) (heldB ((x_a.getD i z_PNote).Body) (((heldB ((x_a.getD i z_PNote).Sn) (heldB ((x_a.getD i z_PNote).Cn) (((q + 1) + 1) + 1))) + 1) + 1))) < 0)) with h102 | h102
  ·have q103 := of_decide_eq_true h102
   refine ct h102 ?_
   refine sr ?_
   refine ag (vi (-1)) wN ?_
   refine wl_nil <| wq_then <| wc_ret <| wq_then_ret <| wq_blk_ret <| wq_then_ret <| wq_then_ret <| wq_blk_ret <| wq_then_ret ?_
   refine ret_1 (.inl rfl) (vi (-1)) rfl rfl ?_
   refine ⟨m100.keep0, ?_⟩
   have hF104 : heldL hC_PNote x_a x_k = (-1) := by first | exact heldL_ne (z := z_PNote) (by assumption) (by omega) (by simp only [hC_PNote, h15, h52, h56, h60, h67, h76, h82, h86, h93, h102]; simp) | exact heldL_end (by assumption) (by omega)
   rw [hF104]
   exact rfl
  have q105 := of_decide_eq_false h102
  refine cf h102 ?_
  refine wc_skip <| wq_then <| wc_seq <| sr ?_
  refine mv (vs a1 x_a.length c2) wN ?_
  refine mv (vi ((i : Nat) : Int)) wN ?_
  obtain ⟨y106, r107⟩ := RLv.row (r3.from0 m100)
  refine wl_index (v := (vs a1 x_a.length c2)) wN ((i : Nat) : Int) rfl rfl rfl slTy_36 rfl rfl r107 (by first | omega | (simp only [List.length_cons, List.length_nil, List.length_replicate, List.length_append, List.length_take, List.length_set, List.length_map]; omega)) (by first | omega | (simp only [List.length_cons, List.length_nil, List.length_replicate, List.length_append, List.length_take, List.length_set, List.length_map]; omega)) ?_
  refine wl_fieldE wN rfl rfl rfl fieldAt_41_9 rfl (r21.from0 m100) (by omega) ?_
  refine wl_fieldE wN rfl rfl rfl fieldAt_26_0 rfl (r21.from0 m100) (by omega) ?_
  refine wl_loadE (vi (((x_a.getD i z_PNote).A).Host)) wN rfl rfl rfl rfl isAgg_3 (r21.from0 m100) ((get_of (off := 9) e22 (by first | rfl | simp | omega) (by decide)).trans rfl) ?_
  refine mv (vi (heldB ((x_a.getD i z_PNote).Key) (heldB ((x_a.getD i z_PNote).Body) (((heldB ((x_a.getD i z_PNote).Sn) (heldB ((x_a.getD i z_PNote).Cn) (((q + 1) + 1) + 1))) + 1) + 1)))) wN ?_
  refine pu (vb (!(decide (((x_a.getD i z_PNote).A).Host = (heldB ((x_a.getD i z_PNote).Key) (heldB ((x_a.getD i z_PNote).Body) (((heldB ((x_a.getD i z_PNote).Sn) (heldB ((x_a.getD i z_PNote).Cn) (((q + 1) + 1) + 1))) + 1) + 1))))))) wN ?_
  refine wl_nil <| wq_then ?_
  rcases bf (decide (((x_a.getD i z_PNote).A).Host = (heldB ((x_a.getD i z_PNote).Key) (heldB ((x_a.getD i z_PNote).Body) (((heldB ((x_a.getD i z_PNote).Sn) (heldB ((x_a.getD i z_PNote).Cn) (((q + 1) + 1) + 1))) + 1) + 1))))) with h108 | h108
  ·have q122 := of_decide_eq_false h108
   refine ct (congrArg not h108) ?_
   refine sr ?_
   refine ag (vi (-1)) wN ?_
   refine wl_nil <| wq_then <| wc_ret <| wq_then_ret <| wq_blk_ret <| wq_then_ret <| wq_then_ret <| wq_blk_ret <| wq_then_ret ?_
   refine ret_1 (.inl rfl) (vi (-1)) rfl rfl ?_
   refine ⟨m100.keep0, ?_⟩
   have hF123 : heldL hC_PNote x_a x_k = (-1) := by first | exact heldL_ne (z := z_PNote) (by assumption) (by omega) (by simp only [hC_PNote, h15, h52, h56, h60, h67, h76, h82, h86, h93, h102, h108]; simp) | exact heldL_end (by assumption) (by omega)
   rw [hF123]
   exact rfl
  have q109 := of_decide_eq_true h108
  refine cf (congrArg not h108) ?_
  refine wc_skip <| wq_then <| sr ?_
  refine mv (vi (heldB ((x_a.getD i z_PNote).Key) (heldB ((x_a.getD i z_PNote).Body) (((heldB ((x_a.getD i z_PNote).Sn) (heldB ((x_a.getD i z_PNote).Cn) (((q + 1) + 1) + 1))) + 1) + 1)))) wN ?_
  refine ar ((heldB ((x_a.getD i z_PNote).Key) (heldB ((x_a.getD i z_PNote).Body) (((heldB ((x_a.getD i z_PNote).Sn) (heldB ((x_a.getD i z_PNote).Cn) (((q + 1) + 1) + 1))) + 1) + 1))) + 1) wN ?_
  refine ag (vi ((heldB ((x_a.getD i z_PNote).Key) (heldB ((x_a.getD i z_PNote).Body) (((heldB ((x_a.getD i z_PNote).Sn) (heldB ((x_a.getD i z_PNote).Cn) (((q + 1) + 1) + 1))) + 1) + 1))) + 1)) wN ?_
  refine wl_nil <| wq_then <| wc_seq <| sr ?_
  refine mv (vs a1 x_a.length c2) wN ?_
  refine mv (vi ((i : Nat) : Int)) wN ?_
  obtain ⟨y110, r111⟩ := RLv.row (r3.from0 m100)
  refine wl_index (v := (vs a1 x_a.length c2)) wN ((i : Nat) : Int) rfl rfl rfl slTy_36 rfl rfl r111 (by first | omega | (simp only [List.length_cons, List.length_nil, List.length_replicate, List.length_append, List.length_take, List.length_set, List.length_map]; omega)) (by first | omega | (simp only [List.length_cons, List.length_nil, List.length_replicate, List.length_append, List.length_take, List.length_set, List.length_map]; omega)) ?_
  refine wl_fieldE wN rfl rfl rfl fieldAt_41_9 rfl (r21.from0 m100) (by omega) ?_
  refine wl_fieldE wN rfl rfl rfl fieldAt_26_1 rfl (r21.from0 m100) (by omega) ?_
  refine wl_loadE (vi (((x_a.getD i z_PNote).A).Port)) wN rfl rfl rfl rfl isAgg_3 (r21.from0 m100) ((get_of (off := 10) e22 (by first | rfl | simp | omega) (by decide)).trans rfl) ?_
  refine mv (vi ((heldB ((x_a.getD i z_PNote).Key) (heldB ((x_a.getD i z_PNote).Body) (((heldB ((x_a.getD i z_PNote).Sn) (heldB ((x_a.getD i z_PNote).Cn) (((q + 1) + 1) + 1))) + 1) + 1))) + 1)) wN ?_
  refine pu (vb (!(decide (((x_a.getD i z_PNote).A).Port = ((heldB ((x_a.getD i z_PNote).Key) (heldB ((x_a.getD i z_PNote).Body) (((heldB ((x_a.getD i z_PNote).Sn) (heldB ((x_a.getD i z_PNote).Cn) (((q + 1) + 1) + 1))) + 1) + 1))) + 1))))) wN ?_
  refine wl_nil <| wq_then ?_
  rcases bf (decide (((x_a.getD i z_PNote).A).Port = ((heldB ((x_a.getD i z_PNote).Key) (heldB ((x_a.getD i z_PNote).Body) (((heldB ((x_a.getD i z_PNote).Sn) (heldB ((x_a.getD i z_PNote).Cn) (((q + 1) + 1) + 1))) + 1) + 1))) + 1))) with h112 | h112
  ·have q120 := of_decide_eq_false h112
   refine ct (congrArg not h112) ?_
   refine sr ?_
   refine ag (vi (-1)) wN ?_
   refine wl_nil <| wq_then <| wc_ret <| wq_then_ret <| wq_blk_ret <| wq_then_ret <| wq_then_ret <| wq_blk_ret <| wq_then_ret ?_
   refine ret_1 (.inl rfl) (vi (-1)) rfl rfl ?_
   refine ⟨m100.keep0, ?_⟩
   have hF121 : heldL hC_PNote x_a x_k = (-1) := by first | exact heldL_ne (z := z_PNote) (by assumption) (by omega) (by simp only [hC_PNote, h15, h52, h56, h60, h67, h76, h82, h86, h93, h102, h108, h112]; simp) | exact heldL_end (by assumption) (by omega)
   rw [hF121]
   exact rfl
  have q113 := of_decide_eq_true h112
  refine cf (congrArg not h112) ?_
  refine wc_skip <| wq_then <| sr ?_
  refine mv (vi ((heldB ((x_a.getD i z_PNote).Key) (heldB ((x_a.getD i z_PNote).Body) (((heldB ((x_a.getD i z_PNote).Sn) (heldB ((x_a.getD i z_PNote).Cn) (((q + 1) + 1) + 1))) + 1) + 1))) + 1)) wN ?_
  refine ar (((heldB ((x_a.getD i z_PNote).Key) (heldB ((x_a.getD i z_PNote).Body) (((heldB ((x_a.getD i z_PNote).Sn) (heldB ((x_a.getD i z_PNote).Cn) (((q + 1) + 1) + 1))) + 1) + 1))) + 1) + 1) wN ?_
  refine ag (vi (((heldB ((x_a.getD i z_PNote).Key) (heldB ((x_a.getD i z_PNote).Body) (((heldB ((x_a.getD i z_PNote).Sn) (heldB ((x_a.getD i z_PNote).Cn) (((q + 1) + 1) + 1))) + 1) + 1))) + 1) + 1)) wN ?_
  refine wl_nil <| wq_then <| wc_seq <| sr ?_
  refine mv (vs a1 x_a.length c2) wN ?_
  refine mv (vi ((i : Nat) : Int)) wN ?_
  obtain ⟨y114, r115⟩ := RLv.row (r3.from0 m100)
  refine wl_index (v := (vs a1 x_a.length c2)) wN ((i : Nat) : Int) rfl rfl rfl slTy_36 rfl rfl r115 (by first | omega | (simp only [List.length_cons, List.length_nil, List.length_replicate, List.length_append, List.length_take, List.length_set, List.length_map]; omega)) (by first | omega | (simp only [List.length_cons, List.length_nil, List.length_replicate, List.length_append, List.length_take, List.length_set, List.length_map]; omega)) ?_
  refine wl_fieldE wN rfl rfl rfl fieldAt_41_10 rfl (r21.from0 m100) (by omega) ?_
  refine wl_loadE (vi ((x_a.getD i z_PNote).Now)) wN rfl rfl rfl rfl isAgg_3 (r21.from0 m100) ((get_of (off := 11) e22 (by first | rfl | simp | omega) (by decide)).trans rfl) ?_
  refine mv (vi (((heldB ((x_a.getD i z_PNote).Key) (heldB ((x_a.getD i z_PNote).Body) (((heldB ((x_a.getD i z_PNote).Sn) (heldB ((x_a.getD i z_PNote).Cn) (((q + 1) + 1) + 1))) + 1) + 1))) + 1) + 1)) wN ?_
  refine pu (vb (!(decide ((x_a.getD i z_PNote).Now = (((heldB ((x_a.getD i z_PNote).Key) (heldB ((x_a.getD i z_PNote).Body) (((heldB ((x_a.getD i z_PNote).Sn) (heldB ((x_a.getD i z_PNote).Cn) (((q + 1) + 1) + 1))) + 1) + 1))) + 1) + 1))))) wN ?_
  refine wl_nil <| wq_then ?_
  rcases bf (decide ((x_a.getD i z_PNote).Now = (((heldB ((x_a.getD i z_PNote).Key) (heldB ((x_a.getD i z_PNote).Body) (((heldB ((x_a.getD i z_PNote).Sn) (heldB ((x_a.getD i z_PNote).Cn) (((q + 1) + 1) + 1))) + 1) + 1))) + 1) + 1))) with h116 | h116
  ·have q118 := of_decide_eq_false h116
   refine ct (congrArg not h116) ?_
   refine sr ?_
   refine ag (vi (-1)) wN ?_
   refine wl_nil <| wq_then <| wc_ret <| wq_then_ret <| wq_blk_ret <| wq_then_ret <| wq_then_ret <| wq_blk_ret <| wq_then_ret ?_
   refine ret_1 (.inl rfl) (vi (-1)) rfl rfl ?_
   refine ⟨m100.keep0, ?_⟩
   have hF119 : heldL hC_PNote x_a x_k = (-1) := by first | exact heldL_ne (z := z_PNote) (by assumption) (by omega) (by simp only [hC_PNote, h15, h52, h56, h60, h67, h76, h82, h86, h93, h102, h108, h112, h116]; simp) | exact heldL_end (by assumption) (by omega)
   rw [hF119]
   exact rfl
  have q117 := of_decide_eq_true h116
  refine cf (congrArg not h116) ?_
  refine wc_skip <| wq_then <| wc_region ?_
  refine mv (vi (((heldB ((x_a.getD i z_PNote).Key) (heldB ((x_a.getD i z_PNote).Body) (((heldB ((x_a.getD i z_PNote).Sn) (heldB ((x_a.getD i z_PNote).Cn) (((q + 1) + 1) + 1))) + 1) + 1))) + 1) + 1)) wN ?_
  refine ar ((((heldB ((x_a.getD i z_PNote).Key) (heldB ((x_a.getD i z_PNote).Body) (((heldB ((x_a.getD i z_PNote).Sn) (heldB ((x_a.getD i z_PNote).Cn) (((q + 1) + 1) + 1))) + 1) + 1))) + 1) + 1) + 1) wN ?_
  refine ag (vi ((((heldB ((x_a.getD i z_PNote).Key) (heldB ((x_a.getD i z_PNote).Body) (((heldB ((x_a.getD i z_PNote).Sn) (heldB ((x_a.getD i z_PNote).Cn) (((q + 1) + 1) + 1))) + 1) + 1))) + 1) + 1) + 1)) wN ?_
  refine wl_nil <| wq_blk_normal <| wq_then <| wc_region ?_
  refine mv (vi ((i : Nat) : Int)) wN ?_
  refine ar (((i : Nat) : Int) + 1) wN ?_
  refine ag (vi (((i : Nat) : Int) + 1)) wN ?_
  refine wl_nil ?_
  refine wq_loopQ (w0 := w1) (fun e => [e 0, (vi ((((heldB (x_a.getD i z_PNote).Key (heldB (x_a.getD i z_PNote).Body (((heldB (x_a.getD i z_PNote).Sn (heldB (x_a.getD i z_PNote).Cn (((q + 1) + 1) + 1))) + 1) + 1))) + 1) + 1) + 1)), e 2, e 3, e 4, (vi (((i + 1) : Nat) : Int)), e 6, e 7, e 8, e 9, e 10, e 11, e 12, e 13, e 14, e 15, e 16, e 17, e 18, e 19, e 20, e 21, e 22, e 23, e 24, e 25, e 26, e 27, e 28, e 29, e 30, e 31, e 32, e 33, e 34, e 35, e 36, e 37, e 38, e 39, e 40, e 41, e 42, e 43, e 44, e 45, e 46, e 47, e 48, e 49, e 50, e 51, e 52, e 53, e 54, e 55, e 56, e 57, e 58, e 59, e 60, e 61, e 62, e 63, e 64, e 65, e 66, e 67, e 68, e 69, e 70, e 71, e 72, e 73, e 74, e 75, e 76, e 77, e 78, e 79, e 80, e 81, e 82, e 83, e 84, e 85, e 86, e 87, e 88, e 89, e 90, e 91, e 92, e 93, e 94, e 95, e 96, e 97, e 98, e 99, e 100, e 101, e 102, e 103, e 104, e 105, e 106, e 107, e 108, e 109, e 110, e 111, e 112, e 113, e 114, e 115, e 116, e 117, e 118, e 119, e 120, e 121, e 122]) rfl ?_ ?_ ?_
  · exact ⟨rfl, (congrArg (Value.int .i64) (show (((((heldB ((x_a.getD i z_PNote).Key) (heldB ((x_a.getD i z_PNote).Body) (((heldB ((x_a.getD i z_PNote).Sn) (heldB ((x_a.getD i z_PNote).Cn) (((q + 1) + 1) + 1))) + 1) + 1))) + 1) + 1) + 1) : Int) = ((((heldB (x_a.getD i z_PNote).Key (heldB (x_a.getD i z_PNote).Body (((heldB (x_a.getD i z_PNote).Sn (heldB (x_a.getD i z_PNote).Cn (((q + 1) + 1) + 1))) + 1) + 1))) + 1) + 1) + 1) by omega)), rfl, rfl, rfl, (congrArg (Value.int .i64) (show ((((i : Nat) : Int) + 1) : Int) = (((i + 1) : Nat) : Int) by omega)), rfl, rfl, rfl, rfl, rfl, rfl, rfl, rfl, rfl, rfl, rfl, rfl, rfl, rfl, rfl, rfl, rfl, rfl, rfl, rfl, rfl, rfl, rfl, rfl, rfl, rfl, rfl, rfl, rfl, rfl, rfl, rfl, rfl, rfl, rfl, rfl, rfl, rfl, rfl, rfl, rfl, rfl, rfl, rfl, rfl, rfl, rfl, rfl, rfl, rfl, rfl, rfl, rfl, rfl, rfl, rfl, rfl, rfl, rfl, rfl, rfl, rfl, rfl, rfl, rfl, rfl, rfl, rfl, rfl, rfl, rfl, rfl, rfl, rfl, rfl, rfl, rfl, rfl, rfl, rfl, rfl, rfl, rfl, rfl, rfl, rfl, rfl, rfl, rfl, rfl, rfl, rfl, rfl, rfl, rfl, rfl, rfl, rfl, rfl, rfl, rfl, rfl, rfl, rfl, rfl, rfl, rfl, rfl, rfl, rfl, rfl, rfl, rfl, rfl, rfl, rfl, rfl, trivial⟩
  · exact ⟨(i + 1), ((((heldB (x_a.getD i z_PNote).Key (heldB (x_a.getD i z_PNote).Body (((heldB (x_a.getD i z_PNote).Sn (heldB (x_a.getD i z_PNote).Cn (((q + 1) + 1) + 1))) + 1) + 1))) + 1) + 1) + 1), (unL [_, _, _, _, _, _, _, _, _, _, _, _, _, _, _, _, _, _, _, _, _, _, _, _, _, _, _, _, _, _, _, _, _, _, _, _, _, _, _, _, _, _, _, _, _, _, _, _, _, _, _, _, _, _, _, _, _, _, _, _, _, _, _, _, _, _, _, _, _, _, _, _, _, _, _, _, _, _, _, _, _, _, _, _, _, _, _, _, _, _, _, _, _, _, _, _, _, _, _, _, _, _, _, _, _, _, _, _, _, _, _, _, _, _, _, _, _, _, _]), rfl, m100, ((((((Ch.refl (fun k => w0.heap.size ≤ k) w0).ext k8 (fun k hk => Nat.le_trans (Nat.le_refl w0.heap.size) hk)).extk k64).extk k73).extk k90).extk k99), (by omega), (by first | (simp; done) | exact heldL_next (z := z_PNote) (by assumption) (by omega) (by simp only [hC_PNote, h15, h52, h56, h60, h67, h76, h82, h86, h93, h102, h108, h112, h116]; simp) (by omega)), (by omega), (by omega)⟩
  · show x_a.length - ((((i + 1) : Nat) : Int)).toNat < x_a.length - (((i : Nat) : Int)).toNat; omega

theorem mQ_75 {w : World} {x : List PNote} {a1 : Option Addr} {c1 : Nat} (h1 : RLv LT_144 w 9223372036854775807 a1 x.length c1 x) (l1 : x.length ≤ 9223372036854775807) : Q_75 w (vs a1 x.length c1) x := ⟨_, _, rfl, h1, l1⟩
theorem mR_75 {w : World} {x : List PNote} {a1 : Option Addr} {c1 : Nat} (h1 : RLv LT_144 w 1073741824 a1 x.length c1 x) (l1 : x.length ≤ 1073741824) : R_75 w (vs a1 x.length c1) x := ⟨_, _, rfl, h1, l1⟩
theorem mR_36 {w : World} {x : List PNote} {a1 : Option Addr} {c1 : Nat} (h1 : RLv LT_41 w 1073741824 a1 x.length c1 x) (l1 : x.length ≤ 1073741824) : R_36 w (vs a1 x.length c1) x := ⟨_, _, rfl, h1, l1⟩
def F_laws_FnExactPick (x_aL : List PNote) (x_aKind : Int) : (Bool) := bif (decide ((szT_PNote x_aL 1048576) < 0)) then (true) else (bif (eqF_PNote (F_impl_Pick (cpL x_aL) x_aKind) (F_spec_Pick (cpL x_aL) x_aKind)) then (bif (eqF_PNote (cpL x_aL) (cpL x_aL)) then (bif (decide ((1 + totL wt_PNote (cpL x_aL)) < 0)) then (false) else (bif (decide (((heldL hC_PNote (marksE mkE_PNote wt_PNote (F_impl_Pick (cpL x_aL) x_aKind) 1) 1)) < 0)) then (false) else (bif (decide (((heldL hC_PNote (marksE mkE_PNote wt_PNote (F_impl_Pick (cpL x_aL) x_aKind) 1) 1)) = (1 + totL wt_PNote (F_impl_Pick (cpL x_aL) x_aKind)))) then (true) else (false)))) else (false)) else (false))
theorem C_laws_FnExactPick (w0 : World) (v_x_aL : Value) (x_aL : List PNote) (r_x_aL : Q_75 w0 v_x_aL x_aL) (x_aKind : Int)  : Fn Try.prog 8 #[v_x_aL, (vi x_aKind)] w0 (fun v w' => Keep w0 w' ∧ O_4 w' w0.heap.size v (F_laws_FnExactPick x_aL x_aKind)) := by
 obtain ⟨a1, c2, rfl, r3, s4⟩ := r_x_aL
 refine fn_of (n := 74) (l := [(vs a1 x_aL.length c2), (vi x_aKind), U, U, U, U, U, U, U, U, U, U, U, U, U, U, U, U, U, U, U, U, U, U, U, U, U, U, U, U, U, U, U, U, U, U, U, U, U, U, U, U, U, U, U, U, U, U, U, U, U, U, U, U, U, U, U, U, U, U, U, U, U, U, U, U, U, U, U, U, U, U, U, U]) Try.func8 rfl rfl (by kernel_rfl) rfl ?_
 refine sr ?_
 refine ag (vb false) wN ?_
 refine nx ?_
 refine ag (vi 1048576) wN ?_
 refine nx ?_
 refine mv (vs a1 x_aL.length c2) wN ?_
 refine mv (vi 1048576) wN ?_
 refine cl wN (C_laws_szNoteS w0 _ x_aL (mQ_75 r3 s4) 1048576 (by omega) (by omega)) ?_
 rintro _ w1 ⟨k6, rfl⟩
 have m7 := (Ch.base w0).extk k6
 refine ag (vi (szT_PNote x_aL 1048576)) wN ?_
 refine wl_nil <| wq_then <| wc_seq <| sr ?_
 refine mv (vi (szT_PNote x_aL 1048576)) wN ?_
 refine pu (vb (decide ((szT_PNote x_aL 1048576) < 0))) wN ?_
 refine wl_nil <| wq_then ?_
 rcases bt (decide ((szT_PNote x_aL 1048576) < 0)) with h8 | h8
 ·have q9 := of_decide_eq_true h8
  refine ct h8 ?_
  refine sr ?_
  refine ag (vb true) wN ?_
  refine wl_nil <| wq_then <| wc_ret <| wq_then_ret ?_
  refine ret_1 (.inl rfl) (vb true) rfl rfl ?_
  refine ⟨m7.keep0, ?_⟩
  have hF10 : F_laws_FnExactPick x_aL x_aKind = true := by simp only [F_laws_FnExactPick, h8, cond_true, cond_false]
  rw [hF10]
  exact rfl
 have q11 := of_decide_eq_false h8
 obtain ⟨z12a, z12b⟩ := ok_szT_PNote q11
 refine cf h8 ?_
 refine wc_skip <| wq_then <| sr ?_
 refine mv (vs a1 x_aL.length c2) wN ?_
 refine cl wN (C_laws_toNoteS w1 _ x_aL (mR_75 (RLv.raw (r3.from0 m7) (by omega) (fun e he b hb => Nat.le_trans (z12b e he b hb) (by decide))) (by omega))) ?_
 rintro _ w2 ⟨k13, ⟨a14, c15, rfl, o16, s17, ap19⟩⟩
 have m20 := m7.extk k13
 obtain ⟨y21, o22⟩ := OLv.ow o16
 refine mv (vi x_aKind) wN ?_
 refine cl wN (C_spec_Pick w2 _ (cpL x_aL) (mR_36 (OLv.rl o16) s17) x_aKind) ?_
 rintro _ w3 ⟨k23, ⟨a24, c25, rfl, o26, s27, ap29⟩⟩
 have m30 := m20.extk k23
 obtain ⟨y31, o32⟩ := OLv.ow o26
 refine ag (vs a24 (F_spec_Pick (cpL x_aL) x_aKind).length c25) wN ?_
 refine nx ?_
 refine mv (vs a1 x_aL.length c2) wN ?_
 refine cl wN (C_laws_toNoteS w3 _ x_aL (mR_75 (RLv.raw (r3.from0 m30) (by omega) (fun e he b hb => Nat.le_trans (z12b e he b hb) (by decide))) (by omega))) ?_
 rintro _ w4 ⟨k33, ⟨a34, c35, rfl, o36, s37, ap39⟩⟩
 have m40 := m30.extk k33
 obtain ⟨y41, o42⟩ := OLv.ow o36
 refine ag (vs a34 (cpL x_aL).length c35) wN ?_
 refine nx ?_
 refine mv (vs a34 (cpL x_aL).length c35) wN ?_
 refine mv (vi x_aKind) wN ?_
 refine cl wN (C_impl_Pick w4 _ (cpL x_aL) (mR_36 (OLv.rl o36) s37) x_aKind) ?_
 rintro _ w5 ⟨k43, ⟨a44, c45, rfl, o46, s47, ap49⟩⟩
 have m50 := m40.extk k43
 obtain ⟨y51, o52⟩ := OLv.ow o46
 refine ag (vs a44 (F_impl_Pick (cpL x_aL) x_aKind).length c45) wN ?_
 refine wl_nil <| wq_then <| wc_seq <| sr ?_
 refine mv (vs a44 (F_impl_Pick (cpL x_aL) x_aKind).length c45) wN ?_
 refine mv (vs a24 (F_spec_Pick (cpL x_aL) x_aKind).length c25) wN ?_
 have o53 := (OLv.kp (OLv.kp o26 k33) k43)
 obtain ⟨y55, e56⟩ : ∃ y, eqF_PNote (F_impl_Pick (cpL x_aL) x_aKind) (F_spec_Pick (cpL x_aL) x_aKind) = y := ⟨_, rfl⟩
 have hc54 := C_laws_eqNoteS w5 _ (F_impl_Pick (cpL x_aL) x_aKind) (mR_36 (OLv.rl o46) s47) _ (F_spec_Pick (cpL x_aL) x_aKind) (mR_36 (OLv.rl o53) s27)
 rw [e56] at hc54
 refine cl wN hc54 ?_
 rintro _ w6 ⟨k57, rfl⟩
 have m58 := m50.extk k57
 refine pu (vb (!(y55))) wN ?_
 refine wl_nil <| wq_then ?_
 rcases bf y55 with h59 | h59
 ·refine ct (congrArg not h59) ?_
  refine sr ?_
  refine ag (vb false) wN ?_
  refine wl_nil <| wq_then <| wc_ret <| wq_then_ret ?_
  refine ret_1 (.inl rfl) (vb false) rfl rfl ?_
  refine ⟨m58.keep0, ?_⟩
  have hF140 : F_laws_FnExactPick x_aL x_aKind = false := by simp only [F_laws_FnExactPick, h8, e56, h59, cond_true, cond_false]
  rw [hF140]
  exact rfl
 refine cf (congrArg not h59) ?_
 refine wc_skip <| wq_then <| wc_seq <| sr ?_
 refine mv (vs a34 (cpL x_aL).length c35) wN ?_
 refine mv (vs a1 x_aL.length c2) wN ?_
 refine cl wN (C_laws_toNoteS w6 _ x_aL (mR_75 (RLv.raw (r3.from0 m58) (by omega) (fun e he b hb => Nat.le_trans (z12b e he b hb) (by decide))) (by omega))) ?_
 rintro _ w7 ⟨k61, ⟨a62, c63, rfl, o64, s65, ap67⟩⟩
 have m68 := m58.extk k61
 obtain ⟨y69, o70⟩ := OLv.ow o64
 have o71 := (OLv.kp (OLv.kp (OLv.kp o36 k43) k57) k61)
 refine cl wN (C_laws_eqNoteS w7 _ (cpL x_aL) (mR_36 (OLv.rl o71) s37) _ (cpL x_aL) (mR_36 (OLv.rl o64) s65)) ?_
 rintro _ w8 ⟨k72, rfl⟩
 have m73 := m68.extk k72
 refine pu (vb (!(eqF_PNote (cpL x_aL) (cpL x_aL)))) wN ?_
 refine wl_nil <| wq_then ?_
 rcases bf (eqF_PNote (cpL x_aL) (cpL x_aL)) with h74 | h74
 ·refine ct (congrArg not h74) ?_
  refine sr ?_
  refine ag (vb false) wN ?_
  refine wl_nil <| wq_then <| wc_ret <| wq_then_ret ?_
  refine ret_1 (.inl rfl) (vb false) rfl rfl ?_
  refine ⟨m73.keep0, ?_⟩
  have hF138 : F_laws_FnExactPick x_aL x_aKind = false := by simp only [F_laws_FnExactPick, h8, e56, h59, h74, cond_true, cond_false]
  rw [hF138]
  exact rfl
 refine cf (congrArg not h74) ?_
 refine wc_skip <| wq_then <| sr ?_
 refine ag (vi 1) wN ?_
 refine nx ?_
 refine mv (vs a34 (cpL x_aL).length c35) wN ?_
 refine mv (vi 1) wN ?_
 have o76 := (OLv.kp o71 k72)
 refine cl wN (C_laws_markNoteS w8 a34 c35 (cpL x_aL) _ _ 1 (by omega) (by omega) o76) ?_
 rintro _ w9 ⟨rfl, k77, r78⟩
 have m79 := m73.ext k77 (fun k hk => Nat.le_trans (t3 k6.size k13.size k23.size) hk.1)
 have q80 := OLv.wb (wt := wt_PNote) (C := 4294967304) o76 (by intro x; simp only [wt_PNote]; omega) (by intro x hx; simp only [LT_41, List.mem_cons, List.not_mem_nil, or_false, forall_eq_or_imp, forall_eq] at hx; simp only [wt_PNote]; omega) _ (Nat.le_refl _)
 rw [List.take_length] at q80
 refine ag (vi (1 + totL wt_PNote (cpL x_aL))) wN ?_
 refine wl_nil <| wq_then <| wc_seq <| sr ?_
 refine mv (vi (1 + totL wt_PNote (cpL x_aL))) wN ?_
 refine pu (vb (decide ((1 + totL wt_PNote (cpL x_aL)) < 0))) wN ?_
 refine mv (vb (decide ((1 + totL wt_PNote (cpL x_aL)) < 0))) wN ?_
 rcases bt (decide ((1 + totL wt_PNote (cpL x_aL)) < 0)) with h81 | h81
 ·have q82 := of_decide_eq_true h81
  refine sk h81 ?_
  refine sk h81 ?_
  refine sk h81 ?_
  refine sk h81 ?_
  refine pk (vb true) wN h81 ?_
  refine wl_nil <| wq_then ?_
  refine ct (Eq.refl true) ?_
  refine sr ?_
  refine ag (vb false) wN ?_
  refine wl_nil <| wq_then <| wc_ret <| wq_then_ret ?_
  refine ret_1 (.inl rfl) (vb false) rfl rfl ?_
  refine ⟨m79.keep0, ?_⟩
  have hF83 : F_laws_FnExactPick x_aL x_aKind = false := by simp only [F_laws_FnExactPick, h8, e56, h59, h74, h81, cond_true, cond_false]
  rw [hF83]
  exact rfl
 have q84 := of_decide_eq_false h81
 refine mv (vs a44 (F_impl_Pick (cpL x_aL) x_aKind).length c45) (wS h81) ?_
 refine mv (vs a24 (F_spec_Pick (cpL x_aL) x_aKind).length c25) (wS h81) ?_
 have o85 := (OLv.ch (OLv.kp (OLv.kp (OLv.kp o46 k57) k61) k72) k77 (fun g h1 h2 hk => by have h3 := (Nat.le_refl w4.heap.size); have h4 := hk.2.1; omega))
 have o86 := (OLv.ch (OLv.kp (OLv.kp (OLv.kp o53 k57) k61) k72) k77 (fun g h1 h2 hk => by have h3 := (Nat.le_refl w3.heap.size); have h4 := hk.1; omega))
 have hc87 := C_laws_eqNoteS w9 _ (F_impl_Pick (cpL x_aL) x_aKind) (mR_36 (OLv.rl o85) s47) _ (F_spec_Pick (cpL x_aL) x_aKind) (mR_36 (OLv.rl o86) s27)
 rw [e56] at hc87
 refine cl (wS h81) hc87 ?_
 rintro _ w10 ⟨k88, rfl⟩
 have m89 := m79.extk k88
 refine pu (vb (!(y55))) (wS h81) ?_
 refine pf (vb (!(y55))) wN h81 ?_
 refine wl_nil <| wq_then ?_
 refine cf (congrArg not h59) ?_
 refine wc_skip <| wq_then <| sr ?_
 refine ag (vi 1) wN ?_
 refine nx ?_
 refine mv (vs a44 (F_impl_Pick (cpL x_aL) x_aKind).length c45) wN ?_
 refine mv (vi 1) wN ?_
 have o90 := (OLv.kp o85 k88)
 refine cl wN (C_laws_markNoteS w10 a44 c45 (F_impl_Pick (cpL x_aL) x_aKind) _ _ 1 (by omega) (by omega) o90) ?_
 rintro _ w11 ⟨rfl, k91, r92⟩
 have m93 := m89.ext k91 (fun k hk => Nat.le_trans (t4 k6.size k13.size k23.size k33.size) hk.1)
 have q94 := OLv.wb (wt := wt_PNote) (C := 4294967304) o90 (by intro x; simp only [wt_PNote]; omega) (by intro x hx; simp only [LT_41, List.mem_cons, List.not_mem_nil, or_false, forall_eq_or_imp, forall_eq] at hx; simp only [wt_PNote]; omega) _ (Nat.le_refl _)
 rw [List.take_length] at q94
 refine ag (vi (1 + totL wt_PNote (F_impl_Pick (cpL x_aL) x_aKind))) wN ?_
 refine nx ?_
 refine ag (vi 1) wN ?_
 refine nx ?_
 refine mv (vs a44 (F_impl_Pick (cpL x_aL) x_aKind).length c45) wN ?_
 refine mv (vi 1) wN ?_
 obtain ⟨y96, e97⟩ : ∃ y, heldL hC_PNote (marksE mkE_PNote wt_PNote (F_impl_Pick (cpL x_aL) x_aKind) 1) 1 = y := ⟨_, rfl⟩
 have hc95 := C_laws_heldNoteS w11 _ _ (show R_36 w11 (vs a44 (F_impl_Pick (cpL x_aL) x_aKind).length c45) (marksE mkE_PNote wt_PNote (F_impl_Pick (cpL x_aL) x_aKind) 1) from ⟨a44, c45, by simp only [marksB_len, marksI_len, marksL_len, marksE_len], by simpa only [marksB_len, marksI_len, marksL_len, marksE_len] using (RLk.rl r92), by simp only [marksB_len, marksI_len, marksL_len, marksE_len]; first | exact s47 | omega⟩) 1 (by omega) (by omega)
 rw [e97] at hc95
 refine cl wN hc95 ?_
 rintro _ w12 ⟨k98, rfl⟩
 have m99 := m93.extk k98
 refine ag (vi (y96)) wN ?_
 refine wl_nil <| wq_then <| wc_seq <| sr ?_
 refine mv (vi (y96)) wN ?_
 refine pu (vb (decide ((y96) < 0))) wN ?_
 refine wl_nil <| wq_then ?_
 rcases bt (decide ((y96) < 0)) with h100 | h100
 ·have q101 := of_decide_eq_true h100
  refine ct h100 ?_
  refine sr ?_
  refine ag (vb false) wN ?_
  refine wl_nil <| wq_then <| wc_ret <| wq_then_ret ?_
  refine ret_1 (.inl rfl) (vb false) rfl rfl ?_
  refine ⟨m99.keep0, ?_⟩
  have hF102 : F_laws_FnExactPick x_aL x_aKind = false := by simp only [F_laws_FnExactPick, h8, e56, h59, h74, h81, e97, h100, cond_true, cond_false]
  rw [hF102]
  exact rfl
 have q103 := of_decide_eq_false h100
 refine cf h100 ?_
 refine wc_skip <| wq_then <| wc_seq <| sr ?_
 refine mv (vi (y96)) wN ?_
 refine mv (vi (1 + totL wt_PNote (F_impl_Pick (cpL x_aL) x_aKind))) wN ?_
 refine pu (vb (!(decide ((y96) = (1 + totL wt_PNote (F_impl_Pick (cpL x_aL) x_aKind)))))) wN ?_
 refine wl_nil <| wq_then ?_
 rcases bf (decide ((y96) = (1 + totL wt_PNote (F_impl_Pick (cpL x_aL) x_aKind)))) with h104 | h104
 ·have q135 := of_decide_eq_false h104
  refine ct (congrArg not h104) ?_
  refine sr ?_
  refine ag (vb false) wN ?_
  refine wl_nil <| wq_then <| wc_ret <| wq_then_ret ?_
  refine ret_1 (.inl rfl) (vb false) rfl rfl ?_
  refine ⟨m99.keep0, ?_⟩
  have hF136 : F_laws_FnExactPick x_aL x_aKind = false := by simp only [F_laws_FnExactPick, h8, e56, h59, h74, h81, e97, h100, h104, cond_true, cond_false]
  rw [hF136]
  exact rfl
 have q105 := of_decide_eq_true h104
 refine cf (congrArg not h104) ?_
 refine wc_skip <| wq_then <| sr ?_
 refine mv (vs a1 x_aL.length c2) wN ?_
 refine cl wN (C_laws_toNoteS w12 _ x_aL (mR_75 (RLv.raw (r3.from0 m99) (by omega) (fun e he b hb => Nat.le_trans (z12b e he b hb) (by decide))) (by omega))) ?_
 rintro _ w13 ⟨k106, ⟨a107, c108, rfl, o109, s110, ap112⟩⟩
 have m113 := m99.extk k106
 obtain ⟨y114, o115⟩ := OLv.ow o109
 refine mv (vi x_aKind) wN ?_
 refine cl wN (C_impl_Pick w13 _ (cpL x_aL) (mR_36 (OLv.rl o109) s110) x_aKind) ?_
 rintro _ w14 ⟨k116, ⟨a117, c118, rfl, o119, s120, ap122⟩⟩
 have m123 := m113.extk k116
 obtain ⟨y124, o125⟩ := OLv.ow o119
 refine ag (vs a117 (F_impl_Pick (cpL x_aL) x_aKind).length c118) wN ?_
 refine wl_nil <| wq_then <| wc_seq <| sr ?_
 refine mv (vs a117 (F_impl_Pick (cpL x_aL) x_aKind).length c118) wN ?_
 refine mv (vs a24 (F_spec_Pick (cpL x_aL) x_aKind).length c25) wN ?_
 have o126 := (OLv.kp (OLv.kp (OLv.kp (OLv.ch (OLv.kp o86 k88) k91 (fun g h1 h2 hk => by have h3 := k33.size; have h4 := hk.1; omega)) k98) k106) k116)
 have hc127 := C_laws_eqNoteS w14 _ (F_impl_Pick (cpL x_aL) x_aKind) (mR_36 (OLv.rl o119) s120) _ (F_spec_Pick (cpL x_aL) x_aKind) (mR_36 (OLv.rl o126) s27)
 rw [e56] at hc127
 refine cl wN hc127 ?_
 rintro _ w15 ⟨k128, rfl⟩
 have m129 := m123.extk k128
 refine pu (vb (!(y55))) wN ?_
 refine wl_nil <| wq_then ?_
 refine cf (congrArg not h59) ?_
 refine wc_skip <| wq_then <| sr ?_
 refine ag (vi 1) wN ?_
 refine nx ?_
 refine mv (vs a44 (F_impl_Pick (cpL x_aL) x_aKind).length c45) wN ?_
 refine mv (vi 1) wN ?_
 have r130 := (RLk.kp (RLk.kp (RLk.kp (RLk.kp r92 k98) k106) k116) k128)
 have hc131 := C_laws_heldNoteS w15 _ _ (show R_36 w15 (vs a44 (F_impl_Pick (cpL x_aL) x_aKind).length c45) (marksE mkE_PNote wt_PNote (F_impl_Pick (cpL x_aL) x_aKind) 1) from ⟨a44, c45, by simp only [marksB_len, marksI_len, marksL_len, marksE_len], by simpa only [marksB_len, marksI_len, marksL_len, marksE_len] using (RLk.rl r130), by simp only [marksB_len, marksI_len, marksL_len, marksE_len]; first | exact s47 | omega⟩) 1 (by omega) (by omega)
 rw [e97] at hc131
 refine cl wN hc131 ?_
 rintro _ w16 ⟨k132, rfl⟩
 have m133 := m129.extk k132
 refine ag (vi (y96)) wN ?_
 refine wl_nil <| wq_then <| wc_seq <| sr ?_
 refine mv (vi (y96)) wN ?_
 refine pu (vb (decide ((y96) < 0))) wN ?_
 refine wl_nil <| wq_then ?_
 refine cf h100 ?_
 refine wc_skip <| wq_then <| wc_seq <| sr ?_
 refine mv (vi (y96)) wN ?_
 refine mv (vi (1 + totL wt_PNote (F_impl_Pick (cpL x_aL) x_aKind))) wN ?_
 refine pu (vb (!(decide ((y96) = (1 + totL wt_PNote (F_impl_Pick (cpL x_aL) x_aKind)))))) wN ?_
 refine wl_nil <| wq_then ?_
 refine cf (congrArg not h104) ?_
 refine wc_skip <| wq_then <| sr ?_
 refine ag (vb true) wN ?_
 refine wl_nil <| wq_then <| wc_ret ?_
 refine ret_1 (.inl rfl) (vb true) rfl rfl ?_
 refine ⟨m133.keep0, ?_⟩
 have hF134 : F_laws_FnExactPick x_aL x_aKind = true := by simp only [F_laws_FnExactPick, h8, e56, h59, h74, h81, e97, h100, h104, cond_true, cond_false]
 rw [hF134]
 exact rfl
end Go.Proofs.Ytjcahjhnnagkdaa.K
