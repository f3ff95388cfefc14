import Derived.Test.YtjcahjhnnagkdaaCore
import Derived.Test.YtjcahjhnnagkdaaProg
import Derived.Test.YtjcahjhnnagkdaaHeld
import Derived.Test.YtjcahjhnnagkdaaFun
import Derived.Test.YtjcahjhnnagkdaaFunZ
import Derived.Test.YtjcahjhnnagkdaaMark
import Derived.Test.YtjcahjhnnagkdaaWp1
namespace Go.Proofs.Ytjcahjhnnagkdaa.K
open Go.RowKit
set_option linter.unusedVariables false
set_option linter.unusedSimpArgs false
set_option maxRecDepth 100000
theorem C_laws_markByteS_own (w0 : World) (a : Option Addr) (c : Nat) (x : List UInt8) (lo : Nat) (k : Int) (h0 : 0 ≤ k) (h1 : k ≤ 9000000000000000000) (hs : x.length ≤ 1073741824) (r : w0.ownsRow lo 5 1 (.slice a x.length c) x.length (x.map bV)) :
    Fn Try.prog 60 #[(.slice a x.length c), .int .i64 k] w0 (fun v w' => v = .int .i64 (k + x.length) ∧ Ch (fun b => (Value.slice a x.length c).ownBlock = some b) w0 w' ∧ w'.ownsRow lo 5 1 (.slice a x.length c) x.length ((marksB k x.length).map bV)) := by
 refine fn_of (n := 20) (l := [(.slice a x.length c), (.int .i64 k), undef, undef, undef, undef, undef, undef, undef, undef, undef, undef, undef, undef, undef, undef, undef, undef, undef, undef]) Try.func60 rfl rfl (by kernel_rfl) rfl ?_
 refine sr ?_
 refine ag (vi 0) wN ?_
 refine wl_nil <| wq_then <| wc_seq <| sr ?_
 refine ag (vi 0) wN ?_
 refine wl_nil <| wq_then <| wc_block ?_
 refine wc_norm [(vs a x.length c), (vi k), U, U, (vi 0), (vi 0), U, U, U, U, U, U, U, U, U, U, U, U, U, U] rfl ⟨rfl, rfl, rfl, rfl, rfl, rfl, rfl, rfl, rfl, rfl, rfl, rfl, rfl, rfl, rfl, rfl, rfl, rfl, rfl, rfl, trivial⟩ ?_
 refine wc_loop (fun e' w' => ∃ (i : Nat) (u6x u7x u8x u9x u10x u11x u12x u13x u14x u15x u16x u17x u18x : Value), e' = lst [(vs a x.length c), (vi (k + ((i : Nat) : Int))), U, U, (vi 0), (vi ((i : Nat) : Int)), u6x, u7x, u8x, u9x, u10x, u11x, u12x, u13x, u14x, u15x, u16x, u17x, u18x, U] ∧ i ≤ x.length ∧ Ch (fun b => (Value.slice a x.length c).ownBlock = some b) w0 w' ∧ w'.ownsRow lo 5 1 (.slice a x.length c) x.length ((marksB k i ++ x.drop i).map bV)) (fun e' _ => x.length - (intOf (e' 5)).toNat) ?_ ?_
 ·exact ⟨0, U, U, U, U, U, U, U, U, U, U, U, U, U, congrArg (fun (p : Value) => lst [(vs a x.length c), p, U, U, (vi 0), (vi 0), U, U, U, U, U, U, U, U, U, U, U, U, U, U]) (congrArg (Value.int .i64) (show k = k + ((0 : Nat) : Int) by omega)), Nat.zero_le _, Ch.refl _ _, by simpa [marksB] using r⟩
 ·rintro _ w1 ⟨i, u6x, u7x, u8x, u9x, u10x, u11x, u12x, u13x, u14x, u15x, u16x, u17x, u18x, rfl, hi, hc, ho⟩
  refine wc_seq <| sr ?_
  refine mv (vi ((i : Nat) : Int)) wN ?_
  refine mv (vs a x.length c) wN ?_
  refine ln wN slTy_22 (Rd.of_own ho) ?_
  refine pu (vb (decide (((i : Nat) : Int) < (x.length : Int)))) wN ?_
  refine wl_nil <| wq_then ?_
  rcases bf (decide (((i : Nat) : Int) < (x.length : Int))) with h101 | h101
  ·have q105 := of_decide_eq_false h101
   refine cf h101 ?_
   refine wc_exit <| wq_then_exit <| wq_then_exit <| wq_blk_exit <| wq_then <| sr ?_
   refine mv (vi (k + ((i : Nat) : Int))) wN ?_
   refine ag (vi (k + ((i : Nat) : Int))) wN ?_
   refine wl_nil <| wq_then <| wc_ret ?_
   have hI : i = x.length := by omega
   subst hI
   refine ret_1 (.inl rfl) (vi (k + ((x.length : Nat) : Int))) rfl rfl ⟨rfl, hc, ?_⟩
   simpa using ho
  have q102 := of_decide_eq_true h101
  refine ct h101 ?_
  refine wc_skip <| wq_then <| wc_seq <| wc_block <| sr ?_
  refine mv (vs a x.length c) wN ?_
  refine mv (vi ((i : Nat) : Int)) wN ?_
  refine mv (vi (k + ((i : Nat) : Int))) wN ?_
  refine wl_conv8 (k + ((i : Nat) : Int)) wN rfl rfl (by kernel_rfl) ?_
  refine wl_index wN ((i : Nat) : Int) rfl rfl rfl slTy_22 rfl rfl (Rd.of_own ho) (by first | omega | (simp only [List.length_cons, List.length_nil, List.length_replicate, List.length_append, List.length_take, List.length_set, List.length_map]; omega)) (by first | omega | (simp only [List.length_cons, List.length_nil, List.length_replicate, List.length_append, List.length_take, List.length_set, List.length_map]; omega)) ?_
  refine wl_storeB ((marksB k i ++ x.drop i)) i ((by8 (k + ((i : Nat) : Int)))) wN rfl rfl rfl (by simp) rfl sizeOf_5 ho (by simp only [List.length_append, List.length_drop, marksB_len]; omega) ?_
  intro w2 k103 o104
  refine wl_nil <| wq_then <| wc_region ?_
  refine mv (vi (k + ((i : Nat) : Int))) wN ?_
  refine ar ((k + ((i : Nat) : Int)) + 1) wN ?_
  refine ag (vi ((k + ((i : Nat) : Int)) + 1)) wN ?_
  refine wl_nil <| wq_blk_normal <| wq_then <| wc_region ?_
  refine mv (vi ((i : Nat) : Int)) wN ?_
  refine ar (((i : Nat) : Int) + 1) wN ?_
  refine ag (vi (((i : Nat) : Int) + 1)) wN ?_
  refine wl_nil ?_
  have hE : (((marksB k i ++ x.drop i)).set i ((by8 (k + ((i : Nat) : Int))))) = marksB k (i + 1) ++ x.drop (i + 1) := by
   rw [List.set_append_right _ _ (by rw [marksB_len]; omega), marksB_len, Nat.sub_self, List.drop_eq_getElem_cons (by omega), List.set_cons_zero, marksB_snoc]
   simp
  rw [hE] at o104
  exact wq_loopN (w0 := w1) [(vs a x.length c), (vi (k + ((i + 1 : Nat) : Int))), U, U, (vi 0), (vi ((i + 1 : Nat) : Int)), (vi ((i : Nat) : Int)), (vs a x.length c), (vi (x.length : Int)), (vb (decide (((i : Nat) : Int) < (x.length : Int)))), (vi ((i : Nat) : Int)), (vi (((i : Nat) : Int) + 1)), (vs a x.length c), (vi ((i : Nat) : Int)), (vi (k + ((i : Nat) : Int))), (v8 ((by8 (k + ((i : Nat) : Int))).toNat : Int)), (ve (vs a x.length c) ((((i : Nat) : Int)).toNat * 1)), (vi (k + ((i : Nat) : Int))), (vi ((k + ((i : Nat) : Int)) + 1)), U] rfl ⟨rfl, (congrArg (Value.int .i64) (show (((k + ((i : Nat) : Int)) + 1) : Int) = (k + ((i + 1 : Nat) : Int)) by omega)), rfl, rfl, rfl, (congrArg (Value.int .i64) (show ((((i : Nat) : Int) + 1) : Int) = ((i + 1 : Nat) : Int) by omega)), rfl, rfl, rfl, rfl, rfl, rfl, rfl, rfl, rfl, rfl, rfl, rfl, rfl, rfl, trivial⟩ ⟨i + 1, (vi ((i : Nat) : Int)), (vs a x.length c), (vi (x.length : Int)), (vb (decide (((i : Nat) : Int) < (x.length : Int)))), (vi ((i : Nat) : Int)), (vi (((i : Nat) : Int) + 1)), (vs a x.length c), (vi ((i : Nat) : Int)), (vi (k + ((i : Nat) : Int))), (v8 ((by8 (k + ((i : Nat) : Int))).toNat : Int)), (ve (vs a x.length c) ((((i : Nat) : Int)).toNat * 1)), (vi (k + ((i : Nat) : Int))), (vi ((k + ((i : Nat) : Int)) + 1)), rfl, by omega, hc.comp k103 (fun _ _ h => h), o104⟩ (by show x.length - (((i + 1 : Nat) : Int)).toNat < x.length - (((i : Nat) : Int)).toNat; omega)
theorem C_laws_markByteS_nil (w0 : World) (a : Option Addr) (c : Nat) (k : Int) (r : Rd w0 1 (.slice a 0 c) 0 []) :
    Fn Try.prog 60 #[.slice a 0 c, .int .i64 k] w0 (fun v w' => v = .int .i64 k ∧ w' = w0) := by
 have hz : decide ((0 : Int) < ((0 : Nat) : Int)) = false := by decide
 refine fn_of (n := 20) (l := [(.slice a 0 c), (.int .i64 k), undef, undef, undef, undef, undef, undef, undef, undef, undef, undef, undef, undef, undef, undef, undef, undef, undef, undef]) Try.func60 rfl rfl (by kernel_rfl) rfl ?_
 refine sr ?_
 refine ag (vi 0) wN ?_
 refine wl_nil <| wq_then <| wc_seq <| sr ?_
 refine ag (vi 0) wN ?_
 refine wl_nil <| wq_then <| wc_block ?_
 refine wc_norm [(vs a 0 c), (vi k), U, U, (vi 0), (vi 0), U, U, U, U, U, U, U, U, U, U, U, U, U, U] rfl ⟨rfl, rfl, rfl, rfl, rfl, rfl, rfl, rfl, rfl, rfl, rfl, rfl, rfl, rfl, rfl, rfl, rfl, rfl, rfl, rfl, trivial⟩ ?_
 refine wc_loop (fun e' w' => e' = lst [(vs a 0 c), (vi k), U, U, (vi 0), (vi 0), U, U, U, U, U, U, U, U, U, U, U, U, U, U] ∧ w' = w0) (fun _ _ => 0) ⟨rfl, rfl⟩ ?_
 rintro _ _ ⟨rfl, rfl⟩
 refine wc_seq <| sr ?_
 refine mv (vi 0) wN ?_
 refine mv (vs a 0 c) wN ?_
 refine ln wN slTy_22 r ?_
 refine pu (vb (decide (0 < ((0 : Nat) : Int)))) wN ?_
 refine wl_nil <| wq_then ?_
 refine cf hz ?_
 refine wc_exit <| wq_then_exit <| wq_then_exit <| wq_blk_exit <| wq_then <| sr ?_
 refine mv (vi k) wN ?_
 refine ag (vi k) wN ?_
 refine wl_nil <| wq_then <| wc_ret ?_
 exact ret_1 (.inl rfl) (vi k) rfl rfl ⟨rfl, rfl⟩
theorem C_laws_markByteS (w0 : World) (a : Option Addr) (c : Nat) (x : List UInt8) (k : Int) (h0 : 0 ≤ k) (h1 : k ≤ 9000000000000000000) (hs : x.length ≤ 1073741824) (r : Rd w0 1 (.slice a x.length c) x.length (x.map bV)) (hw : Wp w0 5 a x.length c (x.map bV)) :
    Fn Try.prog 60 #[.slice a x.length c, .int .i64 k] w0 (fun v w' => v = .int .i64 (k + x.length) ∧ Ch (MS [(a, x.length)]) w0 w' ∧ Rd w' 1 (.slice a x.length c) x.length ((marksB k x.length).map bV)) := by
  rcases Nat.eq_zero_or_pos x.length with hz | hz
  · obtain rfl : x = [] := List.eq_nil_of_length_eq_zero hz
    refine (C_laws_markByteS_nil w0 a c k r).mono ?_
    rintro _ _ ⟨rfl, rfl⟩
    exact ⟨by simp, Ch.refl _ _, r⟩
  · rcases hw with hw | ⟨lo, hw⟩
    · omega
    · refine (C_laws_markByteS_own w0 a c x lo k h0 h1 hs hw).mono ?_
      rintro _ w' ⟨rfl, hc, ho⟩
      refine ⟨rfl, hc.mono fun b _ hb => ?_, Rd.of_own ho⟩
      rcases a with _ | ad
      · cases hb
      · exact .inl ⟨hz, ad, rfl, by simpa [Value.ownBlock] using hb⟩
theorem C_laws_markByteS_w (w0 : World) (a : Option Addr) (c : Nat) (x : List UInt8) (k : Int) (h0 : 0 ≤ k) (h1 : k ≤ 9000000000000000000) (h : W1 w0 5 (a, c) x) :
    Fn Try.prog 60 #[.slice a x.length c, .int .i64 k] w0 (fun v w' => v = .int .i64 (k + x.length) ∧ Ch (MS [(a, x.length)]) w0 w' ∧ W1 w' 5 (a, c) (marksB k x.length)) := by
  rcases Nat.eq_zero_or_pos x.length with hz | hz
  · obtain rfl : x = [] := List.eq_nil_of_length_eq_zero hz
    refine (C_laws_markByteS_nil w0 a c k h.2.1).mono ?_
    rintro _ _ ⟨rfl, rfl⟩
    exact ⟨by simp, Ch.refl _ _, h⟩
  · rcases h.1 with hw | ⟨lo, hw⟩
    · omega
    · refine (C_laws_markByteS_own w0 a c x lo k h0 h1 h.2.2 hw).mono ?_
      rintro _ w' ⟨rfl, hc, ho⟩
      have hl : (marksB k x.length).length = x.length := marksB_len _ _
      refine ⟨rfl, hc.mono fun b _ hb => ?_, .inr ⟨lo, by rw [hl]; exact ho⟩, by rw [hl]; exact Rd.of_own ho, by rw [hl]; exact h.2.2⟩
      rcases a with _ | ad
      · cases hb
      · exact .inl ⟨hz, ad, rfl, by simpa [Value.ownBlock] using hb⟩

theorem fieldAt_26_0 : ∀ a w, (Instr.fieldAt 26 (.pointer (some a)) 0).run Try.prog w = .ok (.pointer (some (a.add 0))) w := fun a w => by kernel_rfl
theorem fieldAt_26_1 : ∀ a w, (Instr.fieldAt 26 (.pointer (some a)) 1).run Try.prog w = .ok (.pointer (some (a.add 1))) w := fun a w => by kernel_rfl
theorem fieldAt_54_1 : ∀ a w, (Instr.fieldAt 54 (.pointer (some a)) 1).run Try.prog w = .ok (.pointer (some (a.add 2))) w := fun a w => by kernel_rfl
def mkE_PCand (a : PCand) (k : Int) : PCand := { A := { Host := k, Port := ((k + 1)) : PAddr }, Draw := (marksB ((k + 1) + 1) a.Draw.length), Until := ((((k + 1) + 1) + (a.Draw.length : Int))) : PCand }
def wt_PCand (a : PCand) : Int := ((((0 + 1) + 1) + (a.Draw.length : Int)) + 1)
theorem C_laws_markCandS (w0 : World) (a : Option Addr) (c : Nat) (x : List PCand) (lo hi : Nat) (k : Int) (h0 : 0 ≤ k) (h1 : k ≤ 4000000000000000000) (r : OLv LT_54 w0 lo hi a x.length c x) :
    Fn Try.prog 104 #[vs a x.length c, vi k] w0 (fun v w' => v = vi (k + totL wt_PCand x) ∧ Ch (RowS LT_54 w0 lo hi) w0 w' ∧ RLk LT_54 w' lo hi a x.length c (marksE mkE_PCand wt_PCand x k)) := by
 obtain ⟨y, hy, hn, hl, hC, hI⟩ := OLv.mark (mk := mkE_PCand) (wt := wt_PCand) (k := k) r
 have hwb : ∀ i, i ≤ x.length → 0 ≤ totL wt_PCand ((y.take i).map Prod.fst) ∧ totL wt_PCand ((y.take i).map Prod.fst) ≤ 1073741827 * (i : Int) := fun i hi => by rw [List.map_take, hy]; exact OLv.wb r (by intro x; simp only [wt_PCand]; omega) (by intro x hx; simp only [LT_54, List.mem_cons, List.not_mem_nil, or_false, forall_eq_or_imp, forall_eq] at hx; simp only [wt_PCand]; omega) i hi
 have hy0 : y.length = x.length := hC.len
 refine fn_of (n := 43) (l := [(vs a x.length c), (vi k), U, U, U, U, U, U, U, U, U, U, U, U, U, U, U, U, U, U, U, U, U, U, U, U, U, U, U, U, U, U, U, U, U, U, U, U, U, U, U, U, U]) Try.func104 rfl rfl (by kernel_rfl) rfl ?_
 refine sr ?_
 refine ag (vi 0) wN ?_
 refine wl_nil <| wq_then <| wc_seq <| sr ?_
 refine ag (vi 0) wN ?_
 refine wl_nil <| wq_then <| wc_block ?_
 refine wc_norm [(vs a x.length c), (vi k), U, U, (vi 0), (vi 0), U, U, U, U, U, U, U, U, U, U, U, U, U, U, U, U, U, U, U, U, U, U, U, U, U, U, U, U, U, U, U, U, U, U, U, U, U] rfl ⟨rfl, rfl, rfl, rfl, rfl, rfl, rfl, rfl, rfl, rfl, rfl, rfl, rfl, rfl, rfl, rfl, rfl, rfl, rfl, rfl, rfl, rfl, rfl, rfl, rfl, rfl, rfl, rfl, rfl, rfl, rfl, rfl, rfl, rfl, rfl, rfl, rfl, rfl, rfl, rfl, rfl, rfl, rfl, trivial⟩ ?_
 refine wc_loop (fun e' w' => ∃ (i : Nat) (u0 : Nat → Value), e' = lst [(vs a x.length c), (vi (k + totL wt_PCand ((y.take i).map Prod.fst))), U, U, (vi 0), (vi ((i : Nat) : Int)), (u0 0), (u0 1), (u0 2), (u0 3), (u0 4), (u0 5), (u0 6), (u0 7), (u0 8), (u0 9), (u0 10), (u0 11), (u0 12), (u0 13), (u0 14), (u0 15), (u0 16), (u0 17), (u0 18), (u0 19), (u0 20), (u0 21), (u0 22), (u0 23), (u0 24), (u0 25), (u0 26), (u0 27), (u0 28), (u0 29), (u0 30), (u0 31), (u0 32), (u0 33), (u0 34), (u0 35), U] ∧ i ≤ x.length ∧ MkI LT_54 mkE_PCand wt_PCand w0 lo hi a x.length c y k i w') (fun e' _ => x.length - (intOf (e' 5)).toNat) ?_ ?_
 ·exact ⟨0, unL [U, U, U, U, U, U, U, U, U, U, U, U, U, U, U, U, U, U, U, U, U, U, U, U, U, U, U, U, U, U, U, U, U, U, U, U], congrArg (fun (p : Value) => lst [(vs a x.length c), p, U, U, (vi 0), (vi 0), U, U, U, U, U, U, U, U, U, U, U, U, U, U, U, U, U, U, U, U, U, U, U, U, U, U, U, U, U, U, U, U, U, U, U, U, U]) (congrArg (Value.int .i64) (show k = k + totL wt_PCand ((y.take 0).map Prod.fst) by simp [totL])), Nat.zero_le _, hI⟩
 ·rintro _ w1 ⟨i, u0, rfl, hi, hI1⟩
  have hb0 := hwb i hi
  refine wc_seq <| sr ?_
  refine mv (vi ((i : Nat) : Int)) wN ?_
  refine mv (vs a x.length c) wN ?_
  refine ln wN slTy_57 (Rd.of_own hI1.row) ?_
  refine pu (vb (decide (((i : Nat) : Int) < (x.length : Int)))) wN ?_
  refine wl_nil <| wq_then ?_
  rcases bf (decide (((i : Nat) : Int) < (x.length : Int))) with h101 | h101
  ·have q138 := of_decide_eq_false h101
   refine cf h101 ?_
   refine wc_exit <| wq_then_exit <| wq_then_exit <| wq_blk_exit <| wq_then <| sr ?_
   refine mv (vi (k + totL wt_PCand ((y.take i).map Prod.fst))) wN ?_
   refine ag (vi (k + totL wt_PCand ((y.take i).map Prod.fst))) wN ?_
   refine wl_nil <| wq_then <| wc_ret ?_
   obtain rfl : i = x.length := by omega
   have hz : (y.take x.length).map Prod.fst = x := by rw [List.map_take, hy, List.take_length]
   refine ret_1 (.inl rfl) (vi (k + totL wt_PCand ((y.take x.length).map Prod.fst))) rfl rfl ⟨by rw [hz], hI1.ch, hI1.doneK hC hy rfl hl⟩
  have q102 := of_decide_eq_true h101
  refine ct h101 ?_
  refine wc_skip <| wq_then <| wc_seq <| wc_block <| sr ?_
  refine mv (vs a x.length c) wN ?_
  refine mv (vi ((i : Nat) : Int)) wN ?_
  refine mv (vi (k + totL wt_PCand ((y.take i).map Prod.fst))) wN ?_
  obtain ⟨e, l, hex, x103, s104, t105, p106, q107, d108⟩ := MkI.open z_PCand hI1 hC (by omega)
  rw [hy] at hex
  subst hex
  obtain ⟨a109, c110, l111, rfl, w112, s113⟩ := SubW.c s104
  have b114 := w112.2.2
  obtain rfl := SubW.nn s113
  refine wl_index wN ((i : Nat) : Int) rfl rfl rfl slTy_57 rfl rfl (Rd.of_own hI1.row) (by first | omega | (simp only [List.length_cons, List.length_nil, List.length_replicate, List.length_append, List.length_take, List.length_set, List.length_map]; omega)) (by first | omega | (simp only [List.length_cons, List.length_nil, List.length_replicate, List.length_append, List.length_take, List.length_set, List.length_map]; omega)) ?_
  refine wl_fieldE wN rfl rfl rfl fieldAt_54_0 rfl (Rd.of_own hI1.row) (by omega) ?_
  refine wl_fieldE wN rfl rfl rfl fieldAt_26_0 rfl (Rd.of_own hI1.row) (by omega) ?_
  refine wl_storeF LT_54.len (markY mkE_PCand wt_PCand (y.take i) k ++ y.drop i) i 0 (z_PCand, []) ({ A := { Host := (k + totL wt_PCand ((y.take i).map Prod.fst)), Port := (((x.getD i z_PCand).A).Port) : PAddr }, Draw := ((x.getD i z_PCand).Draw), Until := ((x.getD i z_PCand).Until) : PCand }, [(a109, c110)]) (vi (k + totL wt_PCand ((y.take i).map Prod.fst))) [(vi (k + totL wt_PCand ((y.take i).map Prod.fst)))] wN rfl rfl rfl (by first | rfl | simp | omega) rfl rfl (one_all rfl) sizeOf_3 hI1.row (by simp only [List.length_append, markY_len, List.length_take, List.length_drop, List.length_set]; omega) (Nat.le_of_ble_eq_true rfl) (Nat.succ_pos 0) (by rw [x103]; rfl) ?_
  intro w2 k115 o116
  have x117 : ((markY mkE_PCand wt_PCand (y.take i) k ++ y.drop i).set i ({ A := { Host := (k + totL wt_PCand ((y.take i).map Prod.fst)), Port := (((x.getD i z_PCand).A).Port) : PAddr }, Draw := ((x.getD i z_PCand).Draw), Until := ((x.getD i z_PCand).Until) : PCand }, [(a109, c110)])).getD i (z_PCand, []) = ({ A := { Host := (k + totL wt_PCand ((y.take i).map Prod.fst)), Port := (((x.getD i z_PCand).A).Port) : PAddr }, Draw := ((x.getD i z_PCand).Draw), Until := ((x.getD i z_PCand).Until) : PCand }, [(a109, c110)]) := getD_set_self (by simp only [List.length_append, markY_len, List.length_take, List.length_drop, List.length_set]; omega)
  have w118 := W1.row w112 hI1.row LT_54.ne k115
  have t119 := Rst.row t105 hI1.row k115
  have h120 := ch_row (lo' := 0) (sz := 0) (m := 0) (xs := []) hI1.ch k115 hC
  refine nx ?_
  refine mv (vi (k + totL wt_PCand ((y.take i).map Prod.fst))) wN ?_
  refine ar ((k + totL wt_PCand ((y.take i).map Prod.fst)) + 1) wN ?_
  refine ag (vi ((k + totL wt_PCand ((y.take i).map Prod.fst)) + 1)) wN ?_
  refine nx ?_
  refine mv (vs a x.length c) wN ?_
  refine mv (vi ((i : Nat) : Int)) wN ?_
  refine mv (vi ((k + totL wt_PCand ((y.take i).map Prod.fst)) + 1)) wN ?_
  refine wl_index wN ((i : Nat) : Int) rfl rfl rfl slTy_57 rfl rfl (Rd.of_own o116) (by first | omega | (simp only [List.length_cons, List.length_nil, List.length_replicate, List.length_append, List.length_take, List.length_set, List.length_map]; omega)) (by first | omega | (simp only [List.length_cons, List.length_nil, List.length_replicate, List.length_append, List.length_take, List.length_set, List.length_map]; omega)) ?_
  refine wl_fieldE wN rfl rfl rfl fieldAt_54_0 rfl (Rd.of_own o116) (by omega) ?_
  refine wl_fieldE wN rfl rfl rfl fieldAt_26_1 rfl (Rd.of_own o116) (by omega) ?_
  refine wl_storeF LT_54.len ((markY mkE_PCand wt_PCand (y.take i) k ++ y.drop i).set i ({ A := { Host := (k + totL wt_PCand ((y.take i).map Prod.fst)), Port := (((x.getD i z_PCand).A).Port) : PAddr }, Draw := ((x.getD i z_PCand).Draw), Until := ((x.getD i z_PCand).Until) : PCand }, [(a109, c110)])) i 1 (z_PCand, []) ({ A := { Host := (k + totL wt_PCand ((y.take i).map Prod.fst)), Port := ((k + totL wt_PCand ((y.take i).map Prod.fst)) + 1) : PAddr }, Draw := ((x.getD i z_PCand).Draw), Until := ((x.getD i z_PCand).Until) : PCand }, [(a109, c110)]) (vi ((k + totL wt_PCand ((y.take i).map Prod.fst)) + 1)) [(vi ((k + totL wt_PCand ((y.take i).map Prod.fst)) + 1))] wN rfl rfl rfl (by first | rfl | simp | omega) rfl rfl (one_all rfl) sizeOf_3 o116 (by simp only [List.length_append, markY_len, List.length_take, List.length_drop, List.length_set]; omega) (Nat.le_of_ble_eq_true rfl) (Nat.succ_pos 0) (by rw [x117]; rfl) ?_
  intro w3 k121 o122
  rw [List.set_set] at o122
  have x123 : ((markY mkE_PCand wt_PCand (y.take i) k ++ y.drop i).set i ({ A := { Host := (k + totL wt_PCand ((y.take i).map Prod.fst)), Port := ((k + totL wt_PCand ((y.take i).map Prod.fst)) + 1) : PAddr }, Draw := ((x.getD i z_PCand).Draw), Until := ((x.getD i z_PCand).Until) : PCand }, [(a109, c110)])).getD i (z_PCand, []) = ({ A := { Host := (k + totL wt_PCand ((y.take i).map Prod.fst)), Port := ((k + totL wt_PCand ((y.take i).map Prod.fst)) + 1) : PAddr }, Draw := ((x.getD i z_PCand).Draw), Until := ((x.getD i z_PCand).Until) : PCand }, [(a109, c110)]) := getD_set_self (by simp only [List.length_append, markY_len, List.length_take, List.length_drop, List.length_set]; omega)
  have w124 := W1.row w118 o116 LT_54.ne k121
  have t125 := Rst.row t119 o116 k121
  have h126 := ch_row (lo' := 0) (sz := 0) (m := 0) (xs := []) h120 k121 hC
  refine nx ?_
  refine mv (vi ((k + totL wt_PCand ((y.take i).map Prod.fst)) + 1)) wN ?_
  refine ar (((k + totL wt_PCand ((y.take i).map Prod.fst)) + 1) + 1) wN ?_
  refine ag (vi (((k + totL wt_PCand ((y.take i).map Prod.fst)) + 1) + 1)) wN ?_
  refine nx ?_
  refine mv (vs a x.length c) wN ?_
  refine mv (vi ((i : Nat) : Int)) wN ?_
  refine wl_index wN ((i : Nat) : Int) rfl rfl rfl slTy_57 rfl rfl (Rd.of_own o122) (by first | omega | (simp only [List.length_cons, List.length_nil, List.length_replicate, List.length_append, List.length_take, List.length_set, List.length_map]; omega)) (by first | omega | (simp only [List.length_cons, List.length_nil, List.length_replicate, List.length_append, List.length_take, List.length_set, List.length_map]; omega)) ?_
  refine wl_fieldE wN rfl rfl rfl fieldAt_54_1 rfl (Rd.of_own o122) (by omega) ?_
  refine wl_loadE (vs a109 (x.getD i z_PCand).Draw.length c110) wN rfl rfl rfl rfl isAgg_22 (Rd.of_own o122) ((rows_get (k := i) (i := 2) LT_54.len (z_PCand, []) (by first | rfl | simp | omega) (Nat.le_of_ble_eq_true rfl) (by simp only [List.length_append, markY_len, List.length_take, List.length_drop, List.length_set]; omega)).trans (by rw [x123]; rfl)) ?_
  refine mv (vi (((k + totL wt_PCand ((y.take i).map Prod.fst)) + 1) + 1)) wN ?_
  refine cl wN (C_laws_markByteS_w w3 a109 c110 (x.getD i z_PCand).Draw (((k + totL wt_PCand ((y.take i).map Prod.fst)) + 1) + 1) (by omega) (by omega) w124) ?_
  rintro _ w4 ⟨rfl, k127, w128⟩
  have o129 := row_ms o122 w124 LT_54.ne k127
  have t130 := Rst.ms t125 (q107 (a109, c110) (by simp)) (rd_cap w124.2.1) k127
  have h131 := ch_ms (q := (a109, c110)) h126 k127 (d108 (a109, c110) (by simp))
  refine ag (vi ((((k + totL wt_PCand ((y.take i).map Prod.fst)) + 1) + 1) + ((x.getD i z_PCand).Draw.length : Int))) wN ?_
  refine nx ?_
  refine mv (vs a x.length c) wN ?_
  refine mv (vi ((i : Nat) : Int)) wN ?_
  refine mv (vi ((((k + totL wt_PCand ((y.take i).map Prod.fst)) + 1) + 1) + ((x.getD i z_PCand).Draw.length : Int))) wN ?_
  refine wl_index wN ((i : Nat) : Int) rfl rfl rfl slTy_57 rfl rfl (Rd.of_own o129) (by first | omega | (simp only [List.length_cons, List.length_nil, List.length_replicate, List.length_append, List.length_take, List.length_set, List.length_map]; omega)) (by first | omega | (simp only [List.length_cons, List.length_nil, List.length_replicate, List.length_append, List.length_take, List.length_set, List.length_map]; omega)) ?_
  refine wl_fieldE wN rfl rfl rfl fieldAt_54_2 rfl (Rd.of_own o129) (by omega) ?_
  refine wl_storeF LT_54.len ((markY mkE_PCand wt_PCand (y.take i) k ++ y.drop i).set i ({ A := { Host := (k + totL wt_PCand ((y.take i).map Prod.fst)), Port := ((k + totL wt_PCand ((y.take i).map Prod.fst)) + 1) : PAddr }, Draw := ((x.getD i z_PCand).Draw), Until := ((x.getD i z_PCand).Until) : PCand }, [(a109, c110)])) i 3 (z_PCand, []) ({ A := { Host := (k + totL wt_PCand ((y.take i).map Prod.fst)), Port := ((k + totL wt_PCand ((y.take i).map Prod.fst)) + 1) : PAddr }, Draw := ((x.getD i z_PCand).Draw), Until := ((((k + totL wt_PCand ((y.take i).map Prod.fst)) + 1) + 1) + ((x.getD i z_PCand).Draw.length : Int)) : PCand }, [(a109, c110)]) (vi ((((k + totL wt_PCand ((y.take i).map Prod.fst)) + 1) + 1) + ((x.getD i z_PCand).Draw.length : Int))) [(vi ((((k + totL wt_PCand ((y.take i).map Prod.fst)) + 1) + 1) + ((x.getD i z_PCand).Draw.length : Int)))] wN rfl rfl rfl (by first | rfl | simp | omega) rfl rfl (one_all rfl) sizeOf_3 o129 (by simp only [List.length_append, markY_len, List.length_take, List.length_drop, List.length_set]; omega) (Nat.le_of_ble_eq_true rfl) (Nat.succ_pos 0) (by rw [x123]; rfl) ?_
  intro w5 k132 o133
  rw [List.set_set] at o133
  have x134 : ((markY mkE_PCand wt_PCand (y.take i) k ++ y.drop i).set i ({ A := { Host := (k + totL wt_PCand ((y.take i).map Prod.fst)), Port := ((k + totL wt_PCand ((y.take i).map Prod.fst)) + 1) : PAddr }, Draw := ((x.getD i z_PCand).Draw), Until := ((((k + totL wt_PCand ((y.take i).map Prod.fst)) + 1) + 1) + ((x.getD i z_PCand).Draw.length : Int)) : PCand }, [(a109, c110)])).getD i (z_PCand, []) = ({ A := { Host := (k + totL wt_PCand ((y.take i).map Prod.fst)), Port := ((k + totL wt_PCand ((y.take i).map Prod.fst)) + 1) : PAddr }, Draw := ((x.getD i z_PCand).Draw), Until := ((((k + totL wt_PCand ((y.take i).map Prod.fst)) + 1) + 1) + ((x.getD i z_PCand).Draw.length : Int)) : PCand }, [(a109, c110)]) := getD_set_self (by simp only [List.length_append, markY_len, List.length_take, List.length_drop, List.length_set]; omega)
  have w135 := W1.row w128 o129 LT_54.ne k132
  have t136 := Rst.row t130 o129 k132
  have h137 := ch_row (lo' := 0) (sz := 0) (m := 0) (xs := []) h131 k132 hC
  refine wl_nil <| wq_then <| wc_region ?_
  refine mv (vi ((((k + totL wt_PCand ((y.take i).map Prod.fst)) + 1) + 1) + ((x.getD i z_PCand).Draw.length : Int))) wN ?_
  refine ar (((((k + totL wt_PCand ((y.take i).map Prod.fst)) + 1) + 1) + ((x.getD i z_PCand).Draw.length : Int)) + 1) wN ?_
  refine ag (vi (((((k + totL wt_PCand ((y.take i).map Prod.fst)) + 1) + 1) + ((x.getD i z_PCand).Draw.length : Int)) + 1)) wN ?_
  refine wl_nil <| wq_blk_normal <| wq_then <| wc_region ?_
  refine mv (vi ((i : Nat) : Int)) wN ?_
  refine ar (((i : Nat) : Int) + 1) wN ?_
  refine ag (vi (((i : Nat) : Int) + 1)) wN ?_
  refine wl_nil ?_
  have hq : totL wt_PCand ((y.take (i + 1)).map Prod.fst) = totL wt_PCand ((y.take i).map Prod.fst) + wt_PCand (x.getD i z_PCand) := by rw [List.map_take, List.map_take, hy]; exact totL_take (by omega)
  simp only [wt_PCand] at hq
  have hN := MkI.next z_PCand hC (by omega) x103 o133 (by simp only [LT_54, mkE_PCand, marksB_len]) ⟨w135, trivial⟩ t136 h137
  exact wq_loopN (w0 := w1) [(vs a x.length c), (vi (k + totL wt_PCand ((y.take (i + 1)).map Prod.fst))), U, U, (vi 0), (vi ((i + 1 : Nat) : Int)), (vi ((i : Nat) : Int)), (vs a x.length c), (vi (x.length : Int)), (vb (decide (((i : Nat) : Int) < (x.length : Int)))), (vi ((i : Nat) : Int)), (vi (((i : Nat) : Int) + 1)), (vs a x.length c), (vi ((i : Nat) : Int)), (vi (k + totL wt_PCand ((y.take i).map Prod.fst))), (ve (vs a x.length c) ((((i : Nat) : Int)).toNat * 4)), (ve (vs a x.length c) ((((i : Nat) : Int)).toNat * 4 + 0)), (ve (vs a x.length c) ((((i : Nat) : Int)).toNat * 4 + 0 + 0)), (vi (k + totL wt_PCand ((y.take i).map Prod.fst))), (vi ((k + totL wt_PCand ((y.take i).map Prod.fst)) + 1)), (vs a x.length c), (vi ((i : Nat) : Int)), (vi ((k + totL wt_PCand ((y.take i).map Prod.fst)) + 1)), (ve (vs a x.length c) ((((i : Nat) : Int)).toNat * 4)), (ve (vs a x.length c) ((((i : Nat) : Int)).toNat * 4 + 0)), (ve (vs a x.length c) ((((i : Nat) : Int)).toNat * 4 + 0 + 1)), (vi ((k + totL wt_PCand ((y.take i).map Prod.fst)) + 1)), (vi (((k + totL wt_PCand ((y.take i).map Prod.fst)) + 1) + 1)), (vs a x.length c), (vi ((i : Nat) : Int)), (ve (vs a x.length c) ((((i : Nat) : Int)).toNat * 4)), (ve (vs a x.length c) ((((i : Nat) : Int)).toNat * 4 + 2)), (vs a109 (x.getD i z_PCand).Draw.length c110), (vi (((k + totL wt_PCand ((y.take i).map Prod.fst)) + 1) + 1)), (vi ((((k + totL wt_PCand ((y.take i).map Prod.fst)) + 1) + 1) + ((x.getD i z_PCand).Draw.length : Int))), (vs a x.length c), (vi ((i : Nat) : Int)), (vi ((((k + totL wt_PCand ((y.take i).map Prod.fst)) + 1) + 1) + ((x.getD i z_PCand).Draw.length : Int))), (ve (vs a x.length c) ((((i : Nat) : Int)).toNat * 4)), (ve (vs a x.length c) ((((i : Nat) : Int)).toNat * 4 + 3)), (vi ((((k + totL wt_PCand ((y.take i).map Prod.fst)) + 1) + 1) + ((x.getD i z_PCand).Draw.length : Int))), (vi (((((k + totL wt_PCand ((y.take i).map Prod.fst)) + 1) + 1) + ((x.getD i z_PCand).Draw.length : Int)) + 1)), U] rfl ⟨rfl, (congrArg (Value.int .i64) (show ((((((k + totL wt_PCand ((y.take i).map Prod.fst)) + 1) + 1) + ((x.getD i z_PCand).Draw.length : Int)) + 1) : Int) = (k + totL wt_PCand ((y.take (i + 1)).map Prod.fst)) by omega)), rfl, rfl, rfl, (congrArg (Value.int .i64) (show ((((i : Nat) : Int) + 1) : Int) = ((i + 1 : Nat) : Int) by omega)), rfl, rfl, rfl, rfl, rfl, rfl, rfl, rfl, rfl, rfl, rfl, rfl, rfl, rfl, rfl, rfl, rfl, rfl, rfl, rfl, rfl, rfl, rfl, rfl, rfl, rfl, rfl, rfl, rfl, rfl, rfl, rfl, rfl, rfl, rfl, rfl, rfl, trivial⟩ ⟨i + 1, unL [(vi ((i : Nat) : Int)), (vs a x.length c), (vi (x.length : Int)), (vb (decide (((i : Nat) : Int) < (x.length : Int)))), (vi ((i : Nat) : Int)), (vi (((i : Nat) : Int) + 1)), (vs a x.length c), (vi ((i : Nat) : Int)), (vi (k + totL wt_PCand ((y.take i).map Prod.fst))), (ve (vs a x.length c) ((((i : Nat) : Int)).toNat * 4)), (ve (vs a x.length c) ((((i : Nat) : Int)).toNat * 4 + 0)), (ve (vs a x.length c) ((((i : Nat) : Int)).toNat * 4 + 0 + 0)), (vi (k + totL wt_PCand ((y.take i).map Prod.fst))), (vi ((k + totL wt_PCand ((y.take i).map Prod.fst)) + 1)), (vs a x.length c), (vi ((i : Nat) : Int)), (vi ((k + totL wt_PCand ((y.take i).map Prod.fst)) + 1)), (ve (vs a x.length c) ((((i : Nat) : Int)).toNat * 4)), (ve (vs a x.length c) ((((i : Nat) : Int)).toNat * 4 + 0)), (ve (vs a x.length c) ((((i : Nat) : Int)).toNat * 4 + 0 + 1)), (vi ((k + totL wt_PCand ((y.take i).map Prod.fst)) + 1)), (vi (((k + totL wt_PCand ((y.take i).map Prod.fst)) + 1) + 1)), (vs a x.length c), (vi ((i : Nat) : Int)), (ve (vs a x.length c) ((((i : Nat) : Int)).toNat * 4)), (ve (vs a x.length c) ((((i : Nat) : Int)).toNat * 4 + 2)), (vs a109 (x.getD i z_PCand).Draw.length c110), (vi (((k + totL wt_PCand ((y.take i).map Prod.fst)) + 1) + 1)), (vi ((((k + totL wt_PCand ((y.take i).map Prod.fst)) + 1) + 1) + ((x.getD i z_PCand).Draw.length : Int))), (vs a x.length c), (vi ((i : Nat) : Int)), (vi ((((k + totL wt_PCand ((y.take i).map Prod.fst)) + 1) + 1) + ((x.getD i z_PCand).Draw.length : Int))), (ve (vs a x.length c) ((((i : Nat) : Int)).toNat * 4)), (ve (vs a x.length c) ((((i : Nat) : Int)).toNat * 4 + 3)), (vi ((((k + totL wt_PCand ((y.take i).map Prod.fst)) + 1) + 1) + ((x.getD i z_PCand).Draw.length : Int))), (vi (((((k + totL wt_PCand ((y.take i).map Prod.fst)) + 1) + 1) + ((x.getD i z_PCand).Draw.length : Int)) + 1))], rfl, by omega, hN⟩ (by show x.length - (((i + 1 : Nat) : Int)).toNat < x.length - (((i : Nat) : Int)).toNat; omega)

theorem C_laws_markPaths (w0 : World) (a : Option Addr) (c : Nat) (x : PPaths) (lo hi : Nat) (k : Int) (h0 : 0 ≤ k) (h1 : k ≤ 4000000000000000000) (r : OLv LT_54 w0 lo hi a x.Cands.length c x.Cands) :
    Fn Try.prog 38 #[(va (L_59 x a c)), vi k] w0 (fun v w' => v = vi (k + totL wt_PCand x.Cands) ∧ Ch (RowS LT_54 w0 lo hi) w0 w' ∧ RLk LT_54 w' lo hi a x.Cands.length c (marksE mkE_PCand wt_PCand x.Cands k)) := by
 refine fn_of (n := 10) (l := [(va (L_59 x a c)), (vi k), U, U, U, U, U, U, U, U]) Try.func38 rfl rfl (by kernel_rfl) rfl ?_
 refine sr ?_
 refine bx (L_59 x a c) wN ?_
 intro g201 w1 p202 p203 k204 b205
 refine ag (vi 0) wN ?_
 refine nx ?_
 refine pu (vp g201 2) wN ?_
 refine ld (vs a x.Cands.length c) wN isAgg_57 b205 ?_
 refine mv (vi k) wN ?_
 have o206 := (OLv.kp r k204)
 refine cl wN (C_laws_markCandS w1 a c x.Cands _ _ k h0 h1 o206) ?_
 rintro _ w2 ⟨rfl, hm, hr⟩
 refine ag (vi (k + totL wt_PCand x.Cands)) wN ?_
 refine nx ?_
 refine mv (vi (k + totL wt_PCand x.Cands)) wN ?_
 refine ag (vi (k + totL wt_PCand x.Cands)) wN ?_
 refine wl_nil <| wq_then <| wc_ret ?_
 exact ret_1 (.inl rfl) (vi (k + totL wt_PCand x.Cands)) rfl rfl ⟨rfl, (((Ch.refl (RowS LT_54 w0 lo hi) w0).comp k204 (fun g hg h => h.elim)).comp hm (fun g hg h => ⟨h.1, h.2.1, rowat_back (Keep.trans (Ch.refl (fun _ => False) w0) k204) hg h.2.2⟩)), hr⟩

theorem C_laws_heldByteS (w0 : World) (v_x_a : Value) (x_a : List UInt8) (r_x_a : R_22 w0 v_x_a x_a) (x_k : Int) (pre0 : 0 ≤ x_k) (pre1 : x_k ≤ 9000000000000000000) : Fn Try.prog 105 #[v_x_a, (vi x_k)] w0 (fun v w' => Keep w0 w' ∧ O_3 w' w0.heap.size v (heldB x_a x_k)) := by
 obtain ⟨a1, c2, rfl, r3, s4⟩ := r_x_a
 refine fn_of (n := 22) (l := [(vs a1 x_a.length c2), (vi x_k), U, U, U, U, U, U, U, U, U, U, U, U, U, U, U, U, U, U, U, U]) Try.func105 rfl rfl (by kernel_rfl) rfl ?_
 refine sr ?_
 refine ag (vi 0) wN ?_
 refine wl_nil <| wq_then <| wc_seq <| sr ?_
 refine ag (vi 0) wN ?_
 refine wl_nil <| wq_then <| wc_block ?_
 refine wc_normQ (fun e => [e 0, (vi (x_k + ((0 : Nat) : Int))), e 2, e 3, e 4, (vi ((0 : Nat) : Int)), e 6, e 7, e 8, e 9, e 10, e 11, e 12, e 13, e 14, e 15, e 16, e 17, e 18, e 19, e 20, e 21]) rfl ⟨rfl, (congrArg (Value.int .i64) (show (x_k : Int) = (x_k + ((0 : Nat) : Int)) by omega)), rfl, rfl, rfl, (congrArg (Value.int .i64) (show (0 : Int) = ((0 : Nat) : Int) by omega)), rfl, rfl, rfl, rfl, rfl, rfl, rfl, rfl, rfl, rfl, rfl, rfl, rfl, rfl, rfl, rfl, trivial⟩ ?_
 refine wc_loop (fun e' w' => ∃ (i : Nat) (u6 : Nat → Value), e' = lst [(vs a1 x_a.length c2), (vi (x_k + ((i : Nat) : Int))), (u6 0), (u6 1), (u6 2), (vi ((i : Nat) : Int)), (u6 3), (u6 4), (u6 5), (u6 6), (u6 7), (u6 8), (u6 9), (u6 10), (u6 11), (u6 12), (u6 13), (u6 14), (u6 15), (u6 16), (u6 17), U] ∧ Ch (fun k => w0.heap.size ≤ k) w0 w' ∧ Ch (fun k => w0.heap.size ≤ k) w0 w' ∧ i ≤ x_a.length ∧ heldB x_a x_k = heldB (x_a.drop i) (x_k + ((i : Nat) : Int))) (fun e' _ => x_a.length - ((intOf (e' 5))).toNat) ?_ ?_
 ·exact ⟨0, (unL [U, U, _, U, U, U, U, U, U, U, U, U, U, U, U, U, U, U]), rfl, (Ch.base w0), (Ch.refl (fun k => w0.heap.size ≤ k) w0), (by omega), (by first | exact heldB_next (by assumption) (by omega) (by assumption) | simp)⟩
 ·rintro _ w1 ⟨i, u6, rfl, m7, k8, i9, i10⟩
  refine wc_seq <| sr ?_
  refine mv (vi ((i : Nat) : Int)) wN ?_
  refine mv (vs a1 x_a.length c2) wN ?_
  refine ln wN slTy_22 (r3.from0 m7) ?_
  refine pu (vb (decide (((i : Nat) : Int) < (x_a.length : Int)))) wN ?_
  refine wl_nil <| wq_then ?_
  rcases bf (decide (((i : Nat) : Int) < (x_a.length : Int))) with h11 | h11
  ·have q17 := of_decide_eq_false h11
   refine cf h11 ?_
   refine wc_exit <| wq_then_exit <| wq_then_exit <| wq_blk_exit <| wq_then <| sr ?_
   refine mv (vi (x_k + ((i : Nat) : Int))) wN ?_
   refine ag (vi (x_k + ((i : Nat) : Int))) wN ?_
   refine wl_nil <| wq_then <| wc_ret ?_
   refine ret_1 (.inl rfl) (vi (x_k + ((i : Nat) : Int))) rfl rfl ?_
   refine ⟨m7.keep0, ?_⟩
   have hF18 : heldB x_a x_k = (x_k + ((i : Nat) : Int)) := by first | exact heldB_ne (by assumption) (by omega) (by assumption) | exact heldB_end (by assumption) (by omega)
   rw [hF18]
   exact rfl
  have q12 := of_decide_eq_true h11
  refine ct h11 ?_
  refine wc_skip <| wq_then <| wc_seq <| wc_block <| wc_seq <| sr ?_
  refine mv (vs a1 x_a.length c2) wN ?_
  refine mv (vi ((i : Nat) : Int)) wN ?_
  refine wl_index wN ((i : Nat) : Int) rfl rfl rfl slTy_22 rfl rfl (r3.from0 m7) (by first | omega | (simp only [List.length_cons, List.length_nil, List.length_replicate, List.length_append, List.length_take, List.length_set, List.length_map]; omega)) (by first | omega | (simp only [List.length_cons, List.length_nil, List.length_replicate, List.length_append, List.length_take, List.length_set, List.length_map]; omega)) ?_
  refine wl_loadE (bV (x_a.getD i 0)) wN rfl rfl rfl rfl isAgg_5 (r3.from0 m7) (bget (by simp) (by first | omega | (simp only [List.length_cons, List.length_nil, List.length_replicate, List.length_append, List.length_take, List.length_set, List.length_map]; omega))) ?_
  refine mv (vi (x_k + ((i : Nat) : Int))) wN ?_
  refine wl_conv8 (x_k + ((i : Nat) : Int)) wN rfl rfl (by kernel_rfl) ?_
  refine pu (vb (!(decide (((x_a.getD i 0).toNat : Int) = ((by8 (x_k + ((i : Nat) : Int))).toNat : Int))))) wN ?_
  refine wl_nil <| wq_then ?_
  rcases bf (decide (((x_a.getD i 0).toNat : Int) = ((by8 (x_k + ((i : Nat) : Int))).toNat : Int))) with h13 | h13
  ·have q15 := of_decide_eq_false h13
   refine ct (congrArg not h13) ?_
   refine sr ?_
   refine ag (vi (-1)) wN ?_
   refine wl_nil <| wq_then <| wc_ret <| wq_then_ret <| wq_blk_ret <| wq_then_ret <| wq_then_ret <| wq_blk_ret <| wq_then_ret ?_
   refine ret_1 (.inl rfl) (vi (-1)) rfl rfl ?_
   refine ⟨m7.keep0, ?_⟩
   have hF16 : heldB x_a x_k = (-1) := by first | exact heldB_ne (by assumption) (by omega) (by assumption) | exact heldB_end (by assumption) (by omega)
   rw [hF16]
   exact rfl
  have q14 := of_decide_eq_true h13
  refine cf (congrArg not h13) ?_
  refine wc_skip <| wq_then <| wc_region ?_
  refine mv (vi (x_k + ((i : Nat) : Int))) wN ?_
  refine ar ((x_k + ((i : Nat) : Int)) + 1) wN ?_
  refine ag (vi ((x_k + ((i : Nat) : Int)) + 1)) wN ?_
  refine wl_nil <| wq_blk_normal <| wq_then <| wc_region ?_
  refine mv (vi ((i : Nat) : Int)) wN ?_
  refine ar (((i : Nat) : Int) + 1) wN ?_
  refine ag (vi (((i : Nat) : Int) + 1)) wN ?_
  refine wl_nil ?_
  refine wq_loopQ (w0 := w1) (fun e => [e 0, (vi (x_k + (((i + 1) : Nat) : Int))), e 2, e 3, e 4, (vi (((i + 1) : Nat) : Int)), e 6, e 7, e 8, e 9, e 10, e 11, e 12, e 13, e 14, e 15, e 16, e 17, e 18, e 19, e 20, e 21]) rfl ?_ ?_ ?_
  · exact ⟨rfl, (congrArg (Value.int .i64) (show (((x_k + ((i : Nat) : Int)) + 1) : Int) = (x_k + (((i + 1) : Nat) : Int)) by omega)), rfl, rfl, rfl, (congrArg (Value.int .i64) (show ((((i : Nat) : Int) + 1) : Int) = (((i + 1) : Nat) : Int) by omega)), rfl, rfl, rfl, rfl, rfl, rfl, rfl, rfl, rfl, rfl, rfl, rfl, rfl, rfl, rfl, rfl, trivial⟩
  · exact ⟨(i + 1), (unL [_, _, _, _, _, _, _, _, _, _, _, _, _, _, _, _, _, _]), rfl, m7, ((Ch.refl (fun k => w0.heap.size ≤ k) w0).ext k8 (fun k hk => Nat.le_trans (Nat.le_refl w0.heap.size) hk)), (by omega), (by first | exact heldB_next (by assumption) (by omega) (by assumption) | simp)⟩
  · show x_a.length - ((((i + 1) : Nat) : Int)).toNat < x_a.length - (((i : Nat) : Int)).toNat; omega

def hC_PCand (a : PCand) (k : Int) : Int := bif decide (a.A.Host = k) then (bif decide (a.A.Port = (k + 1)) then (bif decide ((heldB a.Draw ((k + 1) + 1)) < 0) then (-1) else (bif decide (a.Until = (heldB a.Draw ((k + 1) + 1))) then (((heldB a.Draw ((k + 1) + 1)) + 1)) else (-1))) else (-1)) else (-1)
theorem C_laws_heldCandS (w0 : World) (v_x_a : Value) (x_a : List PCand) (r_x_a : R_57 w0 v_x_a x_a) (x_k : Int) (pre0 : 0 ≤ x_k) (pre1 : x_k ≤ 4000000000000000000) : Fn Try.prog 112 #[v_x_a, (vi x_k)] w0 (fun v w' => Keep w0 w' ∧ O_3 w' w0.heap.size v (heldL hC_PCand x_a x_k)) := by
 obtain ⟨a1, c2, rfl, r3, s4⟩ := r_x_a
 refine fn_of (n := 51) (l := [(vs a1 x_a.length c2), (vi x_k), U, U, U, U, U, U, U, U, U, U, U, U, U, U, U, U, U, U, U, U, U, U, U, U, U, U, U, U, U, U, U, U, U, U, U, U, U, U, U, U, U, U, U, U, U, U, U, U, U]) Try.func112 rfl rfl (by kernel_rfl) rfl ?_
 refine sr ?_
 refine ag (vi 0) wN ?_
 refine wl_nil <| wq_then <| wc_seq <| sr ?_
 refine ag (vi 0) wN ?_
 refine wl_nil <| wq_then <| wc_block ?_
 refine wc_normQ (fun e => [e 0, (vi x_k), e 2, e 3, e 4, (vi ((0 : Nat) : Int)), e 6, e 7, e 8, e 9, e 10, e 11, e 12, e 13, e 14, e 15, e 16, e 17, e 18, e 19, e 20, e 21, e 22, e 23, e 24, e 25, e 26, e 27, e 28, e 29, e 30, e 31, e 32, e 33, e 34, e 35, e 36, e 37, e 38, e 39, e 40, e 41, e 42, e 43, e 44, e 45, e 46, e 47, e 48, e 49, e 50]) rfl ⟨rfl, rfl, rfl, rfl, rfl, (congrArg (Value.int .i64) (show (0 : Int) = ((0 : Nat) : Int) by omega)), rfl, rfl, rfl, rfl, rfl, rfl, rfl, rfl, rfl, rfl, rfl, rfl, rfl, rfl, rfl, rfl, rfl, rfl, rfl, rfl, rfl, rfl, rfl, rfl, rfl, rfl, rfl, rfl, rfl, rfl, rfl, rfl, rfl, rfl, rfl, rfl, rfl, rfl, rfl, rfl, rfl, rfl, rfl, rfl, rfl, trivial⟩ ?_
 refine wc_loop (fun e' w' => ∃ (i : Nat) (q : Int) (u6 : Nat → Value), e' = lst [(vs a1 x_a.length c2), (vi q), (u6 0), (u6 1), (u6 2), (vi ((i : Nat) : Int)), (u6 3), (u6 4), (u6 5), (u6 6), (u6 7), (u6 8), (u6 9), (u6 10), (u6 11), (u6 12), (u6 13), (u6 14), (u6 15), (u6 16), (u6 17), (u6 18), (u6 19), (u6 20), (u6 21), (u6 22), (u6 23), (u6 24), (u6 25), (u6 26), (u6 27), (u6 28), (u6 29), (u6 30), (u6 31), (u6 32), (u6 33), (u6 34), (u6 35), (u6 36), (u6 37), (u6 38), (u6 39), (u6 40), (u6 41), (u6 42), (u6 43), (u6 44), (u6 45), (u6 46), U] ∧ Ch (fun k => w0.heap.size ≤ k) w0 w' ∧ Ch (fun k => w0.heap.size ≤ k) w0 w' ∧ i ≤ x_a.length ∧ heldL hC_PCand x_a x_k = heldL hC_PCand (x_a.drop i) q ∧ x_k ≤ q ∧ q ≤ x_k + 1073741827 * ((i : Nat) : Int)) (fun e' _ => x_a.length - ((intOf (e' 5))).toNat) ?_ ?_
 ·exact ⟨0, x_k, (unL [U, U, _, U, U, U, U, U, U, U, U, U, U, U, U, U, U, U, U, U, U, U, U, U, U, U, U, U, U, U, U, U, U, U, U, U, U, U, U, U, U, U, U, U, U, U, U]), rfl, (Ch.base w0), (Ch.refl (fun k => w0.heap.size ≤ k) w0), (by omega), (by first | (simp; done) | exact heldL_next (z := z_PCand) (by assumption) (by omega) (by simp only [hC_PCand, ]; simp) (by omega)), (by omega), (by omega)⟩
 ·rintro _ w1 ⟨i, q, u6, rfl, m7, k8, i9, i10, i11, i12⟩
  refine wc_seq <| sr ?_
  refine mv (vi ((i : Nat) : Int)) wN ?_
  refine mv (vs a1 x_a.length c2) wN ?_
  obtain ⟨y13, r14⟩ := RLv.row (r3.from0 m7)
  refine ln wN slTy_57 r14 ?_
  refine pu (vb (decide (((i : Nat) : Int) < (x_a.length : Int)))) wN ?_
  refine wl_nil <| wq_then ?_
  rcases bf (decide (((i : Nat) : Int) < (x_a.length : Int))) with h15 | h15
  ·have q56 := of_decide_eq_false h15
   refine cf h15 ?_
   refine wc_exit <| wq_then_exit <| wq_then_exit <| wq_blk_exit <| wq_then <| sr ?_
   refine mv (vi q) wN ?_
   refine ag (vi q) wN ?_
   refine wl_nil <| wq_then <| wc_ret ?_
   refine ret_1 (.inl rfl) (vi q) rfl rfl ?_
   refine ⟨m7.keep0, ?_⟩
   have hF57 : heldL hC_PCand x_a x_k = q := by first | exact heldL_ne (z := z_PCand) (by assumption) (by omega) (by simp only [hC_PCand, h15]; simp) | exact heldL_end (by assumption) (by omega)
   rw [hF57]
   exact rfl
  have q16 := of_decide_eq_true h15
  refine ct h15 ?_
  refine wc_skip <| wq_then <| wc_seq <| wc_block <| wc_seq <| sr ?_
  refine mv (vs a1 x_a.length c2) wN ?_
  refine mv (vi ((i : Nat) : Int)) wN ?_
  obtain ⟨y17, r18⟩ := RLv.row (r3.from0 m7)
  refine wl_index wN ((i : Nat) : Int) rfl rfl rfl slTy_57 rfl rfl r18 (by first | omega | (simp only [List.length_cons, List.length_nil, List.length_replicate, List.length_append, List.length_take, List.length_set, List.length_map]; omega)) (by first | omega | (simp only [List.length_cons, List.length_nil, List.length_replicate, List.length_append, List.length_take, List.length_set, List.length_map]; omega)) ?_
  obtain ⟨y19, l20, r21, e22, u23⟩ := RLv.el z_PCand (i := i) r3 (by first | omega | (simp only [List.length_cons, List.length_nil, List.length_replicate, List.length_append, List.length_take, List.length_set, List.length_map]; omega))
  obtain ⟨a24, c25, l29, rfl, r26, s27, u30⟩ := SubR.c u23
  obtain rfl := SubR.n u30
  refine wl_fieldE wN rfl rfl rfl fieldAt_54_0 rfl (r21.from0 m7) (by omega) ?_
  refine wl_fieldE wN rfl rfl rfl fieldAt_26_0 rfl (r21.from0 m7) (by omega) ?_
  refine wl_loadE (vi (((x_a.getD i z_PCand).A).Host)) wN rfl rfl rfl rfl isAgg_3 (r21.from0 m7) ((get_of (off := 0) e22 (by first | rfl | simp | omega) (by decide)).trans rfl) ?_
  refine mv (vi q) wN ?_
  refine pu (vb (!(decide (((x_a.getD i z_PCand).A).Host = q)))) wN ?_
  refine wl_nil <| wq_then ?_
  rcases bf (decide (((x_a.getD i z_PCand).A).Host = q)) with h31 | h31
  ·have q54 := of_decide_eq_false h31
   refine ct (congrArg not h31) ?_
   refine sr ?_
   refine ag (vi (-1)) wN ?_
   refine wl_nil <| wq_then <| wc_ret <| wq_then_ret <| wq_blk_ret <| wq_then_ret <| wq_then_ret <| wq_blk_ret <| wq_then_ret ?_
   refine ret_1 (.inl rfl) (vi (-1)) rfl rfl ?_
   refine ⟨m7.keep0, ?_⟩
   have hF55 : heldL hC_PCand x_a x_k = (-1) := by first | exact heldL_ne (z := z_PCand) (by assumption) (by omega) (by simp only [hC_PCand, h15, h31]; simp) | exact heldL_end (by assumption) (by omega)
   rw [hF55]
   exact rfl
  have q32 := of_decide_eq_true h31
  refine cf (congrArg not h31) ?_
  refine wc_skip <| wq_then <| sr ?_
  refine mv (vi q) wN ?_
  refine ar (q + 1) wN ?_
  refine ag (vi (q + 1)) wN ?_
  refine wl_nil <| wq_then <| wc_seq <| sr ?_
  refine mv (vs a1 x_a.length c2) wN ?_
  refine mv (vi ((i : Nat) : Int)) wN ?_
  obtain ⟨y33, r34⟩ := RLv.row (r3.from0 m7)
  refine wl_index wN ((i : Nat) : Int) rfl rfl rfl slTy_57 rfl rfl r34 (by first | omega | (simp only [List.length_cons, List.length_nil, List.length_replicate, List.length_append, List.length_take, List.length_set, List.length_map]; omega)) (by first | omega | (simp only [List.length_cons, List.length_nil, List.length_replicate, List.length_append, List.length_take, List.length_set, List.length_map]; omega)) ?_
  refine wl_fieldE wN rfl rfl rfl fieldAt_54_0 rfl (r21.from0 m7) (by omega) ?_
  refine wl_fieldE wN rfl rfl rfl fieldAt_26_1 rfl (r21.from0 m7) (by omega) ?_
  refine wl_loadE (vi (((x_a.getD i z_PCand).A).Port)) wN rfl rfl rfl rfl isAgg_3 (r21.from0 m7) ((get_of (off := 1) e22 (by first | rfl | simp | omega) (by decide)).trans rfl) ?_
  refine mv (vi (q + 1)) wN ?_
  refine pu (vb (!(decide (((x_a.getD i z_PCand).A).Port = (q + 1))))) wN ?_
  refine wl_nil <| wq_then ?_
  rcases bf (decide (((x_a.getD i z_PCand).A).Port = (q + 1))) with h35 | h35
  ·have q52 := of_decide_eq_false h35
   refine ct (congrArg not h35) ?_
   refine sr ?_
   refine ag (vi (-1)) wN ?_
   refine wl_nil <| wq_then <| wc_ret <| wq_then_ret <| wq_blk_ret <| wq_then_ret <| wq_then_ret <| wq_blk_ret <| wq_then_ret ?_
   refine ret_1 (.inl rfl) (vi (-1)) rfl rfl ?_
   refine ⟨m7.keep0, ?_⟩
   have hF53 : heldL hC_PCand x_a x_k = (-1) := by first | exact heldL_ne (z := z_PCand) (by assumption) (by omega) (by simp only [hC_PCand, h15, h31, h35]; simp) | exact heldL_end (by assumption) (by omega)
   rw [hF53]
   exact rfl
  have q36 := of_decide_eq_true h35
  refine cf (congrArg not h35) ?_
  refine wc_skip <| wq_then <| sr ?_
  refine mv (vi (q + 1)) wN ?_
  refine ar ((q + 1) + 1) wN ?_
  refine ag (vi ((q + 1) + 1)) wN ?_
  refine nx ?_
  refine mv (vs a1 x_a.length c2) wN ?_
  refine mv (vi ((i : Nat) : Int)) wN ?_
  obtain ⟨y37, r38⟩ := RLv.row (r3.from0 m7)
  refine wl_index wN ((i : Nat) : Int) rfl rfl rfl slTy_57 rfl rfl r38 (by first | omega | (simp only [List.length_cons, List.length_nil, List.length_replicate, List.length_append, List.length_take, List.length_set, List.length_map]; omega)) (by first | omega | (simp only [List.length_cons, List.length_nil, List.length_replicate, List.length_append, List.length_take, List.length_set, List.length_map]; omega)) ?_
  refine wl_fieldE wN rfl rfl rfl fieldAt_54_1 rfl (r21.from0 m7) (by omega) ?_
  refine wl_loadE (vs a24 (x_a.getD i z_PCand).Draw.length c25) wN rfl rfl rfl rfl isAgg_22 (r21.from0 m7) ((get_of (off := 2) e22 (by first | rfl | simp | omega) (by decide)).trans rfl) ?_
  refine mv (vi ((q + 1) + 1)) wN ?_
  refine cl wN (C_laws_heldByteS w1 _ ((x_a.getD i z_PCand).Draw) (mR_22 (r26.from0 m7) s27) ((q + 1) + 1) (by omega) (by omega)) ?_
  rintro _ w2 ⟨k39, rfl⟩
  have m40 := m7.extk k39
  have q41 := heldB_le ((x_a.getD i z_PCand).Draw) ((q + 1) + 1)
  refine ag (vi (heldB ((x_a.getD i z_PCand).Draw) ((q + 1) + 1))) wN ?_
  refine wl_nil <| wq_then <| wc_seq <| sr ?_
  refine mv (vi (heldB ((x_a.getD i z_PCand).Draw) ((q + 1) + 1))) wN ?_
  refine pu (vb (decide ((heldB ((x_a.getD i z_PCand).Draw) ((q + 1) + 1)) < 0))) wN ?_
  refine wl_nil <| wq_then ?_
  rcases bt (decide ((heldB ((x_a.getD i z_PCand).Draw) ((q + 1) + 1)) < 0)) with h42 | h42
  ·have q43 := of_decide_eq_true h42
   refine ct h42 ?_
   refine sr ?_
   refine ag (vi (-1)) wN ?_
   refine wl_nil <| wq_then <| wc_ret <| wq_then_ret <| wq_blk_ret <| wq_then_ret <| wq_then_ret <| wq_blk_ret <| wq_then_ret ?_
   refine ret_1 (.inl rfl) (vi (-1)) rfl rfl ?_
   refine ⟨m40.keep0, ?_⟩
   have hF44 : heldL hC_PCand x_a x_k = (-1) := by first | exact heldL_ne (z := z_PCand) (by assumption) (by omega) (by simp only [hC_PCand, h15, h31, h35, h42]; simp) | exact heldL_end (by assumption) (by omega)
   rw [hF44]
   exact rfl
  have q45 := of_decide_eq_false h42
  refine cf h42 ?_
  refine wc_skip <| wq_then <| wc_seq <| sr ?_
  refine mv (vs a1 x_a.length c2) wN ?_
  refine mv (vi ((i : Nat) : Int)) wN ?_
  obtain ⟨y46, r47⟩ := RLv.row (r3.from0 m40)
  refine wl_index wN ((i : Nat) : Int) rfl rfl rfl slTy_57 rfl rfl r47 (by first | omega | (simp only [List.length_cons, List.length_nil, List.length_replicate, List.length_append, List.length_take, List.length_set, List.length_map]; omega)) (by first | omega | (simp only [List.length_cons, List.length_nil, List.length_replicate, List.length_append, List.length_take, List.length_set, List.length_map]; omega)) ?_
  refine wl_fieldE wN rfl rfl rfl fieldAt_54_2 rfl (r21.from0 m40) (by omega) ?_
  refine wl_loadE (vi ((x_a.getD i z_PCand).Until)) wN rfl rfl rfl rfl isAgg_3 (r21.from0 m40) ((get_of (off := 3) e22 (by first | rfl | simp | omega) (by decide)).trans rfl) ?_
  refine mv (vi (heldB ((x_a.getD i z_PCand).Draw) ((q + 1) + 1))) wN ?_
  refine pu (vb (!(decide ((x_a.getD i z_PCand).Until = (heldB ((x_a.getD i z_PCand).Draw) ((q + 1) + 1)))))) wN ?_
  refine wl_nil <| wq_then ?_
  rcases bf (decide ((x_a.getD i z_PCand).Until = (heldB ((x_a.getD i z_PCand).Draw) ((q + 1) + 1)))) with h48 | h48
  ·have q50 := of_decide_eq_false h48
   refine ct (congrArg not h48) ?_
   refine sr ?_
   refine ag (vi (-1)) wN ?_
   refine wl_nil <| wq_then <| wc_ret <| wq_then_ret <| wq_blk_ret <| wq_then_ret <| wq_then_ret <| wq_blk_ret <| wq_then_ret ?_
   refine ret_1 (.inl rfl) (vi (-1)) rfl rfl ?_
   refine ⟨m40.keep0, ?_⟩
   have hF51 : heldL hC_PCand x_a x_k = (-1) := by first | exact heldL_ne (z := z_PCand) (by assumption) (by omega) (by simp only [hC_PCand, h15, h31, h35, h42, h48]; simp) | exact heldL_end (by assumption) (by omega)
   rw [hF51]
   exact rfl
  have q49 := of_decide_eq_true h48
  refine cf (congrArg not h48) ?_
  refine wc_skip <| wq_then <| wc_region ?_
  refine mv (vi (heldB ((x_a.getD i z_PCand).Draw) ((q + 1) + 1))) wN ?_
  refine ar ((heldB ((x_a.getD i z_PCand).Draw) ((q + 1) + 1)) + 1) wN ?_
  refine ag (vi ((heldB ((x_a.getD i z_PCand).Draw) ((q + 1) + 1)) + 1)) wN ?_
  refine wl_nil <| wq_blk_normal <| wq_then <| wc_region ?_
  refine mv (vi ((i : Nat) : Int)) wN ?_
  refine ar (((i : Nat) : Int) + 1) wN ?_
  refine ag (vi (((i : Nat) : Int) + 1)) wN ?_
  refine wl_nil ?_
  refine wq_loopQ (w0 := w1) (fun e => [e 0, (vi ((heldB (x_a.getD i z_PCand).Draw ((q + 1) + 1)) + 1)), e 2, e 3, e 4, (vi (((i + 1) : Nat) : Int)), e 6, e 7, e 8, e 9, e 10, e 11, e 12, e 13, e 14, e 15, e 16, e 17, e 18, e 19, e 20, e 21, e 22, e 23, e 24, e 25, e 26, e 27, e 28, e 29, e 30, e 31, e 32, e 33, e 34, e 35, e 36, e 37, e 38, e 39, e 40, e 41, e 42, e 43, e 44, e 45, e 46, e 47, e 48, e 49, e 50]) rfl ?_ ?_ ?_
  · exact ⟨rfl, (congrArg (Value.int .i64) (show (((heldB ((x_a.getD i z_PCand).Draw) ((q + 1) + 1)) + 1) : Int) = ((heldB (x_a.getD i z_PCand).Draw ((q + 1) + 1)) + 1) by omega)), rfl, rfl, rfl, (congrArg (Value.int .i64) (show ((((i : Nat) : Int) + 1) : Int) = (((i + 1) : Nat) : Int) by omega)), rfl, rfl, rfl, rfl, rfl, rfl, rfl, rfl, rfl, rfl, rfl, rfl, rfl, rfl, rfl, rfl, rfl, rfl, rfl, rfl, rfl, rfl, rfl, rfl, rfl, rfl, rfl, rfl, rfl, rfl, rfl, rfl, rfl, rfl, rfl, rfl, rfl, rfl, rfl, rfl, rfl, rfl, rfl, rfl, rfl, trivial⟩
  · exact ⟨(i + 1), ((heldB (x_a.getD i z_PCand).Draw ((q + 1) + 1)) + 1), (unL [_, _, _, _, _, _, _, _, _, _, _, _, _, _, _, _, _, _, _, _, _, _, _, _, _, _, _, _, _, _, _, _, _, _, _, _, _, _, _, _, _, _, _, _, _, _, _]), rfl, m40, (((Ch.refl (fun k => w0.heap.size ≤ k) w0).ext k8 (fun k hk => Nat.le_trans (Nat.le_refl w0.heap.size) hk)).extk k39), (by omega), (by first | (simp; done) | exact heldL_next (z := z_PCand) (by assumption) (by omega) (by simp only [hC_PCand, h15, h31, h35, h42, h48]; simp) (by omega)), (by omega), (by omega)⟩
  · show x_a.length - ((((i + 1) : Nat) : Int)).toNat < x_a.length - (((i : Nat) : Int)).toNat; omega

def F_laws_heldPaths (x_a : PPaths) (x_k : Int) : (Int) := bif (decide ((heldL hC_PCand x_a.Cands x_k) < 0)) then ((-1)) else ((heldL hC_PCand x_a.Cands x_k))
theorem C_laws_heldPaths (w0 : World) (v_x_a : Value) (x_a : PPaths) (r_x_a : R_59 w0 v_x_a x_a) (x_k : Int) (pre0 : 0 ≤ x_k) (pre1 : x_k ≤ 3700000000000000000) : Fn Try.prog 50 #[v_x_a, (vi x_k)] w0 (fun v w' => Keep w0 w' ∧ O_3 w' w0.heap.size v (F_laws_heldPaths x_a x_k)) := by
 obtain ⟨a1, c2, rfl, r3, s4⟩ := r_x_a
 refine fn_of (n := 12) (l := [(va (L_59 x_a a1 c2)), (vi x_k), U, U, U, U, U, U, U, U, U, U]) Try.func50 rfl rfl (by kernel_rfl) rfl ?_
 refine sr ?_
 refine bx (L_59 x_a a1 c2) wN ?_
 intro g6 w1 p7 p8 k9 b10
 have m11 := (Ch.base w0).extk k9
 refine ag (vi 0) wN ?_
 refine nx ?_
 refine pu (vp g6 2) wN ?_
 refine ld (vs a1 x_a.Cands.length c2) wN isAgg_57 b10 ?_
 refine mv (vi x_k) wN ?_
 refine cl wN (C_laws_heldCandS w1 _ x_a.Cands (mR_57 (r3.from0 m11) s4) x_k (by omega) (by omega)) ?_
 rintro _ w2 ⟨k12, rfl⟩
 have m13 := m11.extk k12
 refine ag (vi (heldL hC_PCand x_a.Cands x_k)) wN ?_
 refine wl_nil <| wq_then <| wc_seq <| sr ?_
 refine mv (vi (heldL hC_PCand x_a.Cands x_k)) wN ?_
 refine pu (vb (decide ((heldL hC_PCand x_a.Cands x_k) < 0))) wN ?_
 refine wl_nil <| wq_then ?_
 rcases bt (decide ((heldL hC_PCand x_a.Cands x_k) < 0)) with h14 | h14
 ·have q15 := of_decide_eq_true h14
  refine ct h14 ?_
  refine sr ?_
  refine ag (vi (-1)) wN ?_
  refine wl_nil <| wq_then <| wc_ret <| wq_then_ret ?_
  refine ret_1 (.inl rfl) (vi (-1)) rfl rfl ?_
  refine ⟨m13.keep0, ?_⟩
  have hF16 : F_laws_heldPaths x_a x_k = (-1) := by simp only [F_laws_heldPaths, h14, cond_true, cond_false]
  rw [hF16]
  exact rfl
 have q17 := of_decide_eq_false h14
 refine cf h14 ?_
 refine wc_skip <| wq_then <| sr ?_
 refine mv (vi (heldL hC_PCand x_a.Cands x_k)) wN ?_
 refine ag (vi (heldL hC_PCand x_a.Cands x_k)) wN ?_
 refine wl_nil <| wq_then <| wc_ret ?_
 refine ret_1 (.inl rfl) (vi (heldL hC_PCand x_a.Cands x_k)) rfl rfl ?_
 refine ⟨m13.keep0, ?_⟩
 have hF18 : F_laws_heldPaths x_a x_k = (heldL hC_PCand x_a.Cands x_k) := by simp only [F_laws_heldPaths, h14, cond_true, cond_false]
 rw [hF18]
 exact rfl
end Go.Proofs.Ytjcahjhnnagkdaa.K
