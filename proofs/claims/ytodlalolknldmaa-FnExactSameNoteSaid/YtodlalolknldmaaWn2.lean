import Derived.Test.YtodlalolknldmaaCore
import Derived.Test.YtodlalolknldmaaProg
import Derived.Test.YtodlalolknldmaaHeld
import Derived.Test.YtodlalolknldmaaFun
import Derived.Test.YtodlalolknldmaaWn1
namespace Go.Proofs.Ytodlalolknldmaa.K
open Go.RowKit
set_option linter.unusedVariables false
set_option linter.unusedSimpArgs false
set_option maxRecDepth 100000
theorem isAgg_58 : ∀ w, (isAgg 58).run Try.prog w = .ok true w := fun w => by kernel_rfl
theorem sizeOf_58 : ∀ w, (sizeOf 58).run Try.prog w = .ok 12 w := fun w => by kernel_rfl
def F_laws_FnExactSameNote (x_aA : PNote) (x_aB : PNote) : (Bool) := bif (decide ((F_laws_szNote x_aA 1048576) < 0)) then (true) else (bif (decide ((F_laws_szNote x_aB (F_laws_szNote x_aA 1048576)) < 0)) then (true) else (bif ((F_impl_SameNote (F_laws_toNote x_aA) (F_laws_toNote x_aB)) == (F_spec_SameNote (F_laws_toNote x_aA) (F_laws_toNote x_aB))) then (bif (F_laws_eqNote (F_laws_toNote x_aA) (F_laws_toNote x_aA)) then (bif (F_laws_eqNote (F_laws_toNote x_aB) (F_laws_toNote x_aB)) then (true) else (false)) else (false)) else (false)))
theorem C_laws_FnExactSameNote (w0 : World) (v_x_aA : Value) (x_aA : PNote) (r_x_aA : Q_58 w0 v_x_aA x_aA) (v_x_aB : Value) (x_aB : PNote) (r_x_aB : Q_58 w0 v_x_aB x_aB)  : Fn Try.prog 9 #[v_x_aA, v_x_aB] w0 (fun v w' => Keep w0 w' ∧ O_4 w' w0.heap.size v (F_laws_FnExactSameNote x_aA x_aB)) := by
  obtain ⟨a1, c2, a6, c7, a11, c12, a16, c17, rfl, r3, s4, r8, s9, r13, s14, r18, s19⟩ := r_x_aA
  obtain ⟨a21, c22, a26, c27, a31, c32, a36, c37, rfl, r23, s24, r28, s29, r33, s34, r38, s39⟩ := r_x_aB
  refine fn_of (n := 45) (l := [(.agg #[(.int .i64 x_aA.Kind), (.int .i64 x_aA.Id), (.int .i64 x_aA.Role), (.slice a1 x_aA.Cn.length c2), (.slice a6 x_aA.Sn.length c7), (.int .i64 x_aA.Epoch), (.int .i64 x_aA.Seq), (.slice a11 x_aA.Body.length c12), (.slice a16 x_aA.Key.length c17), (.int .i64 x_aA.A.Host), (.int .i64 x_aA.A.Port), (.int .i64 x_aA.Now)]), (.agg #[(.int .i64 x_aB.Kind), (.int .i64 x_aB.Id), (.int .i64 x_aB.Role), (.slice a21 x_aB.Cn.length c22), (.slice a26 x_aB.Sn.length c27), (.int .i64 x_aB.Epoch), (.int .i64 x_aB.Seq), (.slice a31 x_aB.Body.length c32), (.slice a36 x_aB.Key.length c37), (.int .i64 x_aB.A.Host), (.int .i64 x_aB.A.Port), (.int .i64 x_aB.Now)]), undef, undef, undef, undef, undef, undef, undef, undef, undef, undef, undef, undef, undef, undef, undef, undef, undef, undef, undef, undef, undef, undef, undef, undef, undef, undef, undef, undef, undef, undef, undef, undef, undef, undef, undef, undef, undef, undef, undef, undef, undef, undef, undef]) Try.func9 rfl rfl (by kernel_rfl) rfl ?_
  refine wc_seq ?_
  refine wc_region ?_
  refine wl_box (want_none rfl) [(.int .i64 x_aA.Kind), (.int .i64 x_aA.Id), (.int .i64 x_aA.Role), (.slice a1 x_aA.Cn.length c2), (.slice a6 x_aA.Sn.length c7), (.int .i64 x_aA.Epoch), (.int .i64 x_aA.Seq), (.slice a11 x_aA.Body.length c12), (.slice a16 x_aA.Key.length c17), (.int .i64 x_aA.A.Host), (.int .i64 x_aA.A.Port), (.int .i64 x_aA.Now)] rfl rfl rfl rfl ?_
  intro g41 w1 p42 p43 k44 b45
  have m46 := (Ch.base w0).extk k44
  refine wl_box (want_none rfl) [(.int .i64 x_aB.Kind), (.int .i64 x_aB.Id), (.int .i64 x_aB.Role), (.slice a21 x_aB.Cn.length c22), (.slice a26 x_aB.Sn.length c27), (.int .i64 x_aB.Epoch), (.int .i64 x_aB.Seq), (.slice a31 x_aB.Body.length c32), (.slice a36 x_aB.Key.length c37), (.int .i64 x_aB.A.Host), (.int .i64 x_aB.A.Port), (.int .i64 x_aB.Now)] rfl rfl rfl rfl ?_
  intro g47 w2 p48 p49 k50 b51
  have m52 := m46.extk k50
  refine wl_mv (.bool false) (want_none rfl) rfl rfl (.inr rfl) rfl ?_
  refine wl_nil ?_
  refine wq_then ?_
  refine wc_seq ?_
  refine wc_region ?_
  refine wl_mv (.int .i64 1048576) (want_none rfl) rfl rfl (.inr rfl) rfl ?_
  refine wl_nil ?_
  refine wq_then ?_
  refine wc_seq ?_
  refine wc_region ?_
  have b53 := (b45.kp k50)
  refine wl_loadN [(.int .i64 x_aA.Kind), (.int .i64 x_aA.Id), (.int .i64 x_aA.Role), (.slice a1 x_aA.Cn.length c2), (.slice a6 x_aA.Sn.length c7), (.int .i64 x_aA.Epoch), (.int .i64 x_aA.Seq), (.slice a11 x_aA.Body.length c12), (.slice a16 x_aA.Key.length c17), (.int .i64 x_aA.A.Host), (.int .i64 x_aA.A.Port), (.int .i64 x_aA.Now)] (want_none rfl) rfl rfl rfl rfl isAgg_58 sizeOf_58 b53 rfl ?_
  refine wl_mv (.int .i64 1048576) (want_none rfl) rfl rfl (.inl rfl) rfl ?_
  refine wl_call (want_none rfl) (args := #[(.agg #[(.int .i64 x_aA.Kind), (.int .i64 x_aA.Id), (.int .i64 x_aA.Role), (.slice a1 x_aA.Cn.length c2), (.slice a6 x_aA.Sn.length c7), (.int .i64 x_aA.Epoch), (.int .i64 x_aA.Seq), (.slice a11 x_aA.Body.length c12), (.slice a16 x_aA.Key.length c17), (.int .i64 x_aA.A.Host), (.int .i64 x_aA.A.Port), (.int .i64 x_aA.Now)]), (.int .i64 1048576)]) rfl rfl (by kernel_rfl) (C_laws_szNote w2 (.agg #[(.int .i64 x_aA.Kind), (.int .i64 x_aA.Id), (.int .i64 x_aA.Role), (.slice a1 x_aA.Cn.length c2), (.slice a6 x_aA.Sn.length c7), (.int .i64 x_aA.Epoch), (.int .i64 x_aA.Seq), (.slice a11 x_aA.Body.length c12), (.slice a16 x_aA.Key.length c17), (.int .i64 x_aA.A.Host), (.int .i64 x_aA.A.Port), (.int .i64 x_aA.Now)]) x_aA (show Q_58 w2 (.agg #[(.int .i64 x_aA.Kind), (.int .i64 x_aA.Id), (.int .i64 x_aA.Role), (.slice a1 x_aA.Cn.length c2), (.slice a6 x_aA.Sn.length c7), (.int .i64 x_aA.Epoch), (.int .i64 x_aA.Seq), (.slice a11 x_aA.Body.length c12), (.slice a16 x_aA.Key.length c17), (.int .i64 x_aA.A.Host), (.int .i64 x_aA.A.Port), (.int .i64 x_aA.Now)]) x_aA from ⟨_, _, _, _, _, _, _, _, rfl, (r3.from0 m52), s4, (r8.from0 m52), s9, (r13.from0 m52), s14, (r18.from0 m52), s19⟩) 1048576 (by omega) (by omega)) ?_
  rintro _ w3 ⟨k54, rfl⟩
  have m55 := m52.extk k54
  have q56 := laws_szNote_le x_aA 1048576
  refine wl_mv (.int .i64 (F_laws_szNote x_aA 1048576)) (want_none rfl) rfl rfl (.inr rfl) rfl ?_
  refine wl_nil ?_
  refine wq_then ?_
  refine wc_seq ?_
  refine wc_seq ?_
  refine wc_region ?_
  refine wl_mv (.int .i64 (F_laws_szNote x_aA 1048576)) (want_none rfl) rfl rfl (.inl rfl) rfl ?_
  refine wl_pure (.bool (decide ((F_laws_szNote x_aA 1048576) < 0))) (want_none rfl) rfl rfl (by kernel_rfl) ?_
  refine wl_nil ?_
  refine wq_then ?_
  rcases Bool.eq_false_or_eq_true (decide ((F_laws_szNote x_aA 1048576) < 0)) with h57 | h57
  · have q58 := of_decide_eq_true h57
    refine wc_true (congrArg Value.bool h57) ?_
    refine wc_seq ?_
    refine wc_region ?_
    refine wl_mv (.bool true) (want_none rfl) rfl rfl (.inr rfl) rfl ?_
    refine wl_nil ?_
    refine wq_then ?_
    refine wc_ret ?_
    refine wq_then_ret ?_
    refine ret_1 (.inl rfl) (.bool true) rfl rfl ?_
    refine ⟨m55.keep0, ?_⟩
    have hF59 : F_laws_FnExactSameNote x_aA x_aB = true := by simp only [F_laws_FnExactSameNote, h57, cond_true, cond_false]
    rw [hF59]
    exact rfl
  · have q60 := of_decide_eq_false h57
    refine wc_false (congrArg Value.bool h57) ?_
    refine wc_skip ?_
    refine wq_then ?_
    refine wc_seq ?_
    refine wc_region ?_
    have b61 := (b51.kp k54)
    refine wl_loadN [(.int .i64 x_aB.Kind), (.int .i64 x_aB.Id), (.int .i64 x_aB.Role), (.slice a21 x_aB.Cn.length c22), (.slice a26 x_aB.Sn.length c27), (.int .i64 x_aB.Epoch), (.int .i64 x_aB.Seq), (.slice a31 x_aB.Body.length c32), (.slice a36 x_aB.Key.length c37), (.int .i64 x_aB.A.Host), (.int .i64 x_aB.A.Port), (.int .i64 x_aB.Now)] (want_none rfl) rfl rfl rfl rfl isAgg_58 sizeOf_58 b61 rfl ?_
    refine wl_mv (.int .i64 (F_laws_szNote x_aA 1048576)) (want_none rfl) rfl rfl (.inl rfl) rfl ?_
    refine wl_call (want_none rfl) (args := #[(.agg #[(.int .i64 x_aB.Kind), (.int .i64 x_aB.Id), (.int .i64 x_aB.Role), (.slice a21 x_aB.Cn.length c22), (.slice a26 x_aB.Sn.length c27), (.int .i64 x_aB.Epoch), (.int .i64 x_aB.Seq), (.slice a31 x_aB.Body.length c32), (.slice a36 x_aB.Key.length c37), (.int .i64 x_aB.A.Host), (.int .i64 x_aB.A.Port), (.int .i64 x_aB.Now)]), (.int .i64 (F_laws_szNote x_aA 1048576))]) rfl rfl (by kernel_rfl) (C_laws_szNote w3 (.agg #[(.int .i64 x_aB.Kind), (.int .i64 x_aB.Id), (.int .i64 x_aB.Role), (.slice a21 x_aB.Cn.length c22), (.slice a26 x_aB.Sn.length c27), (.int .i64 x_aB.Epoch), (.int .i64 x_aB.Seq), (.slice a31 x_aB.Body.length c32), (.slice a36 x_aB.Key.length c37), (.int .i64 x_aB.A.Host), (.int .i64 x_aB.A.Port), (.int .i64 x_aB.Now)]) x_aB (show Q_58 w3 (.agg #[(.int .i64 x_aB.Kind), (.int .i64 x_aB.Id), (.int .i64 x_aB.Role), (.slice a21 x_aB.Cn.length c22), (.slice a26 x_aB.Sn.length c27), (.int .i64 x_aB.Epoch), (.int .i64 x_aB.Seq), (.slice a31 x_aB.Body.length c32), (.slice a36 x_aB.Key.length c37), (.int .i64 x_aB.A.Host), (.int .i64 x_aB.A.Port), (.int .i64 x_aB.Now)]) x_aB from ⟨_, _, _, _, _, _, _, _, rfl, (r23.from0 m55), s24, (r28.from0 m55), s29, (r33.from0 m55), s34, (r38.from0 m55), s39⟩) (F_laws_szNote x_aA 1048576) (by omega) (by omega)) ?_
    rintro _ w4 ⟨k62, rfl⟩
    have m63 := m55.extk k62
    have q64 := laws_szNote_le x_aB (F_laws_szNote x_aA 1048576)
    refine wl_mv (.int .i64 (F_laws_szNote x_aB (F_laws_szNote x_aA 1048576))) (want_none rfl) rfl rfl (.inr rfl) rfl ?_
    refine wl_nil ?_
    refine wq_then ?_
    refine wc_seq ?_
    refine wc_seq ?_
    refine wc_region ?_
    refine wl_mv (.int .i64 (F_laws_szNote x_aB (F_laws_szNote x_aA 1048576))) (want_none rfl) rfl rfl (.inl rfl) rfl ?_
    refine wl_pure (.bool (decide ((F_laws_szNote x_aB (F_laws_szNote x_aA 1048576)) < 0))) (want_none rfl) rfl rfl (by kernel_rfl) ?_
    refine wl_nil ?_
    refine wq_then ?_
    rcases Bool.eq_false_or_eq_true (decide ((F_laws_szNote x_aB (F_laws_szNote x_aA 1048576)) < 0)) with h65 | h65
    · have q66 := of_decide_eq_true h65
      refine wc_true (congrArg Value.bool h65) ?_
      refine wc_seq ?_
      refine wc_region ?_
      refine wl_mv (.bool true) (want_none rfl) rfl rfl (.inr rfl) rfl ?_
      refine wl_nil ?_
      refine wq_then ?_
      refine wc_ret ?_
      refine wq_then_ret ?_
      refine ret_1 (.inl rfl) (.bool true) rfl rfl ?_
      refine ⟨m63.keep0, ?_⟩
      have hF67 : F_laws_FnExactSameNote x_aA x_aB = true := by simp only [F_laws_FnExactSameNote, h57, h65, cond_true, cond_false]
      rw [hF67]
      exact rfl
    · have q68 := of_decide_eq_false h65
      refine wc_false (congrArg Value.bool h65) ?_
      refine wc_skip ?_
      refine wq_then ?_
      refine wc_seq ?_
      refine wc_draw ([(20, [], [], (fun _ v _ => v = (.agg #[(.int .i64 x_aA.Kind), (.int .i64 x_aA.Id), (.int .i64 x_aA.Role), (.slice a1 x_aA.Cn.length c2), (.slice a6 x_aA.Sn.length c7), (.int .i64 x_aA.Epoch), (.int .i64 x_aA.Seq), (.slice a11 x_aA.Body.length c12), (.slice a16 x_aA.Key.length c17), (.int .i64 x_aA.A.Host), (.int .i64 x_aA.A.Port), (.int .i64 x_aA.Now)]))), (21, [], [0], (fun _ v w => ∃ (a1 : Option Addr) (c1 : Nat) (a2 : Option Addr) (c2 : Nat) (a3 : Option Addr) (c3 : Nat) (a4 : Option Addr) (c4 : Nat), v = .agg #[.int .i64 ((F_laws_toNote x_aA).Kind), .int .i64 ((F_laws_toNote x_aA).Id), .int .i64 ((F_laws_toNote x_aA).Role), .slice a1 ((F_laws_toNote x_aA).Cn).length c1, .slice a2 ((F_laws_toNote x_aA).Sn).length c2, .int .i64 ((F_laws_toNote x_aA).Epoch), .int .i64 ((F_laws_toNote x_aA).Seq), .slice a3 ((F_laws_toNote x_aA).Body).length c3, .slice a4 ((F_laws_toNote x_aA).Key).length c4, .int .i64 (((F_laws_toNote x_aA).A).Host), .int .i64 (((F_laws_toNote x_aA).A).Port), .int .i64 ((F_laws_toNote x_aA).Now)] ∧ w.ownsRow (w4.heap.size) 5 1 (.slice a1 ((F_laws_toNote x_aA).Cn).length c1) ((F_laws_toNote x_aA).Cn).length (((F_laws_toNote x_aA).Cn).map bV) ∧ ((F_laws_toNote x_aA).Cn).length ≤ 1073741824 ∧ w.ownsRow (w4.heap.size) 5 1 (.slice a2 ((F_laws_toNote x_aA).Sn).length c2) ((F_laws_toNote x_aA).Sn).length (((F_laws_toNote x_aA).Sn).map bV) ∧ ((F_laws_toNote x_aA).Sn).length ≤ 1073741824 ∧ w.ownsRow (w4.heap.size) 5 1 (.slice a3 ((F_laws_toNote x_aA).Body).length c3) ((F_laws_toNote x_aA).Body).length (((F_laws_toNote x_aA).Body).map bV) ∧ ((F_laws_toNote x_aA).Body).length ≤ 1073741824 ∧ w.ownsRow (w4.heap.size) 5 1 (.slice a4 ((F_laws_toNote x_aA).Key).length c4) ((F_laws_toNote x_aA).Key).length (((F_laws_toNote x_aA).Key).map bV) ∧ ((F_laws_toNote x_aA).Key).length ≤ 1073741824 ∧ Aps [(a1, c1), (a2, c2), (a3, c3), (a4, c4)])), (22, [], [], (fun _ v _ => v = (.agg #[(.int .i64 x_aB.Kind), (.int .i64 x_aB.Id), (.int .i64 x_aB.Role), (.slice a21 x_aB.Cn.length c22), (.slice a26 x_aB.Sn.length c27), (.int .i64 x_aB.Epoch), (.int .i64 x_aB.Seq), (.slice a31 x_aB.Body.length c32), (.slice a36 x_aB.Key.length c37), (.int .i64 x_aB.A.Host), (.int .i64 x_aB.A.Port), (.int .i64 x_aB.Now)]))), (23, [21], [0, 1, 2], (fun e v w => ∃ (a1 : Option Addr) (c1 : Nat) (a2 : Option Addr) (c2 : Nat) (a3 : Option Addr) (c3 : Nat) (a4 : Option Addr) (c4 : Nat), v = .agg #[.int .i64 ((F_laws_toNote x_aB).Kind), .int .i64 ((F_laws_toNote x_aB).Id), .int .i64 ((F_laws_toNote x_aB).Role), .slice a1 ((F_laws_toNote x_aB).Cn).length c1, .slice a2 ((F_laws_toNote x_aB).Sn).length c2, .int .i64 ((F_laws_toNote x_aB).Epoch), .int .i64 ((F_laws_toNote x_aB).Seq), .slice a3 ((F_laws_toNote x_aB).Body).length c3, .slice a4 ((F_laws_toNote x_aB).Key).length c4, .int .i64 (((F_laws_toNote x_aB).A).Host), .int .i64 (((F_laws_toNote x_aB).A).Port), .int .i64 ((F_laws_toNote x_aB).Now)] ∧ w.ownsRow (w4.heap.size) 5 1 (.slice a1 ((F_laws_toNote x_aB).Cn).length c1) ((F_laws_toNote x_aB).Cn).length (((F_laws_toNote x_aB).Cn).map bV) ∧ ((F_laws_toNote x_aB).Cn).length ≤ 1073741824 ∧ w.ownsRow (w4.heap.size) 5 1 (.slice a2 ((F_laws_toNote x_aB).Sn).length c2) ((F_laws_toNote x_aB).Sn).length (((F_laws_toNote x_aB).Sn).map bV) ∧ ((F_laws_toNote x_aB).Sn).length ≤ 1073741824 ∧ w.ownsRow (w4.heap.size) 5 1 (.slice a3 ((F_laws_toNote x_aB).Body).length c3) ((F_laws_toNote x_aB).Body).length (((F_laws_toNote x_aB).Body).map bV) ∧ ((F_laws_toNote x_aB).Body).length ≤ 1073741824 ∧ w.ownsRow (w4.heap.size) 5 1 (.slice a4 ((F_laws_toNote x_aB).Key).length c4) ((F_laws_toNote x_aB).Key).length (((F_laws_toNote x_aB).Key).map bV) ∧ ((F_laws_toNote x_aB).Key).length ≤ 1073741824 ∧ Aps [(a1, c1), (a2, c2), (a3, c3), (a4, c4)] ∧ Ap (sp (cellAt (e 21) 3)) (a1, c1) ∧ Ap (sp (cellAt (e 21) 3)) (a2, c2) ∧ Ap (sp (cellAt (e 21) 3)) (a3, c3) ∧ Ap (sp (cellAt (e 21) 3)) (a4, c4) ∧ Ap (sp (cellAt (e 21) 4)) (a1, c1) ∧ Ap (sp (cellAt (e 21) 4)) (a2, c2) ∧ Ap (sp (cellAt (e 21) 4)) (a3, c3) ∧ Ap (sp (cellAt (e 21) 4)) (a4, c4) ∧ Ap (sp (cellAt (e 21) 7)) (a1, c1) ∧ Ap (sp (cellAt (e 21) 7)) (a2, c2) ∧ Ap (sp (cellAt (e 21) 7)) (a3, c3) ∧ Ap (sp (cellAt (e 21) 7)) (a4, c4) ∧ Ap (sp (cellAt (e 21) 8)) (a1, c1) ∧ Ap (sp (cellAt (e 21) 8)) (a2, c2) ∧ Ap (sp (cellAt (e 21) 8)) (a3, c3) ∧ Ap (sp (cellAt (e 21) 8)) (a4, c4))), (24, [], [0, 1, 2, 3], (fun _ v w => v = .bool (F_spec_SameNote (F_laws_toNote x_aA) (F_laws_toNote x_aB))))] : GV) mixed rfl (by kernel_rfl) (by kernel_rfl) ?_ ?_ ?_
      · exact ⟨(fun _ _ _ _ h _ => h), (fun _ _ _ _ _ h => h), ⟨(fun e v w w1 h hk => by obtain ⟨a0x, c0x, a1x, c1x, a2x, c2x, a3x, c3x, he, o0x, l0x, o1x, l1x, o2x, l2x, o3x, l3x, hap⟩ := h; exact ⟨a0x, c0x, a1x, c1x, a2x, c2x, a3x, c3x, he, own_kp o0x hk, l0x, own_kp o1x hk, l1x, own_kp o2x hk, l2x, own_kp o3x hk, l3x, hap⟩), (fun _ _ _ _ _ h => h), ⟨(fun _ _ _ _ h _ => h), (fun _ _ _ _ _ h => h), ⟨(fun e v w w1 h hk => by obtain ⟨a0x, c0x, a1x, c1x, a2x, c2x, a3x, c3x, he, o0x, l0x, o1x, l1x, o2x, l2x, o3x, l3x, hap, hx⟩ := h; exact ⟨a0x, c0x, a1x, c1x, a2x, c2x, a3x, c3x, he, own_kp o0x hk, l0x, own_kp o1x hk, l1x, own_kp o2x hk, l2x, own_kp o3x hk, l3x, hap, hx⟩), (fun e1 e2 v w hx h => by have h21x := hx 21 (by simp); simp only [h21x] at h; exact h), ⟨(fun _ _ _ _ h _ => h), (fun _ _ _ _ _ h => h), trivial⟩⟩⟩⟩⟩
      · refine ⟨?_, ⟨?_, ⟨?_, ⟨?_, ⟨?_, trivial⟩⟩⟩⟩⟩
        · intro w5 k167
          have m168 := m63.extk k167
          intro u169
          intro u170
          intro u171
          intro u172
          intro u173
          show WL _ _ _ _ _ _ _
          have b174 := (((b53.kp k54).kp k62).kp k167)
          refine wl_loadN [(.int .i64 x_aA.Kind), (.int .i64 x_aA.Id), (.int .i64 x_aA.Role), (.slice a1 x_aA.Cn.length c2), (.slice a6 x_aA.Sn.length c7), (.int .i64 x_aA.Epoch), (.int .i64 x_aA.Seq), (.slice a11 x_aA.Body.length c12), (.slice a16 x_aA.Key.length c17), (.int .i64 x_aA.A.Host), (.int .i64 x_aA.A.Port), (.int .i64 x_aA.Now)] (want_none rfl) rfl rfl rfl rfl isAgg_58 sizeOf_58 b174 rfl ?_
          exact wl_fin (Ch.refl _ _) rfl
        · intro w5 k175
          have m176 := m63.extk k175
          rintro _ rfl
          intro u178
          intro u179
          intro u180
          intro u181
          show WL _ _ _ _ _ _ _
          refine wl_call (want_none rfl) (args := #[(.agg #[(.int .i64 x_aA.Kind), (.int .i64 x_aA.Id), (.int .i64 x_aA.Role), (.slice a1 x_aA.Cn.length c2), (.slice a6 x_aA.Sn.length c7), (.int .i64 x_aA.Epoch), (.int .i64 x_aA.Seq), (.slice a11 x_aA.Body.length c12), (.slice a16 x_aA.Key.length c17), (.int .i64 x_aA.A.Host), (.int .i64 x_aA.A.Port), (.int .i64 x_aA.Now)])]) rfl rfl (by kernel_rfl) (C_laws_toNote w5 (.agg #[(.int .i64 x_aA.Kind), (.int .i64 x_aA.Id), (.int .i64 x_aA.Role), (.slice a1 x_aA.Cn.length c2), (.slice a6 x_aA.Sn.length c7), (.int .i64 x_aA.Epoch), (.int .i64 x_aA.Seq), (.slice a11 x_aA.Body.length c12), (.slice a16 x_aA.Key.length c17), (.int .i64 x_aA.A.Host), (.int .i64 x_aA.A.Port), (.int .i64 x_aA.Now)]) x_aA (show R_58 w5 (.agg #[(.int .i64 x_aA.Kind), (.int .i64 x_aA.Id), (.int .i64 x_aA.Role), (.slice a1 x_aA.Cn.length c2), (.slice a6 x_aA.Sn.length c7), (.int .i64 x_aA.Epoch), (.int .i64 x_aA.Seq), (.slice a11 x_aA.Body.length c12), (.slice a16 x_aA.Key.length c17), (.int .i64 x_aA.A.Host), (.int .i64 x_aA.A.Port), (.int .i64 x_aA.Now)]) x_aA from ⟨_, _, _, _, _, _, _, _, rfl, (r3.from0 m176), (by omega), (r8.from0 m176), (by omega), (r13.from0 m176), (by omega), (r18.from0 m176), (by omega)⟩)) ?_
          rintro _ w6 ⟨k182, ⟨a183, c184, a188, c189, a193, c194, a198, c199, rfl, o185, s186, o190, s191, o195, s196, o200, s201, ap203⟩⟩
          have m204 := m176.extk k182
          exact wl_fin k182 ⟨_, _, _, _, _, _, _, _, rfl, (own_lo o185 k175.size), s186, (own_lo o190 k175.size), s191, (own_lo o195 k175.size), s196, (own_lo o200 k175.size), s201, ap203⟩
        · intro w5 k205
          have m206 := m63.extk k205
          intro u207
          intro u208
          intro u209
          intro u210
          intro u211
          show WL _ _ _ _ _ _ _
          have b212 := ((b61.kp k62).kp k205)
          refine wl_loadN [(.int .i64 x_aB.Kind), (.int .i64 x_aB.Id), (.int .i64 x_aB.Role), (.slice a21 x_aB.Cn.length c22), (.slice a26 x_aB.Sn.length c27), (.int .i64 x_aB.Epoch), (.int .i64 x_aB.Seq), (.slice a31 x_aB.Body.length c32), (.slice a36 x_aB.Key.length c37), (.int .i64 x_aB.A.Host), (.int .i64 x_aB.A.Port), (.int .i64 x_aB.Now)] (want_none rfl) rfl rfl rfl rfl isAgg_58 sizeOf_58 b212 rfl ?_
          exact wl_fin (Ch.refl _ _) rfl
        · intro w5 k213
          have m214 := m63.extk k213
          rintro _ rfl
          rintro _ ⟨a216, c217, a221, c222, a226, c227, a231, c232, rfl, o218, s219, o223, s224, o228, s229, o233, s234, ap236⟩
          rintro _ rfl
          intro u238
          intro u239
          show WL _ _ _ _ _ _ _
          refine wl_call (want_none rfl) (args := #[(.agg #[(.int .i64 x_aB.Kind), (.int .i64 x_aB.Id), (.int .i64 x_aB.Role), (.slice a21 x_aB.Cn.length c22), (.slice a26 x_aB.Sn.length c27), (.int .i64 x_aB.Epoch), (.int .i64 x_aB.Seq), (.slice a31 x_aB.Body.length c32), (.slice a36 x_aB.Key.length c37), (.int .i64 x_aB.A.Host), (.int .i64 x_aB.A.Port), (.int .i64 x_aB.Now)])]) rfl rfl (by kernel_rfl) (C_laws_toNote w5 (.agg #[(.int .i64 x_aB.Kind), (.int .i64 x_aB.Id), (.int .i64 x_aB.Role), (.slice a21 x_aB.Cn.length c22), (.slice a26 x_aB.Sn.length c27), (.int .i64 x_aB.Epoch), (.int .i64 x_aB.Seq), (.slice a31 x_aB.Body.length c32), (.slice a36 x_aB.Key.length c37), (.int .i64 x_aB.A.Host), (.int .i64 x_aB.A.Port), (.int .i64 x_aB.Now)]) x_aB (show R_58 w5 (.agg #[(.int .i64 x_aB.Kind), (.int .i64 x_aB.Id), (.int .i64 x_aB.Role), (.slice a21 x_aB.Cn.length c22), (.slice a26 x_aB.Sn.length c27), (.int .i64 x_aB.Epoch), (.int .i64 x_aB.Seq), (.slice a31 x_aB.Body.length c32), (.slice a36 x_aB.Key.length c37), (.int .i64 x_aB.A.Host), (.int .i64 x_aB.A.Port), (.int .i64 x_aB.Now)]) x_aB from ⟨_, _, _, _, _, _, _, _, rfl, (r23.from0 m214), (by omega), (r28.from0 m214), (by omega), (r33.from0 m214), (by omega), (r38.from0 m214), (by omega)⟩)) ?_
          rintro _ w6 ⟨k240, ⟨a241, c242, a246, c247, a251, c252, a256, c257, rfl, o243, s244, o248, s249, o253, s254, o258, s259, ap261⟩⟩
          have m262 := m214.extk k240
          exact wl_fin k240 ⟨_, _, _, _, _, _, _, _, rfl, (own_lo o243 k213.size), s244, (own_lo o248 k213.size), s249, (own_lo o253 k213.size), s254, (own_lo o258 k213.size), s259, ap261, ⟨(Ap.lt o218 o243 (Nat.le_refl _)), (Ap.lt o218 o248 (Nat.le_refl _)), (Ap.lt o218 o253 (Nat.le_refl _)), (Ap.lt o218 o258 (Nat.le_refl _)), (Ap.lt o223 o243 (Nat.le_refl _)), (Ap.lt o223 o248 (Nat.le_refl _)), (Ap.lt o223 o253 (Nat.le_refl _)), (Ap.lt o223 o258 (Nat.le_refl _)), (Ap.lt o228 o243 (Nat.le_refl _)), (Ap.lt o228 o248 (Nat.le_refl _)), (Ap.lt o228 o253 (Nat.le_refl _)), (Ap.lt o228 o258 (Nat.le_refl _)), (Ap.lt o233 o243 (Nat.le_refl _)), (Ap.lt o233 o248 (Nat.le_refl _)), (Ap.lt o233 o253 (Nat.le_refl _)), (Ap.lt o233 o258 (Nat.le_refl _))⟩⟩
        · intro w5 k263
          have m264 := m63.extk k263
          rintro _ rfl
          rintro _ ⟨a266, c267, a271, c272, a276, c277, a281, c282, rfl, o268, s269, o273, s274, o278, s279, o283, s284, ap286⟩
          rintro _ rfl
          rintro _ ⟨a288, c289, a293, c294, a298, c299, a303, c304, rfl, o290, s291, o295, s296, o300, s301, o305, s306, ap308, hx309⟩
          intro u310
          show WL _ _ _ _ _ _ _
          refine wl_call (want_none rfl) (args := #[(.agg #[(.int .i64 ((F_laws_toNote x_aA).Kind)), (.int .i64 ((F_laws_toNote x_aA).Id)), (.int .i64 ((F_laws_toNote x_aA).Role)), (.slice a266 ((F_laws_toNote x_aA).Cn).length c267), (.slice a271 ((F_laws_toNote x_aA).Sn).length c272), (.int .i64 ((F_laws_toNote x_aA).Epoch)), (.int .i64 ((F_laws_toNote x_aA).Seq)), (.slice a276 ((F_laws_toNote x_aA).Body).length c277), (.slice a281 ((F_laws_toNote x_aA).Key).length c282), (.int .i64 (((F_laws_toNote x_aA).A).Host)), (.int .i64 (((F_laws_toNote x_aA).A).Port)), (.int .i64 ((F_laws_toNote x_aA).Now))]), (.agg #[(.int .i64 ((F_laws_toNote x_aB).Kind)), (.int .i64 ((F_laws_toNote x_aB).Id)), (.int .i64 ((F_laws_toNote x_aB).Role)), (.slice a288 ((F_laws_toNote x_aB).Cn).length c289), (.slice a293 ((F_laws_toNote x_aB).Sn).length c294), (.int .i64 ((F_laws_toNote x_aB).Epoch)), (.int .i64 ((F_laws_toNote x_aB).Seq)), (.slice a298 ((F_laws_toNote x_aB).Body).length c299), (.slice a303 ((F_laws_toNote x_aB).Key).length c304), (.int .i64 (((F_laws_toNote x_aB).A).Host)), (.int .i64 (((F_laws_toNote x_aB).A).Port)), (.int .i64 ((F_laws_toNote x_aB).Now))])]) rfl rfl (by kernel_rfl) (C_spec_SameNote w5 (.agg #[(.int .i64 ((F_laws_toNote x_aA).Kind)), (.int .i64 ((F_laws_toNote x_aA).Id)), (.int .i64 ((F_laws_toNote x_aA).Role)), (.slice a266 ((F_laws_toNote x_aA).Cn).length c267), (.slice a271 ((F_laws_toNote x_aA).Sn).length c272), (.int .i64 ((F_laws_toNote x_aA).Epoch)), (.int .i64 ((F_laws_toNote x_aA).Seq)), (.slice a276 ((F_laws_toNote x_aA).Body).length c277), (.slice a281 ((F_laws_toNote x_aA).Key).length c282), (.int .i64 (((F_laws_toNote x_aA).A).Host)), (.int .i64 (((F_laws_toNote x_aA).A).Port)), (.int .i64 ((F_laws_toNote x_aA).Now))]) (F_laws_toNote x_aA) (show R_63 w5 (.agg #[(.int .i64 ((F_laws_toNote x_aA).Kind)), (.int .i64 ((F_laws_toNote x_aA).Id)), (.int .i64 ((F_laws_toNote x_aA).Role)), (.slice a266 ((F_laws_toNote x_aA).Cn).length c267), (.slice a271 ((F_laws_toNote x_aA).Sn).length c272), (.int .i64 ((F_laws_toNote x_aA).Epoch)), (.int .i64 ((F_laws_toNote x_aA).Seq)), (.slice a276 ((F_laws_toNote x_aA).Body).length c277), (.slice a281 ((F_laws_toNote x_aA).Key).length c282), (.int .i64 (((F_laws_toNote x_aA).A).Host)), (.int .i64 (((F_laws_toNote x_aA).A).Port)), (.int .i64 ((F_laws_toNote x_aA).Now))]) (F_laws_toNote x_aA) from ⟨_, _, _, _, _, _, _, _, rfl, (Rd.of_own o268), s269, (Rd.of_own o273), s274, (Rd.of_own o278), s279, (Rd.of_own o283), s284⟩) (.agg #[(.int .i64 ((F_laws_toNote x_aB).Kind)), (.int .i64 ((F_laws_toNote x_aB).Id)), (.int .i64 ((F_laws_toNote x_aB).Role)), (.slice a288 ((F_laws_toNote x_aB).Cn).length c289), (.slice a293 ((F_laws_toNote x_aB).Sn).length c294), (.int .i64 ((F_laws_toNote x_aB).Epoch)), (.int .i64 ((F_laws_toNote x_aB).Seq)), (.slice a298 ((F_laws_toNote x_aB).Body).length c299), (.slice a303 ((F_laws_toNote x_aB).Key).length c304), (.int .i64 (((F_laws_toNote x_aB).A).Host)), (.int .i64 (((F_laws_toNote x_aB).A).Port)), (.int .i64 ((F_laws_toNote x_aB).Now))]) (F_laws_toNote x_aB) (show R_63 w5 (.agg #[(.int .i64 ((F_laws_toNote x_aB).Kind)), (.int .i64 ((F_laws_toNote x_aB).Id)), (.int .i64 ((F_laws_toNote x_aB).Role)), (.slice a288 ((F_laws_toNote x_aB).Cn).length c289), (.slice a293 ((F_laws_toNote x_aB).Sn).length c294), (.int .i64 ((F_laws_toNote x_aB).Epoch)), (.int .i64 ((F_laws_toNote x_aB).Seq)), (.slice a298 ((F_laws_toNote x_aB).Body).length c299), (.slice a303 ((F_laws_toNote x_aB).Key).length c304), (.int .i64 (((F_laws_toNote x_aB).A).Host)), (.int .i64 (((F_laws_toNote x_aB).A).Port)), (.int .i64 ((F_laws_toNote x_aB).Now))]) (F_laws_toNote x_aB) from ⟨_, _, _, _, _, _, _, _, rfl, (Rd.of_own o290), s291, (Rd.of_own o295), s296, (Rd.of_own o300), s301, (Rd.of_own o305), s306⟩)) ?_
          rintro _ w6 ⟨k311, rfl⟩
          have m312 := m264.extk k311
          exact wl_fin k311 rfl
      · intro w5 k313
        have m314 := m63.extk k313
        rintro _ rfl
        rintro _ ⟨a316, c317, a321, c322, a326, c327, a331, c332, rfl, o318, s319, o323, s324, o328, s329, o333, s334, ap336⟩
        rintro _ rfl
        rintro _ ⟨a338, c339, a343, c344, a348, c349, a353, c354, rfl, o340, s341, o345, s346, o350, s351, o355, s356, ap358, hx359⟩
        rintro _ rfl
        show WL _ _ _ _ _ _ _
        refine wl_mv (.bool (F_spec_SameNote (F_laws_toNote x_aA) (F_laws_toNote x_aB))) (want_none rfl) rfl rfl (.inr rfl) rfl ?_
        refine wl_nil ?_
        refine wq_then ?_
        refine wc_seq ?_
        refine wc_region ?_
        have b360 := (((b53.kp k54).kp k62).kp k313)
        refine wl_loadN [(.int .i64 x_aA.Kind), (.int .i64 x_aA.Id), (.int .i64 x_aA.Role), (.slice a1 x_aA.Cn.length c2), (.slice a6 x_aA.Sn.length c7), (.int .i64 x_aA.Epoch), (.int .i64 x_aA.Seq), (.slice a11 x_aA.Body.length c12), (.slice a16 x_aA.Key.length c17), (.int .i64 x_aA.A.Host), (.int .i64 x_aA.A.Port), (.int .i64 x_aA.Now)] (want_none rfl) rfl rfl rfl rfl isAgg_58 sizeOf_58 b360 rfl ?_
        refine wl_call (want_none rfl) (args := #[(.agg #[(.int .i64 x_aA.Kind), (.int .i64 x_aA.Id), (.int .i64 x_aA.Role), (.slice a1 x_aA.Cn.length c2), (.slice a6 x_aA.Sn.length c7), (.int .i64 x_aA.Epoch), (.int .i64 x_aA.Seq), (.slice a11 x_aA.Body.length c12), (.slice a16 x_aA.Key.length c17), (.int .i64 x_aA.A.Host), (.int .i64 x_aA.A.Port), (.int .i64 x_aA.Now)])]) rfl rfl (by kernel_rfl) (C_laws_toNote w5 (.agg #[(.int .i64 x_aA.Kind), (.int .i64 x_aA.Id), (.int .i64 x_aA.Role), (.slice a1 x_aA.Cn.length c2), (.slice a6 x_aA.Sn.length c7), (.int .i64 x_aA.Epoch), (.int .i64 x_aA.Seq), (.slice a11 x_aA.Body.length c12), (.slice a16 x_aA.Key.length c17), (.int .i64 x_aA.A.Host), (.int .i64 x_aA.A.Port), (.int .i64 x_aA.Now)]) x_aA (show R_58 w5 (.agg #[(.int .i64 x_aA.Kind), (.int .i64 x_aA.Id), (.int .i64 x_aA.Role), (.slice a1 x_aA.Cn.length c2), (.slice a6 x_aA.Sn.length c7), (.int .i64 x_aA.Epoch), (.int .i64 x_aA.Seq), (.slice a11 x_aA.Body.length c12), (.slice a16 x_aA.Key.length c17), (.int .i64 x_aA.A.Host), (.int .i64 x_aA.A.Port), (.int .i64 x_aA.Now)]) x_aA from ⟨_, _, _, _, _, _, _, _, rfl, (r3.from0 m314), (by omega), (r8.from0 m314), (by omega), (r13.from0 m314), (by omega), (r18.from0 m314), (by omega)⟩)) ?_
        rintro _ w6 ⟨k361, ⟨a362, c363, a367, c368, a372, c373, a377, c378, rfl, o364, s365, o369, s370, o374, s375, o379, s380, ap382⟩⟩
        have m383 := m314.extk k361
        refine wl_alloc (want_none rfl) (.agg #[(.int .i64 0), (.int .i64 0), (.int .i64 0), (.slice none 0 0), (.slice none 0 0), (.int .i64 0), (.int .i64 0), (.slice none 0 0), (.slice none 0 0), (.int .i64 0), (.int .i64 0), (.int .i64 0)]) [(.int .i64 0), (.int .i64 0), (.int .i64 0), (.slice none 0 0), (.slice none 0 0), (.int .i64 0), (.int .i64 0), (.slice none 0 0), (.slice none 0 0), (.int .i64 0), (.int .i64 0), (.int .i64 0)] zero_63 rfl rfl rfl rfl ?_
        intro g384 w7 p385 p386 k387 b388
        have m389 := m383.extk k387
        refine wl_store (.agg #[(.int .i64 ((F_laws_toNote x_aA).Kind)), (.int .i64 ((F_laws_toNote x_aA).Id)), (.int .i64 ((F_laws_toNote x_aA).Role)), (.slice a362 ((F_laws_toNote x_aA).Cn).length c363), (.slice a367 ((F_laws_toNote x_aA).Sn).length c368), (.int .i64 ((F_laws_toNote x_aA).Epoch)), (.int .i64 ((F_laws_toNote x_aA).Seq)), (.slice a372 ((F_laws_toNote x_aA).Body).length c373), (.slice a377 ((F_laws_toNote x_aA).Key).length c378), (.int .i64 (((F_laws_toNote x_aA).A).Host)), (.int .i64 (((F_laws_toNote x_aA).A).Port)), (.int .i64 ((F_laws_toNote x_aA).Now))]) [(.int .i64 ((F_laws_toNote x_aA).Kind)), (.int .i64 ((F_laws_toNote x_aA).Id)), (.int .i64 ((F_laws_toNote x_aA).Role)), (.slice a362 ((F_laws_toNote x_aA).Cn).length c363), (.slice a367 ((F_laws_toNote x_aA).Sn).length c368), (.int .i64 ((F_laws_toNote x_aA).Epoch)), (.int .i64 ((F_laws_toNote x_aA).Seq)), (.slice a372 ((F_laws_toNote x_aA).Body).length c373), (.slice a377 ((F_laws_toNote x_aA).Key).length c378), (.int .i64 (((F_laws_toNote x_aA).A).Host)), (.int .i64 (((F_laws_toNote x_aA).A).Port)), (.int .i64 ((F_laws_toNote x_aA).Now))] [(.int .i64 ((F_laws_toNote x_aA).Kind)), (.int .i64 ((F_laws_toNote x_aA).Id)), (.int .i64 ((F_laws_toNote x_aA).Role)), (.slice a362 ((F_laws_toNote x_aA).Cn).length c363), (.slice a367 ((F_laws_toNote x_aA).Sn).length c368), (.int .i64 ((F_laws_toNote x_aA).Epoch)), (.int .i64 ((F_laws_toNote x_aA).Seq)), (.slice a372 ((F_laws_toNote x_aA).Body).length c373), (.slice a377 ((F_laws_toNote x_aA).Key).length c378), (.int .i64 (((F_laws_toNote x_aA).A).Host)), (.int .i64 (((F_laws_toNote x_aA).A).Port)), (.int .i64 ((F_laws_toNote x_aA).Now))] (want_none rfl) rfl rfl rfl rfl rfl (one_cons rfl (one_cons rfl (one_cons rfl (one_cons rfl (one_cons rfl (one_cons rfl (one_cons rfl (one_cons rfl (one_cons rfl (one_cons rfl (one_cons rfl (one_cons rfl one_nil)))))))))))) sizeOf_63 b388 rfl rfl ?_
        intro w8 k390 b391 z392
        have m393 := m389.ext k390 (fun k hk => by subst hk; exact Nat.le_trans (Nat.le_trans (Nat.le_trans (Nat.le_trans (Nat.le_trans (Nat.le_trans k44.size k50.size) k54.size) k62.size) k313.size) k361.size) p385)
        refine wl_nil ?_
        refine wq_then ?_
        refine wc_seq ?_
        refine wc_region ?_
        have b394 := (((((b61.kp k62).kp k313).kp k361).kp k387).ch k390 (Nat.ne_of_lt (Nat.lt_of_lt_of_le p49 (Nat.le_trans (Nat.le_trans (Nat.le_trans (Nat.le_trans k54.size k62.size) k313.size) k361.size) p385))))
        refine wl_loadN [(.int .i64 x_aB.Kind), (.int .i64 x_aB.Id), (.int .i64 x_aB.Role), (.slice a21 x_aB.Cn.length c22), (.slice a26 x_aB.Sn.length c27), (.int .i64 x_aB.Epoch), (.int .i64 x_aB.Seq), (.slice a31 x_aB.Body.length c32), (.slice a36 x_aB.Key.length c37), (.int .i64 x_aB.A.Host), (.int .i64 x_aB.A.Port), (.int .i64 x_aB.Now)] (want_none rfl) rfl rfl rfl rfl isAgg_58 sizeOf_58 b394 rfl ?_
        refine wl_call (want_none rfl) (args := #[(.agg #[(.int .i64 x_aB.Kind), (.int .i64 x_aB.Id), (.int .i64 x_aB.Role), (.slice a21 x_aB.Cn.length c22), (.slice a26 x_aB.Sn.length c27), (.int .i64 x_aB.Epoch), (.int .i64 x_aB.Seq), (.slice a31 x_aB.Body.length c32), (.slice a36 x_aB.Key.length c37), (.int .i64 x_aB.A.Host), (.int .i64 x_aB.A.Port), (.int .i64 x_aB.Now)])]) rfl rfl (by kernel_rfl) (C_laws_toNote w8 (.agg #[(.int .i64 x_aB.Kind), (.int .i64 x_aB.Id), (.int .i64 x_aB.Role), (.slice a21 x_aB.Cn.length c22), (.slice a26 x_aB.Sn.length c27), (.int .i64 x_aB.Epoch), (.int .i64 x_aB.Seq), (.slice a31 x_aB.Body.length c32), (.slice a36 x_aB.Key.length c37), (.int .i64 x_aB.A.Host), (.int .i64 x_aB.A.Port), (.int .i64 x_aB.Now)]) x_aB (show R_58 w8 (.agg #[(.int .i64 x_aB.Kind), (.int .i64 x_aB.Id), (.int .i64 x_aB.Role), (.slice a21 x_aB.Cn.length c22), (.slice a26 x_aB.Sn.length c27), (.int .i64 x_aB.Epoch), (.int .i64 x_aB.Seq), (.slice a31 x_aB.Body.length c32), (.slice a36 x_aB.Key.length c37), (.int .i64 x_aB.A.Host), (.int .i64 x_aB.A.Port), (.int .i64 x_aB.Now)]) x_aB from ⟨_, _, _, _, _, _, _, _, rfl, (r23.from0 m393), (by omega), (r28.from0 m393), (by omega), (r33.from0 m393), (by omega), (r38.from0 m393), (by omega)⟩)) ?_
        rintro _ w9 ⟨k395, ⟨a396, c397, a401, c402, a406, c407, a411, c412, rfl, o398, s399, o403, s404, o408, s409, o413, s414, ap416⟩⟩
        have m417 := m393.extk k395
        refine wl_alloc (want_none rfl) (.agg #[(.int .i64 0), (.int .i64 0), (.int .i64 0), (.slice none 0 0), (.slice none 0 0), (.int .i64 0), (.int .i64 0), (.slice none 0 0), (.slice none 0 0), (.int .i64 0), (.int .i64 0), (.int .i64 0)]) [(.int .i64 0), (.int .i64 0), (.int .i64 0), (.slice none 0 0), (.slice none 0 0), (.int .i64 0), (.int .i64 0), (.slice none 0 0), (.slice none 0 0), (.int .i64 0), (.int .i64 0), (.int .i64 0)] zero_63 rfl rfl rfl rfl ?_
        intro g418 w10 p419 p420 k421 b422
        have m423 := m417.extk k421
        refine wl_store (.agg #[(.int .i64 ((F_laws_toNote x_aB).Kind)), (.int .i64 ((F_laws_toNote x_aB).Id)), (.int .i64 ((F_laws_toNote x_aB).Role)), (.slice a396 ((F_laws_toNote x_aB).Cn).length c397), (.slice a401 ((F_laws_toNote x_aB).Sn).length c402), (.int .i64 ((F_laws_toNote x_aB).Epoch)), (.int .i64 ((F_laws_toNote x_aB).Seq)), (.slice a406 ((F_laws_toNote x_aB).Body).length c407), (.slice a411 ((F_laws_toNote x_aB).Key).length c412), (.int .i64 (((F_laws_toNote x_aB).A).Host)), (.int .i64 (((F_laws_toNote x_aB).A).Port)), (.int .i64 ((F_laws_toNote x_aB).Now))]) [(.int .i64 ((F_laws_toNote x_aB).Kind)), (.int .i64 ((F_laws_toNote x_aB).Id)), (.int .i64 ((F_laws_toNote x_aB).Role)), (.slice a396 ((F_laws_toNote x_aB).Cn).length c397), (.slice a401 ((F_laws_toNote x_aB).Sn).length c402), (.int .i64 ((F_laws_toNote x_aB).Epoch)), (.int .i64 ((F_laws_toNote x_aB).Seq)), (.slice a406 ((F_laws_toNote x_aB).Body).length c407), (.slice a411 ((F_laws_toNote x_aB).Key).length c412), (.int .i64 (((F_laws_toNote x_aB).A).Host)), (.int .i64 (((F_laws_toNote x_aB).A).Port)), (.int .i64 ((F_laws_toNote x_aB).Now))] [(.int .i64 ((F_laws_toNote x_aB).Kind)), (.int .i64 ((F_laws_toNote x_aB).Id)), (.int .i64 ((F_laws_toNote x_aB).Role)), (.slice a396 ((F_laws_toNote x_aB).Cn).length c397), (.slice a401 ((F_laws_toNote x_aB).Sn).length c402), (.int .i64 ((F_laws_toNote x_aB).Epoch)), (.int .i64 ((F_laws_toNote x_aB).Seq)), (.slice a406 ((F_laws_toNote x_aB).Body).length c407), (.slice a411 ((F_laws_toNote x_aB).Key).length c412), (.int .i64 (((F_laws_toNote x_aB).A).Host)), (.int .i64 (((F_laws_toNote x_aB).A).Port)), (.int .i64 ((F_laws_toNote x_aB).Now))] (want_none rfl) rfl rfl rfl rfl rfl (one_cons rfl (one_cons rfl (one_cons rfl (one_cons rfl (one_cons rfl (one_cons rfl (one_cons rfl (one_cons rfl (one_cons rfl (one_cons rfl (one_cons rfl (one_cons rfl one_nil)))))))))))) sizeOf_63 b422 rfl rfl ?_
        intro w11 k424 b425 z426
        have m427 := m423.ext k424 (fun k hk => by subst hk; exact Nat.le_trans (Nat.le_trans (Nat.le_trans (Nat.le_trans (Nat.le_trans (Nat.le_trans (Nat.le_trans (Nat.le_trans (Nat.le_trans k44.size k50.size) k54.size) k62.size) k313.size) k361.size) k387.size) k390.size) k395.size) p419)
        refine wl_nil ?_
        refine wq_then ?_
        refine wc_seq ?_
        refine wc_region ?_
        have b428 := (((b391.kp k395).kp k421).ch k424 (Nat.ne_of_lt (Nat.lt_of_lt_of_le p386 (Nat.le_trans (Nat.le_trans k390.size k395.size) p419))))
        refine wl_loadN [(.int .i64 ((F_laws_toNote x_aA).Kind)), (.int .i64 ((F_laws_toNote x_aA).Id)), (.int .i64 ((F_laws_toNote x_aA).Role)), (.slice a362 ((F_laws_toNote x_aA).Cn).length c363), (.slice a367 ((F_laws_toNote x_aA).Sn).length c368), (.int .i64 ((F_laws_toNote x_aA).Epoch)), (.int .i64 ((F_laws_toNote x_aA).Seq)), (.slice a372 ((F_laws_toNote x_aA).Body).length c373), (.slice a377 ((F_laws_toNote x_aA).Key).length c378), (.int .i64 (((F_laws_toNote x_aA).A).Host)), (.int .i64 (((F_laws_toNote x_aA).A).Port)), (.int .i64 ((F_laws_toNote x_aA).Now))] (want_none rfl) rfl rfl rfl rfl isAgg_63 sizeOf_63 b428 rfl ?_
        refine wl_loadN [(.int .i64 ((F_laws_toNote x_aB).Kind)), (.int .i64 ((F_laws_toNote x_aB).Id)), (.int .i64 ((F_laws_toNote x_aB).Role)), (.slice a396 ((F_laws_toNote x_aB).Cn).length c397), (.slice a401 ((F_laws_toNote x_aB).Sn).length c402), (.int .i64 ((F_laws_toNote x_aB).Epoch)), (.int .i64 ((F_laws_toNote x_aB).Seq)), (.slice a406 ((F_laws_toNote x_aB).Body).length c407), (.slice a411 ((F_laws_toNote x_aB).Key).length c412), (.int .i64 (((F_laws_toNote x_aB).A).Host)), (.int .i64 (((F_laws_toNote x_aB).A).Port)), (.int .i64 ((F_laws_toNote x_aB).Now))] (want_none rfl) rfl rfl rfl rfl isAgg_63 sizeOf_63 b425 rfl ?_
        have o429 := (own_ch (own_kp (own_kp (own_ch (own_kp o364 k387) k390 (fun g hg hlt hk => by have h1 := (own_lt o364 g hg).2; have h2 := Nat.le_trans (Nat.le_refl _) p385; omega)) k395) k421) k424 (fun g hg hlt hk => by have h1 := (own_lt o364 g hg).2; have h2 := Nat.le_trans (Nat.le_trans (Nat.le_trans k387.size k390.size) k395.size) p419; omega))
        have o430 := (own_ch (own_kp (own_kp (own_ch (own_kp o369 k387) k390 (fun g hg hlt hk => by have h1 := (own_lt o369 g hg).2; have h2 := Nat.le_trans (Nat.le_refl _) p385; omega)) k395) k421) k424 (fun g hg hlt hk => by have h1 := (own_lt o369 g hg).2; have h2 := Nat.le_trans (Nat.le_trans (Nat.le_trans k387.size k390.size) k395.size) p419; omega))
        have o431 := (own_ch (own_kp (own_kp (own_ch (own_kp o374 k387) k390 (fun g hg hlt hk => by have h1 := (own_lt o374 g hg).2; have h2 := Nat.le_trans (Nat.le_refl _) p385; omega)) k395) k421) k424 (fun g hg hlt hk => by have h1 := (own_lt o374 g hg).2; have h2 := Nat.le_trans (Nat.le_trans (Nat.le_trans k387.size k390.size) k395.size) p419; omega))
        have o432 := (own_ch (own_kp (own_kp (own_ch (own_kp o379 k387) k390 (fun g hg hlt hk => by have h1 := (own_lt o379 g hg).2; have h2 := Nat.le_trans (Nat.le_refl _) p385; omega)) k395) k421) k424 (fun g hg hlt hk => by have h1 := (own_lt o379 g hg).2; have h2 := Nat.le_trans (Nat.le_trans (Nat.le_trans k387.size k390.size) k395.size) p419; omega))
        have o433 := (own_ch (own_kp o398 k421) k424 (fun g hg hlt hk => by have h1 := (own_lt o398 g hg).2; have h2 := Nat.le_trans (Nat.le_refl _) p419; omega))
        have o434 := (own_ch (own_kp o403 k421) k424 (fun g hg hlt hk => by have h1 := (own_lt o403 g hg).2; have h2 := Nat.le_trans (Nat.le_refl _) p419; omega))
        have o435 := (own_ch (own_kp o408 k421) k424 (fun g hg hlt hk => by have h1 := (own_lt o408 g hg).2; have h2 := Nat.le_trans (Nat.le_refl _) p419; omega))
        have o436 := (own_ch (own_kp o413 k421) k424 (fun g hg hlt hk => by have h1 := (own_lt o413 g hg).2; have h2 := Nat.le_trans (Nat.le_refl _) p419; omega))
        refine wl_call (want_none rfl) (args := #[(.agg #[(.int .i64 ((F_laws_toNote x_aA).Kind)), (.int .i64 ((F_laws_toNote x_aA).Id)), (.int .i64 ((F_laws_toNote x_aA).Role)), (.slice a362 ((F_laws_toNote x_aA).Cn).length c363), (.slice a367 ((F_laws_toNote x_aA).Sn).length c368), (.int .i64 ((F_laws_toNote x_aA).Epoch)), (.int .i64 ((F_laws_toNote x_aA).Seq)), (.slice a372 ((F_laws_toNote x_aA).Body).length c373), (.slice a377 ((F_laws_toNote x_aA).Key).length c378), (.int .i64 (((F_laws_toNote x_aA).A).Host)), (.int .i64 (((F_laws_toNote x_aA).A).Port)), (.int .i64 ((F_laws_toNote x_aA).Now))]), (.agg #[(.int .i64 ((F_laws_toNote x_aB).Kind)), (.int .i64 ((F_laws_toNote x_aB).Id)), (.int .i64 ((F_laws_toNote x_aB).Role)), (.slice a396 ((F_laws_toNote x_aB).Cn).length c397), (.slice a401 ((F_laws_toNote x_aB).Sn).length c402), (.int .i64 ((F_laws_toNote x_aB).Epoch)), (.int .i64 ((F_laws_toNote x_aB).Seq)), (.slice a406 ((F_laws_toNote x_aB).Body).length c407), (.slice a411 ((F_laws_toNote x_aB).Key).length c412), (.int .i64 (((F_laws_toNote x_aB).A).Host)), (.int .i64 (((F_laws_toNote x_aB).A).Port)), (.int .i64 ((F_laws_toNote x_aB).Now))])]) rfl rfl (by kernel_rfl) (C_impl_SameNote w11 (.agg #[(.int .i64 ((F_laws_toNote x_aA).Kind)), (.int .i64 ((F_laws_toNote x_aA).Id)), (.int .i64 ((F_laws_toNote x_aA).Role)), (.slice a362 ((F_laws_toNote x_aA).Cn).length c363), (.slice a367 ((F_laws_toNote x_aA).Sn).length c368), (.int .i64 ((F_laws_toNote x_aA).Epoch)), (.int .i64 ((F_laws_toNote x_aA).Seq)), (.slice a372 ((F_laws_toNote x_aA).Body).length c373), (.slice a377 ((F_laws_toNote x_aA).Key).length c378), (.int .i64 (((F_laws_toNote x_aA).A).Host)), (.int .i64 (((F_laws_toNote x_aA).A).Port)), (.int .i64 ((F_laws_toNote x_aA).Now))]) (F_laws_toNote x_aA) (show R_63 w11 (.agg #[(.int .i64 ((F_laws_toNote x_aA).Kind)), (.int .i64 ((F_laws_toNote x_aA).Id)), (.int .i64 ((F_laws_toNote x_aA).Role)), (.slice a362 ((F_laws_toNote x_aA).Cn).length c363), (.slice a367 ((F_laws_toNote x_aA).Sn).length c368), (.int .i64 ((F_laws_toNote x_aA).Epoch)), (.int .i64 ((F_laws_toNote x_aA).Seq)), (.slice a372 ((F_laws_toNote x_aA).Body).length c373), (.slice a377 ((F_laws_toNote x_aA).Key).length c378), (.int .i64 (((F_laws_toNote x_aA).A).Host)), (.int .i64 (((F_laws_toNote x_aA).A).Port)), (.int .i64 ((F_laws_toNote x_aA).Now))]) (F_laws_toNote x_aA) from ⟨_, _, _, _, _, _, _, _, rfl, (Rd.of_own o429), s365, (Rd.of_own o430), s370, (Rd.of_own o431), s375, (Rd.of_own o432), s380⟩) (.agg #[(.int .i64 ((F_laws_toNote x_aB).Kind)), (.int .i64 ((F_laws_toNote x_aB).Id)), (.int .i64 ((F_laws_toNote x_aB).Role)), (.slice a396 ((F_laws_toNote x_aB).Cn).length c397), (.slice a401 ((F_laws_toNote x_aB).Sn).length c402), (.int .i64 ((F_laws_toNote x_aB).Epoch)), (.int .i64 ((F_laws_toNote x_aB).Seq)), (.slice a406 ((F_laws_toNote x_aB).Body).length c407), (.slice a411 ((F_laws_toNote x_aB).Key).length c412), (.int .i64 (((F_laws_toNote x_aB).A).Host)), (.int .i64 (((F_laws_toNote x_aB).A).Port)), (.int .i64 ((F_laws_toNote x_aB).Now))]) (F_laws_toNote x_aB) (show R_63 w11 (.agg #[(.int .i64 ((F_laws_toNote x_aB).Kind)), (.int .i64 ((F_laws_toNote x_aB).Id)), (.int .i64 ((F_laws_toNote x_aB).Role)), (.slice a396 ((F_laws_toNote x_aB).Cn).length c397), (.slice a401 ((F_laws_toNote x_aB).Sn).length c402), (.int .i64 ((F_laws_toNote x_aB).Epoch)), (.int .i64 ((F_laws_toNote x_aB).Seq)), (.slice a406 ((F_laws_toNote x_aB).Body).length c407), (.slice a411 ((F_laws_toNote x_aB).Key).length c412), (.int .i64 (((F_laws_toNote x_aB).A).Host)), (.int .i64 (((F_laws_toNote x_aB).A).Port)), (.int .i64 ((F_laws_toNote x_aB).Now))]) (F_laws_toNote x_aB) from ⟨_, _, _, _, _, _, _, _, rfl, (Rd.of_own o433), s399, (Rd.of_own o434), s404, (Rd.of_own o435), s409, (Rd.of_own o436), s414⟩)) ?_
        rintro _ w12 ⟨k437, rfl⟩
        have m438 := m427.extk k437
        refine wl_mv (.bool (F_impl_SameNote (F_laws_toNote x_aA) (F_laws_toNote x_aB))) (want_none rfl) rfl rfl (.inr rfl) rfl ?_
        refine wl_nil ?_
        refine wq_then ?_
        refine wc_seq ?_
        refine wc_seq ?_
        refine wc_region ?_
        refine wl_mv (.bool (F_impl_SameNote (F_laws_toNote x_aA) (F_laws_toNote x_aB))) (want_none rfl) rfl rfl (.inl rfl) rfl ?_
        refine wl_mv (.bool (F_spec_SameNote (F_laws_toNote x_aA) (F_laws_toNote x_aB))) (want_none rfl) rfl rfl (.inl rfl) rfl ?_
        refine wl_pure (.bool (!((F_impl_SameNote (F_laws_toNote x_aA) (F_laws_toNote x_aB)) == (F_spec_SameNote (F_laws_toNote x_aA) (F_laws_toNote x_aB))))) (want_none rfl) rfl rfl (by kernel_rfl) ?_
        refine wl_nil ?_
        refine wq_then ?_
        rcases Bool.eq_false_or_eq_true ((F_impl_SameNote (F_laws_toNote x_aA) (F_laws_toNote x_aB)) == (F_spec_SameNote (F_laws_toNote x_aA) (F_laws_toNote x_aB))) with h439 | h439
        · skip
          refine wc_false (congrArg (fun b => Value.bool (!b)) h439) ?_
          refine wc_skip ?_
          refine wq_then ?_
          refine wc_seq ?_
          refine wc_seq ?_
          refine wc_draw ([(35, [], [], (fun _ v _ => v = (.agg #[(.int .i64 ((F_laws_toNote x_aA).Kind)), (.int .i64 ((F_laws_toNote x_aA).Id)), (.int .i64 ((F_laws_toNote x_aA).Role)), (.slice a362 ((F_laws_toNote x_aA).Cn).length c363), (.slice a367 ((F_laws_toNote x_aA).Sn).length c368), (.int .i64 ((F_laws_toNote x_aA).Epoch)), (.int .i64 ((F_laws_toNote x_aA).Seq)), (.slice a372 ((F_laws_toNote x_aA).Body).length c373), (.slice a377 ((F_laws_toNote x_aA).Key).length c378), (.int .i64 (((F_laws_toNote x_aA).A).Host)), (.int .i64 (((F_laws_toNote x_aA).A).Port)), (.int .i64 ((F_laws_toNote x_aA).Now))]))), (36, [], [], (fun _ v _ => v = (.agg #[(.int .i64 x_aA.Kind), (.int .i64 x_aA.Id), (.int .i64 x_aA.Role), (.slice a1 x_aA.Cn.length c2), (.slice a6 x_aA.Sn.length c7), (.int .i64 x_aA.Epoch), (.int .i64 x_aA.Seq), (.slice a11 x_aA.Body.length c12), (.slice a16 x_aA.Key.length c17), (.int .i64 x_aA.A.Host), (.int .i64 x_aA.A.Port), (.int .i64 x_aA.Now)]))), (37, [], [1], (fun _ v w => ∃ (a1 : Option Addr) (c1 : Nat) (a2 : Option Addr) (c2 : Nat) (a3 : Option Addr) (c3 : Nat) (a4 : Option Addr) (c4 : Nat), v = .agg #[.int .i64 ((F_laws_toNote x_aA).Kind), .int .i64 ((F_laws_toNote x_aA).Id), .int .i64 ((F_laws_toNote x_aA).Role), .slice a1 ((F_laws_toNote x_aA).Cn).length c1, .slice a2 ((F_laws_toNote x_aA).Sn).length c2, .int .i64 ((F_laws_toNote x_aA).Epoch), .int .i64 ((F_laws_toNote x_aA).Seq), .slice a3 ((F_laws_toNote x_aA).Body).length c3, .slice a4 ((F_laws_toNote x_aA).Key).length c4, .int .i64 (((F_laws_toNote x_aA).A).Host), .int .i64 (((F_laws_toNote x_aA).A).Port), .int .i64 ((F_laws_toNote x_aA).Now)] ∧ w.ownsRow (w12.heap.size) 5 1 (.slice a1 ((F_laws_toNote x_aA).Cn).length c1) ((F_laws_toNote x_aA).Cn).length (((F_laws_toNote x_aA).Cn).map bV) ∧ ((F_laws_toNote x_aA).Cn).length ≤ 1073741824 ∧ w.ownsRow (w12.heap.size) 5 1 (.slice a2 ((F_laws_toNote x_aA).Sn).length c2) ((F_laws_toNote x_aA).Sn).length (((F_laws_toNote x_aA).Sn).map bV) ∧ ((F_laws_toNote x_aA).Sn).length ≤ 1073741824 ∧ w.ownsRow (w12.heap.size) 5 1 (.slice a3 ((F_laws_toNote x_aA).Body).length c3) ((F_laws_toNote x_aA).Body).length (((F_laws_toNote x_aA).Body).map bV) ∧ ((F_laws_toNote x_aA).Body).length ≤ 1073741824 ∧ w.ownsRow (w12.heap.size) 5 1 (.slice a4 ((F_laws_toNote x_aA).Key).length c4) ((F_laws_toNote x_aA).Key).length (((F_laws_toNote x_aA).Key).map bV) ∧ ((F_laws_toNote x_aA).Key).length ≤ 1073741824 ∧ Aps [(a1, c1), (a2, c2), (a3, c3), (a4, c4)])), (38, [], [0, 1, 2], (fun _ v w => v = .bool (F_laws_eqNote (F_laws_toNote x_aA) (F_laws_toNote x_aA)))), (39, [], [0, 1, 2, 3], (fun _ v _ => v = (.bool (!(F_laws_eqNote (F_laws_toNote x_aA) (F_laws_toNote x_aA))))))] : GV) mixed rfl (by kernel_rfl) (by kernel_rfl) ?_ ?_ ?_
          · exact ⟨(fun _ _ _ _ h _ => h), (fun _ _ _ _ _ h => h), ⟨(fun _ _ _ _ h _ => h), (fun _ _ _ _ _ h => h), ⟨(fun e v w w1 h hk => by obtain ⟨a0x, c0x, a1x, c1x, a2x, c2x, a3x, c3x, he, o0x, l0x, o1x, l1x, o2x, l2x, o3x, l3x, hap⟩ := h; exact ⟨a0x, c0x, a1x, c1x, a2x, c2x, a3x, c3x, he, own_kp o0x hk, l0x, own_kp o1x hk, l1x, own_kp o2x hk, l2x, own_kp o3x hk, l3x, hap⟩), (fun _ _ _ _ _ h => h), ⟨(fun _ _ _ _ h _ => h), (fun _ _ _ _ _ h => h), ⟨(fun _ _ _ _ h _ => h), (fun _ _ _ _ _ h => h), trivial⟩⟩⟩⟩⟩
          · refine ⟨?_, ⟨?_, ⟨?_, ⟨?_, ⟨?_, trivial⟩⟩⟩⟩⟩
            · intro w13 k495
              have m496 := m438.extk k495
              intro u497
              intro u498
              intro u499
              intro u500
              intro u501
              show WL _ _ _ _ _ _ _
              have b502 := ((b428.kp k437).kp k495)
              refine wl_loadN [(.int .i64 ((F_laws_toNote x_aA).Kind)), (.int .i64 ((F_laws_toNote x_aA).Id)), (.int .i64 ((F_laws_toNote x_aA).Role)), (.slice a362 ((F_laws_toNote x_aA).Cn).length c363), (.slice a367 ((F_laws_toNote x_aA).Sn).length c368), (.int .i64 ((F_laws_toNote x_aA).Epoch)), (.int .i64 ((F_laws_toNote x_aA).Seq)), (.slice a372 ((F_laws_toNote x_aA).Body).length c373), (.slice a377 ((F_laws_toNote x_aA).Key).length c378), (.int .i64 (((F_laws_toNote x_aA).A).Host)), (.int .i64 (((F_laws_toNote x_aA).A).Port)), (.int .i64 ((F_laws_toNote x_aA).Now))] (want_none rfl) rfl rfl rfl rfl isAgg_63 sizeOf_63 b502 rfl ?_
              exact wl_fin (Ch.refl _ _) rfl
            · intro w13 k503
              have m504 := m438.extk k503
              intro u505
              intro u506
              intro u507
              intro u508
              intro u509
              show WL _ _ _ _ _ _ _
              have b510 := ((((((((b360.kp k361).kp k387).ch k390 (Nat.ne_of_lt (Nat.lt_of_lt_of_le p43 (Nat.le_trans (Nat.le_trans (Nat.le_trans (Nat.le_trans (Nat.le_trans k50.size k54.size) k62.size) k313.size) k361.size) p385)))).kp k395).kp k421).ch k424 (Nat.ne_of_lt (Nat.lt_of_lt_of_le p43 (Nat.le_trans (Nat.le_trans (Nat.le_trans (Nat.le_trans (Nat.le_trans (Nat.le_trans (Nat.le_trans (Nat.le_trans k50.size k54.size) k62.size) k313.size) k361.size) k387.size) k390.size) k395.size) p419)))).kp k437).kp k503)
              refine wl_loadN [(.int .i64 x_aA.Kind), (.int .i64 x_aA.Id), (.int .i64 x_aA.Role), (.slice a1 x_aA.Cn.length c2), (.slice a6 x_aA.Sn.length c7), (.int .i64 x_aA.Epoch), (.int .i64 x_aA.Seq), (.slice a11 x_aA.Body.length c12), (.slice a16 x_aA.Key.length c17), (.int .i64 x_aA.A.Host), (.int .i64 x_aA.A.Port), (.int .i64 x_aA.Now)] (want_none rfl) rfl rfl rfl rfl isAgg_58 sizeOf_58 b510 rfl ?_
              exact wl_fin (Ch.refl _ _) rfl
            · intro w13 k511
              have m512 := m438.extk k511
              intro u513
              rintro _ rfl
              intro u515
              intro u516
              intro u517
              show WL _ _ _ _ _ _ _
              refine wl_call (want_none rfl) (args := #[(.agg #[(.int .i64 x_aA.Kind), (.int .i64 x_aA.Id), (.int .i64 x_aA.Role), (.slice a1 x_aA.Cn.length c2), (.slice a6 x_aA.Sn.length c7), (.int .i64 x_aA.Epoch), (.int .i64 x_aA.Seq), (.slice a11 x_aA.Body.length c12), (.slice a16 x_aA.Key.length c17), (.int .i64 x_aA.A.Host), (.int .i64 x_aA.A.Port), (.int .i64 x_aA.Now)])]) rfl rfl (by kernel_rfl) (C_laws_toNote w13 (.agg #[(.int .i64 x_aA.Kind), (.int .i64 x_aA.Id), (.int .i64 x_aA.Role), (.slice a1 x_aA.Cn.length c2), (.slice a6 x_aA.Sn.length c7), (.int .i64 x_aA.Epoch), (.int .i64 x_aA.Seq), (.slice a11 x_aA.Body.length c12), (.slice a16 x_aA.Key.length c17), (.int .i64 x_aA.A.Host), (.int .i64 x_aA.A.Port), (.int .i64 x_aA.Now)]) x_aA (show R_58 w13 (.agg #[(.int .i64 x_aA.Kind), (.int .i64 x_aA.Id), (.int .i64 x_aA.Role), (.slice a1 x_aA.Cn.length c2), (.slice a6 x_aA.Sn.length c7), (.int .i64 x_aA.Epoch), (.int .i64 x_aA.Seq), (.slice a11 x_aA.Body.length c12), (.slice a16 x_aA.Key.length c17), (.int .i64 x_aA.A.Host), (.int .i64 x_aA.A.Port), (.int .i64 x_aA.Now)]) x_aA from ⟨_, _, _, _, _, _, _, _, rfl, (r3.from0 m512), (by omega), (r8.from0 m512), (by omega), (r13.from0 m512), (by omega), (r18.from0 m512), (by omega)⟩)) ?_
              rintro _ w14 ⟨k518, ⟨a519, c520, a524, c525, a529, c530, a534, c535, rfl, o521, s522, o526, s527, o531, s532, o536, s537, ap539⟩⟩
              have m540 := m512.extk k518
              exact wl_fin k518 ⟨_, _, _, _, _, _, _, _, rfl, (own_lo o521 k511.size), s522, (own_lo o526 k511.size), s527, (own_lo o531 k511.size), s532, (own_lo o536 k511.size), s537, ap539⟩
            · intro w13 k541
              have m542 := m438.extk k541
              rintro _ rfl
              rintro _ rfl
              rintro _ ⟨a545, c546, a550, c551, a555, c556, a560, c561, rfl, o547, s548, o552, s553, o557, s558, o562, s563, ap565⟩
              intro u566
              intro u567
              show WL _ _ _ _ _ _ _
              have o568 := (own_kp (own_kp o429 k437) k541)
              have o569 := (own_kp (own_kp o430 k437) k541)
              have o570 := (own_kp (own_kp o431 k437) k541)
              have o571 := (own_kp (own_kp o432 k437) k541)
              refine wl_call (want_none rfl) (args := #[(.agg #[(.int .i64 ((F_laws_toNote x_aA).Kind)), (.int .i64 ((F_laws_toNote x_aA).Id)), (.int .i64 ((F_laws_toNote x_aA).Role)), (.slice a362 ((F_laws_toNote x_aA).Cn).length c363), (.slice a367 ((F_laws_toNote x_aA).Sn).length c368), (.int .i64 ((F_laws_toNote x_aA).Epoch)), (.int .i64 ((F_laws_toNote x_aA).Seq)), (.slice a372 ((F_laws_toNote x_aA).Body).length c373), (.slice a377 ((F_laws_toNote x_aA).Key).length c378), (.int .i64 (((F_laws_toNote x_aA).A).Host)), (.int .i64 (((F_laws_toNote x_aA).A).Port)), (.int .i64 ((F_laws_toNote x_aA).Now))]), (.agg #[(.int .i64 ((F_laws_toNote x_aA).Kind)), (.int .i64 ((F_laws_toNote x_aA).Id)), (.int .i64 ((F_laws_toNote x_aA).Role)), (.slice a545 ((F_laws_toNote x_aA).Cn).length c546), (.slice a550 ((F_laws_toNote x_aA).Sn).length c551), (.int .i64 ((F_laws_toNote x_aA).Epoch)), (.int .i64 ((F_laws_toNote x_aA).Seq)), (.slice a555 ((F_laws_toNote x_aA).Body).length c556), (.slice a560 ((F_laws_toNote x_aA).Key).length c561), (.int .i64 (((F_laws_toNote x_aA).A).Host)), (.int .i64 (((F_laws_toNote x_aA).A).Port)), (.int .i64 ((F_laws_toNote x_aA).Now))])]) rfl rfl (by kernel_rfl) (C_laws_eqNote w13 (.agg #[(.int .i64 ((F_laws_toNote x_aA).Kind)), (.int .i64 ((F_laws_toNote x_aA).Id)), (.int .i64 ((F_laws_toNote x_aA).Role)), (.slice a362 ((F_laws_toNote x_aA).Cn).length c363), (.slice a367 ((F_laws_toNote x_aA).Sn).length c368), (.int .i64 ((F_laws_toNote x_aA).Epoch)), (.int .i64 ((F_laws_toNote x_aA).Seq)), (.slice a372 ((F_laws_toNote x_aA).Body).length c373), (.slice a377 ((F_laws_toNote x_aA).Key).length c378), (.int .i64 (((F_laws_toNote x_aA).A).Host)), (.int .i64 (((F_laws_toNote x_aA).A).Port)), (.int .i64 ((F_laws_toNote x_aA).Now))]) (F_laws_toNote x_aA) (show R_63 w13 (.agg #[(.int .i64 ((F_laws_toNote x_aA).Kind)), (.int .i64 ((F_laws_toNote x_aA).Id)), (.int .i64 ((F_laws_toNote x_aA).Role)), (.slice a362 ((F_laws_toNote x_aA).Cn).length c363), (.slice a367 ((F_laws_toNote x_aA).Sn).length c368), (.int .i64 ((F_laws_toNote x_aA).Epoch)), (.int .i64 ((F_laws_toNote x_aA).Seq)), (.slice a372 ((F_laws_toNote x_aA).Body).length c373), (.slice a377 ((F_laws_toNote x_aA).Key).length c378), (.int .i64 (((F_laws_toNote x_aA).A).Host)), (.int .i64 (((F_laws_toNote x_aA).A).Port)), (.int .i64 ((F_laws_toNote x_aA).Now))]) (F_laws_toNote x_aA) from ⟨_, _, _, _, _, _, _, _, rfl, (Rd.of_own o568), s365, (Rd.of_own o569), s370, (Rd.of_own o570), s375, (Rd.of_own o571), s380⟩) (.agg #[(.int .i64 ((F_laws_toNote x_aA).Kind)), (.int .i64 ((F_laws_toNote x_aA).Id)), (.int .i64 ((F_laws_toNote x_aA).Role)), (.slice a545 ((F_laws_toNote x_aA).Cn).length c546), (.slice a550 ((F_laws_toNote x_aA).Sn).length c551), (.int .i64 ((F_laws_toNote x_aA).Epoch)), (.int .i64 ((F_laws_toNote x_aA).Seq)), (.slice a555 ((F_laws_toNote x_aA).Body).length c556), (.slice a560 ((F_laws_toNote x_aA).Key).length c561), (.int .i64 (((F_laws_toNote x_aA).A).Host)), (.int .i64 (((F_laws_toNote x_aA).A).Port)), (.int .i64 ((F_laws_toNote x_aA).Now))]) (F_laws_toNote x_aA) (show R_63 w13 (.agg #[(.int .i64 ((F_laws_toNote x_aA).Kind)), (.int .i64 ((F_laws_toNote x_aA).Id)), (.int .i64 ((F_laws_toNote x_aA).Role)), (.slice a545 ((F_laws_toNote x_aA).Cn).length c546), (.slice a550 ((F_laws_toNote x_aA).Sn).length c551), (.int .i64 ((F_laws_toNote x_aA).Epoch)), (.int .i64 ((F_laws_toNote x_aA).Seq)), (.slice a555 ((F_laws_toNote x_aA).Body).length c556), (.slice a560 ((F_laws_toNote x_aA).Key).length c561), (.int .i64 (((F_laws_toNote x_aA).A).Host)), (.int .i64 (((F_laws_toNote x_aA).A).Port)), (.int .i64 ((F_laws_toNote x_aA).Now))]) (F_laws_toNote x_aA) from ⟨_, _, _, _, _, _, _, _, rfl, (Rd.of_own o547), s548, (Rd.of_own o552), s553, (Rd.of_own o557), s558, (Rd.of_own o562), s563⟩)) ?_
              rintro _ w14 ⟨k572, rfl⟩
              have m573 := m542.extk k572
              exact wl_fin k572 rfl
            · intro w13 k574
              have m575 := m438.extk k574
              rintro _ rfl
              rintro _ rfl
              rintro _ ⟨a578, c579, a583, c584, a588, c589, a593, c594, rfl, o580, s581, o585, s586, o590, s591, o595, s596, ap598⟩
              rintro _ rfl
              intro u599
              show WL _ _ _ _ _ _ _
              refine wl_pure (.bool (!(F_laws_eqNote (F_laws_toNote x_aA) (F_laws_toNote x_aA)))) (want_none rfl) rfl rfl (by kernel_rfl) ?_
              exact wl_fin (Ch.refl _ _) rfl
          · intro w13 k600
            have m601 := m438.extk k600
            rintro _ rfl
            rintro _ rfl
            rintro _ ⟨a604, c605, a609, c610, a614, c615, a619, c620, rfl, o606, s607, o611, s612, o616, s617, o621, s622, ap624⟩
            rintro _ rfl
            rintro _ rfl
            show WL _ _ _ _ _ _ _
            refine wl_nil ?_
            refine wq_then ?_
            rcases Bool.eq_false_or_eq_true (F_laws_eqNote (F_laws_toNote x_aA) (F_laws_toNote x_aA)) with h625 | h625
            · skip
              refine wc_false (congrArg (fun b => Value.bool (!b)) h625) ?_
              refine wc_skip ?_
              refine wq_then ?_
              refine wc_seq ?_
              refine wc_seq ?_
              refine wc_draw ([(40, [], [], (fun _ v _ => v = (.agg #[(.int .i64 ((F_laws_toNote x_aB).Kind)), (.int .i64 ((F_laws_toNote x_aB).Id)), (.int .i64 ((F_laws_toNote x_aB).Role)), (.slice a396 ((F_laws_toNote x_aB).Cn).length c397), (.slice a401 ((F_laws_toNote x_aB).Sn).length c402), (.int .i64 ((F_laws_toNote x_aB).Epoch)), (.int .i64 ((F_laws_toNote x_aB).Seq)), (.slice a406 ((F_laws_toNote x_aB).Body).length c407), (.slice a411 ((F_laws_toNote x_aB).Key).length c412), (.int .i64 (((F_laws_toNote x_aB).A).Host)), (.int .i64 (((F_laws_toNote x_aB).A).Port)), (.int .i64 ((F_laws_toNote x_aB).Now))]))), (41, [], [], (fun _ v _ => v = (.agg #[(.int .i64 x_aB.Kind), (.int .i64 x_aB.Id), (.int .i64 x_aB.Role), (.slice a21 x_aB.Cn.length c22), (.slice a26 x_aB.Sn.length c27), (.int .i64 x_aB.Epoch), (.int .i64 x_aB.Seq), (.slice a31 x_aB.Body.length c32), (.slice a36 x_aB.Key.length c37), (.int .i64 x_aB.A.Host), (.int .i64 x_aB.A.Port), (.int .i64 x_aB.Now)]))), (42, [], [1], (fun _ v w => ∃ (a1 : Option Addr) (c1 : Nat) (a2 : Option Addr) (c2 : Nat) (a3 : Option Addr) (c3 : Nat) (a4 : Option Addr) (c4 : Nat), v = .agg #[.int .i64 ((F_laws_toNote x_aB).Kind), .int .i64 ((F_laws_toNote x_aB).Id), .int .i64 ((F_laws_toNote x_aB).Role), .slice a1 ((F_laws_toNote x_aB).Cn).length c1, .slice a2 ((F_laws_toNote x_aB).Sn).length c2, .int .i64 ((F_laws_toNote x_aB).Epoch), .int .i64 ((F_laws_toNote x_aB).Seq), .slice a3 ((F_laws_toNote x_aB).Body).length c3, .slice a4 ((F_laws_toNote x_aB).Key).length c4, .int .i64 (((F_laws_toNote x_aB).A).Host), .int .i64 (((F_laws_toNote x_aB).A).Port), .int .i64 ((F_laws_toNote x_aB).Now)] ∧ w.ownsRow (w13.heap.size) 5 1 (.slice a1 ((F_laws_toNote x_aB).Cn).length c1) ((F_laws_toNote x_aB).Cn).length (((F_laws_toNote x_aB).Cn).map bV) ∧ ((F_laws_toNote x_aB).Cn).length ≤ 1073741824 ∧ w.ownsRow (w13.heap.size) 5 1 (.slice a2 ((F_laws_toNote x_aB).Sn).length c2) ((F_laws_toNote x_aB).Sn).length (((F_laws_toNote x_aB).Sn).map bV) ∧ ((F_laws_toNote x_aB).Sn).length ≤ 1073741824 ∧ w.ownsRow (w13.heap.size) 5 1 (.slice a3 ((F_laws_toNote x_aB).Body).length c3) ((F_laws_toNote x_aB).Body).length (((F_laws_toNote x_aB).Body).map bV) ∧ ((F_laws_toNote x_aB).Body).length ≤ 1073741824 ∧ w.ownsRow (w13.heap.size) 5 1 (.slice a4 ((F_laws_toNote x_aB).Key).length c4) ((F_laws_toNote x_aB).Key).length (((F_laws_toNote x_aB).Key).map bV) ∧ ((F_laws_toNote x_aB).Key).length ≤ 1073741824 ∧ Aps [(a1, c1), (a2, c2), (a3, c3), (a4, c4)])), (43, [], [0, 1, 2], (fun _ v w => v = .bool (F_laws_eqNote (F_laws_toNote x_aB) (F_laws_toNote x_aB)))), (44, [], [0, 1, 2, 3], (fun _ v _ => v = (.bool (!(F_laws_eqNote (F_laws_toNote x_aB) (F_laws_toNote x_aB))))))] : GV) mixed rfl (by kernel_rfl) (by kernel_rfl) ?_ ?_ ?_
              · exact ⟨(fun _ _ _ _ h _ => h), (fun _ _ _ _ _ h => h), ⟨(fun _ _ _ _ h _ => h), (fun _ _ _ _ _ h => h), ⟨(fun e v w w1 h hk => by obtain ⟨a0x, c0x, a1x, c1x, a2x, c2x, a3x, c3x, he, o0x, l0x, o1x, l1x, o2x, l2x, o3x, l3x, hap⟩ := h; exact ⟨a0x, c0x, a1x, c1x, a2x, c2x, a3x, c3x, he, own_kp o0x hk, l0x, own_kp o1x hk, l1x, own_kp o2x hk, l2x, own_kp o3x hk, l3x, hap⟩), (fun _ _ _ _ _ h => h), ⟨(fun _ _ _ _ h _ => h), (fun _ _ _ _ _ h => h), ⟨(fun _ _ _ _ h _ => h), (fun _ _ _ _ _ h => h), trivial⟩⟩⟩⟩⟩
              · refine ⟨?_, ⟨?_, ⟨?_, ⟨?_, ⟨?_, trivial⟩⟩⟩⟩⟩
                · intro w14 k681
                  have m682 := m601.extk k681
                  intro u683
                  intro u684
                  intro u685
                  intro u686
                  intro u687
                  show WL _ _ _ _ _ _ _
                  have b688 := (((b425.kp k437).kp k600).kp k681)
                  refine wl_loadN [(.int .i64 ((F_laws_toNote x_aB).Kind)), (.int .i64 ((F_laws_toNote x_aB).Id)), (.int .i64 ((F_laws_toNote x_aB).Role)), (.slice a396 ((F_laws_toNote x_aB).Cn).length c397), (.slice a401 ((F_laws_toNote x_aB).Sn).length c402), (.int .i64 ((F_laws_toNote x_aB).Epoch)), (.int .i64 ((F_laws_toNote x_aB).Seq)), (.slice a406 ((F_laws_toNote x_aB).Body).length c407), (.slice a411 ((F_laws_toNote x_aB).Key).length c412), (.int .i64 (((F_laws_toNote x_aB).A).Host)), (.int .i64 (((F_laws_toNote x_aB).A).Port)), (.int .i64 ((F_laws_toNote x_aB).Now))] (want_none rfl) rfl rfl rfl rfl isAgg_63 sizeOf_63 b688 rfl ?_
                  exact wl_fin (Ch.refl _ _) rfl
                · intro w14 k689
                  have m690 := m601.extk k689
                  intro u691
                  intro u692
                  intro u693
                  intro u694
                  intro u695
                  show WL _ _ _ _ _ _ _
                  have b696 := ((((((b394.kp k395).kp k421).ch k424 (Nat.ne_of_lt (Nat.lt_of_lt_of_le p49 (Nat.le_trans (Nat.le_trans (Nat.le_trans (Nat.le_trans (Nat.le_trans (Nat.le_trans (Nat.le_trans k54.size k62.size) k313.size) k361.size) k387.size) k390.size) k395.size) p419)))).kp k437).kp k600).kp k689)
                  refine wl_loadN [(.int .i64 x_aB.Kind), (.int .i64 x_aB.Id), (.int .i64 x_aB.Role), (.slice a21 x_aB.Cn.length c22), (.slice a26 x_aB.Sn.length c27), (.int .i64 x_aB.Epoch), (.int .i64 x_aB.Seq), (.slice a31 x_aB.Body.length c32), (.slice a36 x_aB.Key.length c37), (.int .i64 x_aB.A.Host), (.int .i64 x_aB.A.Port), (.int .i64 x_aB.Now)] (want_none rfl) rfl rfl rfl rfl isAgg_58 sizeOf_58 b696 rfl ?_
                  exact wl_fin (Ch.refl _ _) rfl
                · intro w14 k697
                  have m698 := m601.extk k697
                  intro u699
                  rintro _ rfl
                  intro u701
                  intro u702
                  intro u703
                  show WL _ _ _ _ _ _ _
                  refine wl_call (want_none rfl) (args := #[(.agg #[(.int .i64 x_aB.Kind), (.int .i64 x_aB.Id), (.int .i64 x_aB.Role), (.slice a21 x_aB.Cn.length c22), (.slice a26 x_aB.Sn.length c27), (.int .i64 x_aB.Epoch), (.int .i64 x_aB.Seq), (.slice a31 x_aB.Body.length c32), (.slice a36 x_aB.Key.length c37), (.int .i64 x_aB.A.Host), (.int .i64 x_aB.A.Port), (.int .i64 x_aB.Now)])]) rfl rfl (by kernel_rfl) (C_laws_toNote w14 (.agg #[(.int .i64 x_aB.Kind), (.int .i64 x_aB.Id), (.int .i64 x_aB.Role), (.slice a21 x_aB.Cn.length c22), (.slice a26 x_aB.Sn.length c27), (.int .i64 x_aB.Epoch), (.int .i64 x_aB.Seq), (.slice a31 x_aB.Body.length c32), (.slice a36 x_aB.Key.length c37), (.int .i64 x_aB.A.Host), (.int .i64 x_aB.A.Port), (.int .i64 x_aB.Now)]) x_aB (show R_58 w14 (.agg #[(.int .i64 x_aB.Kind), (.int .i64 x_aB.Id), (.int .i64 x_aB.Role), (.slice a21 x_aB.Cn.length c22), (.slice a26 x_aB.Sn.length c27), (.int .i64 x_aB.Epoch), (.int .i64 x_aB.Seq), (.slice a31 x_aB.Body.length c32), (.slice a36 x_aB.Key.length c37), (.int .i64 x_aB.A.Host), (.int .i64 x_aB.A.Port), (.int .i64 x_aB.Now)]) x_aB from ⟨_, _, _, _, _, _, _, _, rfl, (r23.from0 m698), (by omega), (r28.from0 m698), (by omega), (r33.from0 m698), (by omega), (r38.from0 m698), (by omega)⟩)) ?_
                  rintro _ w15 ⟨k704, ⟨a705, c706, a710, c711, a715, c716, a720, c721, rfl, o707, s708, o712, s713, o717, s718, o722, s723, ap725⟩⟩
                  have m726 := m698.extk k704
                  exact wl_fin k704 ⟨_, _, _, _, _, _, _, _, rfl, (own_lo o707 k697.size), s708, (own_lo o712 k697.size), s713, (own_lo o717 k697.size), s718, (own_lo o722 k697.size), s723, ap725⟩
                · intro w14 k727
                  have m728 := m601.extk k727
                  rintro _ rfl
                  rintro _ rfl
                  rintro _ ⟨a731, c732, a736, c737, a741, c742, a746, c747, rfl, o733, s734, o738, s739, o743, s744, o748, s749, ap751⟩
                  intro u752
                  intro u753
                  show WL _ _ _ _ _ _ _
                  have o754 := (own_kp (own_kp (own_kp o433 k437) k600) k727)
                  have o755 := (own_kp (own_kp (own_kp o434 k437) k600) k727)
                  have o756 := (own_kp (own_kp (own_kp o435 k437) k600) k727)
                  have o757 := (own_kp (own_kp (own_kp o436 k437) k600) k727)
                  refine wl_call (want_none rfl) (args := #[(.agg #[(.int .i64 ((F_laws_toNote x_aB).Kind)), (.int .i64 ((F_laws_toNote x_aB).Id)), (.int .i64 ((F_laws_toNote x_aB).Role)), (.slice a396 ((F_laws_toNote x_aB).Cn).length c397), (.slice a401 ((F_laws_toNote x_aB).Sn).length c402), (.int .i64 ((F_laws_toNote x_aB).Epoch)), (.int .i64 ((F_laws_toNote x_aB).Seq)), (.slice a406 ((F_laws_toNote x_aB).Body).length c407), (.slice a411 ((F_laws_toNote x_aB).Key).length c412), (.int .i64 (((F_laws_toNote x_aB).A).Host)), (.int .i64 (((F_laws_toNote x_aB).A).Port)), (.int .i64 ((F_laws_toNote x_aB).Now))]), (.agg #[(.int .i64 ((F_laws_toNote x_aB).Kind)), (.int .i64 ((F_laws_toNote x_aB).Id)), (.int .i64 ((F_laws_toNote x_aB).Role)), (.slice a731 ((F_laws_toNote x_aB).Cn).length c732), (.slice a736 ((F_laws_toNote x_aB).Sn).length c737), (.int .i64 ((F_laws_toNote x_aB).Epoch)), (.int .i64 ((F_laws_toNote x_aB).Seq)), (.slice a741 ((F_laws_toNote x_aB).Body).length c742), (.slice a746 ((F_laws_toNote x_aB).Key).length c747), (.int .i64 (((F_laws_toNote x_aB).A).Host)), (.int .i64 (((F_laws_toNote x_aB).A).Port)), (.int .i64 ((F_laws_toNote x_aB).Now))])]) rfl rfl (by kernel_rfl) (C_laws_eqNote w14 (.agg #[(.int .i64 ((F_laws_toNote x_aB).Kind)), (.int .i64 ((F_laws_toNote x_aB).Id)), (.int .i64 ((F_laws_toNote x_aB).Role)), (.slice a396 ((F_laws_toNote x_aB).Cn).length c397), (.slice a401 ((F_laws_toNote x_aB).Sn).length c402), (.int .i64 ((F_laws_toNote x_aB).Epoch)), (.int .i64 ((F_laws_toNote x_aB).Seq)), (.slice a406 ((F_laws_toNote x_aB).Body).length c407), (.slice a411 ((F_laws_toNote x_aB).Key).length c412), (.int .i64 (((F_laws_toNote x_aB).A).Host)), (.int .i64 (((F_laws_toNote x_aB).A).Port)), (.int .i64 ((F_laws_toNote x_aB).Now))]) (F_laws_toNote x_aB) (show R_63 w14 (.agg #[(.int .i64 ((F_laws_toNote x_aB).Kind)), (.int .i64 ((F_laws_toNote x_aB).Id)), (.int .i64 ((F_laws_toNote x_aB).Role)), (.slice a396 ((F_laws_toNote x_aB).Cn).length c397), (.slice a401 ((F_laws_toNote x_aB).Sn).length c402), (.int .i64 ((F_laws_toNote x_aB).Epoch)), (.int .i64 ((F_laws_toNote x_aB).Seq)), (.slice a406 ((F_laws_toNote x_aB).Body).length c407), (.slice a411 ((F_laws_toNote x_aB).Key).length c412), (.int .i64 (((F_laws_toNote x_aB).A).Host)), (.int .i64 (((F_laws_toNote x_aB).A).Port)), (.int .i64 ((F_laws_toNote x_aB).Now))]) (F_laws_toNote x_aB) from ⟨_, _, _, _, _, _, _, _, rfl, (Rd.of_own o754), s399, (Rd.of_own o755), s404, (Rd.of_own o756), s409, (Rd.of_own o757), s414⟩) (.agg #[(.int .i64 ((F_laws_toNote x_aB).Kind)), (.int .i64 ((F_laws_toNote x_aB).Id)), (.int .i64 ((F_laws_toNote x_aB).Role)), (.slice a731 ((F_laws_toNote x_aB).Cn).length c732), (.slice a736 ((F_laws_toNote x_aB).Sn).length c737), (.int .i64 ((F_laws_toNote x_aB).Epoch)), (.int .i64 ((F_laws_toNote x_aB).Seq)), (.slice a741 ((F_laws_toNote x_aB).Body).length c742), (.slice a746 ((F_laws_toNote x_aB).Key).length c747), (.int .i64 (((F_laws_toNote x_aB).A).Host)), (.int .i64 (((F_laws_toNote x_aB).A).Port)), (.int .i64 ((F_laws_toNote x_aB).Now))]) (F_laws_toNote x_aB) (show R_63 w14 (.agg #[(.int .i64 ((F_laws_toNote x_aB).Kind)), (.int .i64 ((F_laws_toNote x_aB).Id)), (.int .i64 ((F_laws_toNote x_aB).Role)), (.slice a731 ((F_laws_toNote x_aB).Cn).length c732), (.slice a736 ((F_laws_toNote x_aB).Sn).length c737), (.int .i64 ((F_laws_toNote x_aB).Epoch)), (.int .i64 ((F_laws_toNote x_aB).Seq)), (.slice a741 ((F_laws_toNote x_aB).Body).length c742), (.slice a746 ((F_laws_toNote x_aB).Key).length c747), (.int .i64 (((F_laws_toNote x_aB).A).Host)), (.int .i64 (((F_laws_toNote x_aB).A).Port)), (.int .i64 ((F_laws_toNote x_aB).Now))]) (F_laws_toNote x_aB) from ⟨_, _, _, _, _, _, _, _, rfl, (Rd.of_own o733), s734, (Rd.of_own o738), s739, (Rd.of_own o743), s744, (Rd.of_own o748), s749⟩)) ?_
                  rintro _ w15 ⟨k758, rfl⟩
                  have m759 := m728.extk k758
                  exact wl_fin k758 rfl
                · intro w14 k760
                  have m761 := m601.extk k760
                  rintro _ rfl
                  rintro _ rfl
                  rintro _ ⟨a764, c765, a769, c770, a774, c775, a779, c780, rfl, o766, s767, o771, s772, o776, s777, o781, s782, ap784⟩
                  rintro _ rfl
                  intro u785
                  show WL _ _ _ _ _ _ _
                  refine wl_pure (.bool (!(F_laws_eqNote (F_laws_toNote x_aB) (F_laws_toNote x_aB)))) (want_none rfl) rfl rfl (by kernel_rfl) ?_
                  exact wl_fin (Ch.refl _ _) rfl
              · intro w14 k786
                have m787 := m601.extk k786
                rintro _ rfl
                rintro _ rfl
                rintro _ ⟨a790, c791, a795, c796, a800, c801, a805, c806, rfl, o792, s793, o797, s798, o802, s803, o807, s808, ap810⟩
                rintro _ rfl
                rintro _ rfl
                show WL _ _ _ _ _ _ _
                refine wl_nil ?_
                refine wq_then ?_
                rcases Bool.eq_false_or_eq_true (F_laws_eqNote (F_laws_toNote x_aB) (F_laws_toNote x_aB)) with h811 | h811
                · skip
                  refine wc_false (congrArg (fun b => Value.bool (!b)) h811) ?_
                  refine wc_skip ?_
                  refine wq_then ?_
                  refine wc_seq ?_
                  refine wc_region ?_
                  refine wl_mv (.bool true) (want_none rfl) rfl rfl (.inr rfl) rfl ?_
                  refine wl_nil ?_
                  refine wq_then ?_
                  refine wc_ret ?_
                  refine ret_1 (.inl rfl) (.bool true) rfl rfl ?_
                  refine ⟨m787.keep0, ?_⟩
                  have hF813 : F_laws_FnExactSameNote x_aA x_aB = true := by simp only [F_laws_FnExactSameNote, h57, h65, h439, h625, h811, cond_true, cond_false]
                  rw [hF813]
                  exact rfl
                · skip
                  refine wc_true (congrArg (fun b => Value.bool (!b)) h811) ?_
                  refine wc_seq ?_
                  refine wc_region ?_
                  refine wl_mv (.bool false) (want_none rfl) rfl rfl (.inr rfl) rfl ?_
                  refine wl_nil ?_
                  refine wq_then ?_
                  refine wc_ret ?_
                  refine wq_then_ret ?_
                  refine ret_1 (.inl rfl) (.bool false) rfl rfl ?_
                  refine ⟨m787.keep0, ?_⟩
                  have hF815 : F_laws_FnExactSameNote x_aA x_aB = false := by simp only [F_laws_FnExactSameNote, h57, h65, h439, h625, h811, cond_true, cond_false]
                  rw [hF815]
                  exact rfl
            · skip
              refine wc_true (congrArg (fun b => Value.bool (!b)) h625) ?_
              refine wc_seq ?_
              refine wc_region ?_
              refine wl_mv (.bool false) (want_none rfl) rfl rfl (.inr rfl) rfl ?_
              refine wl_nil ?_
              refine wq_then ?_
              refine wc_ret ?_
              refine wq_then_ret ?_
              refine ret_1 (.inl rfl) (.bool false) rfl rfl ?_
              refine ⟨m601.keep0, ?_⟩
              have hF817 : F_laws_FnExactSameNote x_aA x_aB = false := by simp only [F_laws_FnExactSameNote, h57, h65, h439, h625, cond_true, cond_false]
              rw [hF817]
              exact rfl
        · skip
          refine wc_true (congrArg (fun b => Value.bool (!b)) h439) ?_
          refine wc_seq ?_
          refine wc_region ?_
          refine wl_mv (.bool false) (want_none rfl) rfl rfl (.inr rfl) rfl ?_
          refine wl_nil ?_
          refine wq_then ?_
          refine wc_ret ?_
          refine wq_then_ret ?_
          refine ret_1 (.inl rfl) (.bool false) rfl rfl ?_
          refine ⟨m438.keep0, ?_⟩
          have hF819 : F_laws_FnExactSameNote x_aA x_aB = false := by simp only [F_laws_FnExactSameNote, h57, h65, h439, cond_true, cond_false]
          rw [hF819]
          exact rfl

def F_spec_l1In (x_x : Int) (x_least : Int) (x_most : Int) : (Bool) := bif (decide (x_least ≤ x_x)) then (decide (x_x ≤ x_most)) else (false)
theorem C_spec_l1In (w0 : World) (x_x : Int) (x_least : Int) (x_most : Int)  : Fn Try.prog 65 #[(.int .i64 x_x), (.int .i64 x_least), (.int .i64 x_most)] w0 (fun v w' => Keep w0 w' ∧ O_4 w' w0.heap.size v (F_spec_l1In x_x x_least x_most)) := by
  refine fn_of (n := 15) (l := [(.int .i64 x_x), (.int .i64 x_least), (.int .i64 x_most), undef, undef, undef, undef, undef, undef, undef, undef, undef, undef, undef, undef]) Try.func65 rfl rfl (by kernel_rfl) rfl ?_
  refine wc_seq ?_
  refine wc_region ?_
  refine wl_mv (.bool false) (want_none rfl) rfl rfl (.inr rfl) rfl ?_
  refine wl_nil ?_
  refine wq_then ?_
  refine wc_seq ?_
  refine wc_region ?_
  refine wl_mv (.int .i64 x_x) (want_none rfl) rfl rfl (.inl rfl) rfl ?_
  refine wl_mv (.int .i64 x_least) (want_none rfl) rfl rfl (.inl rfl) rfl ?_
  refine wl_pure (.bool (decide (x_least ≤ x_x))) (want_none rfl) rfl rfl (by kernel_rfl) ?_
  refine wl_mv (.bool (decide (x_least ≤ x_x))) (want_none rfl) rfl rfl (.inl rfl) rfl ?_
  rcases Bool.eq_false_or_eq_true (decide (x_least ≤ x_x)) with h1 | h1
  · have q2 := of_decide_eq_true h1
    refine wl_mv (.int .i64 x_x) (want_some rfl rfl rfl (congrArg Value.bool h1)) rfl rfl (.inl rfl) rfl ?_
    refine wl_mv (.int .i64 x_most) (want_some rfl rfl rfl (congrArg Value.bool h1)) rfl rfl (.inl rfl) rfl ?_
    refine wl_pure (.bool (decide (x_x ≤ x_most))) (want_some rfl rfl rfl (congrArg Value.bool h1)) rfl rfl (by kernel_rfl) ?_
    refine wl_pick_t (.bool (decide (x_x ≤ x_most))) (want_none rfl) rfl rfl rfl (congrArg Value.bool h1) rfl ?_
    refine wl_mv (.bool (decide (x_x ≤ x_most))) (want_none rfl) rfl rfl (.inr rfl) rfl ?_
    refine wl_nil ?_
    refine wq_then ?_
    refine wc_ret ?_
    refine ret_1 (.inl rfl) (.bool (decide (x_x ≤ x_most))) rfl rfl ?_
    refine ⟨Ch.refl _ _, ?_⟩
    have hF3 : F_spec_l1In x_x x_least x_most = decide (x_x ≤ x_most) := by simp only [F_spec_l1In, h1, cond_true, cond_false]
    rw [hF3]
    exact rfl
  · have q4 := of_decide_eq_false h1
    refine wl_skip rfl rfl rfl (congrArg Value.bool h1) rfl rfl rfl ?_
    refine wl_skip rfl rfl rfl (congrArg Value.bool h1) rfl rfl rfl ?_
    refine wl_skip rfl rfl rfl (congrArg Value.bool h1) rfl rfl rfl ?_
    refine wl_pick_f (.bool false) (want_none rfl) rfl rfl rfl (congrArg Value.bool h1) rfl ?_
    refine wl_mv (.bool false) (want_none rfl) rfl rfl (.inr rfl) rfl ?_
    refine wl_nil ?_
    refine wq_then ?_
    refine wc_ret ?_
    refine ret_1 (.inl rfl) (.bool false) rfl rfl ?_
    refine ⟨Ch.refl _ _, ?_⟩
    have hF5 : F_spec_l1In x_x x_least x_most = false := by simp only [F_spec_l1In, h1, cond_true, cond_false]
    rw [hF5]
    exact rfl
theorem spec_l1In_t {n a b : Int} (h : F_spec_l1In n a b = true) : a ≤ n ∧ n ≤ b := by
  unfold F_spec_l1In at h
  by_cases h1 : a ≤ n <;> simp [h1] at h
  exact ⟨h1, h⟩
theorem spec_l1In_f {n a b : Int} (h : F_spec_l1In n a b = false) : n < a ∨ b < n := by
  unfold F_spec_l1In at h
  by_cases h1 : a ≤ n <;> simp [h1] at h <;> omega

def F_spec_l18Len (x_n : Int) (x_is : Int) : (Bool) := bif (decide (x_n = 0)) then (true) else (decide (x_n = x_is))
theorem C_spec_l18Len (w0 : World) (x_n : Int) (x_is : Int)  : Fn Try.prog 87 #[(.int .i64 x_n), (.int .i64 x_is)] w0 (fun v w' => Keep w0 w' ∧ O_4 w' w0.heap.size v (F_spec_l18Len x_n x_is)) := by
  refine fn_of (n := 12) (l := [(.int .i64 x_n), (.int .i64 x_is), undef, undef, undef, undef, undef, undef, undef, undef, undef, undef]) Try.func87 rfl rfl (by kernel_rfl) rfl ?_
  refine wc_seq ?_
  refine wc_region ?_
  refine wl_mv (.bool false) (want_none rfl) rfl rfl (.inr rfl) rfl ?_
  refine wl_nil ?_
  refine wq_then ?_
  refine wc_seq ?_
  refine wc_region ?_
  refine wl_mv (.int .i64 x_n) (want_none rfl) rfl rfl (.inl rfl) rfl ?_
  refine wl_pure (.bool (decide (x_n = 0))) (want_none rfl) rfl rfl (by kernel_rfl) ?_
  refine wl_mv (.bool (decide (x_n = 0))) (want_none rfl) rfl rfl (.inl rfl) rfl ?_
  rcases Bool.eq_false_or_eq_true (decide (x_n = 0)) with h1 | h1
  · have q2 := of_decide_eq_true h1
    refine wl_skip rfl rfl rfl (congrArg Value.bool h1) rfl rfl rfl ?_
    refine wl_skip rfl rfl rfl (congrArg Value.bool h1) rfl rfl rfl ?_
    refine wl_skip rfl rfl rfl (congrArg Value.bool h1) rfl rfl rfl ?_
    refine wl_pick_t (.bool true) (want_none rfl) rfl rfl rfl (congrArg Value.bool h1) rfl ?_
    refine wl_mv (.bool true) (want_none rfl) rfl rfl (.inr rfl) rfl ?_
    refine wl_nil ?_
    refine wq_then ?_
    refine wc_ret ?_
    refine ret_1 (.inl rfl) (.bool true) rfl rfl ?_
    refine ⟨Ch.refl _ _, ?_⟩
    have hF3 : F_spec_l18Len x_n x_is = true := by simp only [F_spec_l18Len, h1, cond_true, cond_false]
    rw [hF3]
    exact rfl
  · have q4 := of_decide_eq_false h1
    refine wl_mv (.int .i64 x_n) (want_some rfl rfl rfl (congrArg Value.bool h1)) rfl rfl (.inl rfl) rfl ?_
    refine wl_mv (.int .i64 x_is) (want_some rfl rfl rfl (congrArg Value.bool h1)) rfl rfl (.inl rfl) rfl ?_
    refine wl_pure (.bool (decide (x_n = x_is))) (want_some rfl rfl rfl (congrArg Value.bool h1)) rfl rfl (by kernel_rfl) ?_
    refine wl_pick_f (.bool (decide (x_n = x_is))) (want_none rfl) rfl rfl rfl (congrArg Value.bool h1) rfl ?_
    refine wl_mv (.bool (decide (x_n = x_is))) (want_none rfl) rfl rfl (.inr rfl) rfl ?_
    refine wl_nil ?_
    refine wq_then ?_
    refine wc_ret ?_
    refine ret_1 (.inl rfl) (.bool (decide (x_n = x_is))) rfl rfl ?_
    refine ⟨Ch.refl _ _, ?_⟩
    have hF5 : F_spec_l18Len x_n x_is = decide (x_n = x_is) := by simp only [F_spec_l18Len, h1, cond_true, cond_false]
    rw [hF5]
    exact rfl

def F_spec_AddrOk (x_a : PAddr) : (Bool) := bif (F_spec_l1In x_a.Host 0 4294967295) then ((F_spec_l1In x_a.Port 0 65535)) else (false)
theorem C_spec_AddrOk (w0 : World) (v_x_a : Value) (x_a : PAddr) (r_x_a : R_61 w0 v_x_a x_a)  : Fn Try.prog 88 #[v_x_a] w0 (fun v w' => Keep w0 w' ∧ O_4 w' w0.heap.size v (F_spec_AddrOk x_a)) := by
  obtain rfl := r_x_a
  refine fn_of (n := 11) (l := [(.agg #[(.int .i64 x_a.Host), (.int .i64 x_a.Port)]), undef, undef, undef, undef, undef, undef, undef, undef, undef, undef]) Try.func88 rfl rfl (by kernel_rfl) rfl ?_
  refine wc_seq ?_
  refine wc_region ?_
  refine wl_box (want_none rfl) [(.int .i64 x_a.Host), (.int .i64 x_a.Port)] rfl rfl rfl rfl ?_
  intro g1 w1 p2 p3 k4 b5
  have m6 := (Ch.base w0).extk k4
  refine wl_mv (.bool false) (want_none rfl) rfl rfl (.inr rfl) rfl ?_
  refine wl_nil ?_
  refine wq_then ?_
  refine wc_seq ?_
  refine wc_region ?_
  refine wl_pure (.pointer (some ⟨g1, 0, none⟩)) (want_none rfl) rfl rfl (by kernel_rfl) ?_
  refine wl_load1 (.int .i64 x_a.Host) (want_none rfl) rfl rfl rfl rfl isAgg_3 b5 rfl ?_
  refine wl_call (want_none rfl) (args := #[(.int .i64 x_a.Host), (.int .i64 0), (.int .i64 4294967295)]) rfl rfl (by kernel_rfl) (C_spec_l1In w1 x_a.Host 0 4294967295) ?_
  rintro _ w2 ⟨k7, rfl⟩
  have m8 := m6.extk k7
  refine wl_mv (.bool (F_spec_l1In x_a.Host 0 4294967295)) (want_none rfl) rfl rfl (.inl rfl) rfl ?_
  rcases Bool.eq_false_or_eq_true (F_spec_l1In x_a.Host 0 4294967295) with h9 | h9
  · have q10 := spec_l1In_t h9
    refine wl_pure (.pointer (some ⟨g1, 1, none⟩)) (want_some rfl rfl rfl (congrArg Value.bool h9)) rfl rfl (by kernel_rfl) ?_
    have b11 := (b5.kp k7)
    refine wl_load1 (.int .i64 x_a.Port) (want_some rfl rfl rfl (congrArg Value.bool h9)) rfl rfl rfl rfl isAgg_3 b11 rfl ?_
    refine wl_call (want_some rfl rfl rfl (congrArg Value.bool h9)) (args := #[(.int .i64 x_a.Port), (.int .i64 0), (.int .i64 65535)]) rfl rfl (by kernel_rfl) (C_spec_l1In w2 x_a.Port 0 65535) ?_
    rintro _ w3 ⟨k12, rfl⟩
    have m13 := m8.extk k12
    refine wl_pick_t (.bool (F_spec_l1In x_a.Port 0 65535)) (want_none rfl) rfl rfl rfl (congrArg Value.bool h9) rfl ?_
    refine wl_mv (.bool (F_spec_l1In x_a.Port 0 65535)) (want_none rfl) rfl rfl (.inr rfl) rfl ?_
    refine wl_nil ?_
    refine wq_then ?_
    refine wc_ret ?_
    refine ret_1 (.inl rfl) (.bool (F_spec_l1In x_a.Port 0 65535)) rfl rfl ?_
    refine ⟨m13.keep0, ?_⟩
    have hF14 : F_spec_AddrOk x_a = (F_spec_l1In x_a.Port 0 65535) := by simp only [F_spec_AddrOk, h9, cond_true, cond_false]
    rw [hF14]
    exact rfl
  · have q15 := spec_l1In_f h9
    refine wl_skip rfl rfl rfl (congrArg Value.bool h9) rfl rfl rfl ?_
    refine wl_skip rfl rfl rfl (congrArg Value.bool h9) rfl rfl rfl ?_
    refine wl_skip rfl rfl rfl (congrArg Value.bool h9) rfl rfl rfl ?_
    refine wl_pick_f (.bool false) (want_none rfl) rfl rfl rfl (congrArg Value.bool h9) rfl ?_
    refine wl_mv (.bool false) (want_none rfl) rfl rfl (.inr rfl) rfl ?_
    refine wl_nil ?_
    refine wq_then ?_
    refine wc_ret ?_
    refine ret_1 (.inl rfl) (.bool false) rfl rfl ?_
    refine ⟨m8.keep0, ?_⟩
    have hF16 : F_spec_AddrOk x_a = false := by simp only [F_spec_AddrOk, h9, cond_true, cond_false]
    rw [hF16]
    exact rfl

def F_spec_NoteOk (x_n : PNote) : (Bool) := bif (F_spec_l1In x_n.Kind 1 17) then (bif (F_spec_l1In x_n.Id 0 9) then (bif (F_spec_l1In x_n.Role 0 1) then (bif (F_spec_l18Len (x_n.Cn.length : Int) 12) then (bif (F_spec_l18Len (x_n.Sn.length : Int) 12) then (bif (F_spec_l1In x_n.Epoch 0 4294967295) then (bif (F_spec_l1In x_n.Seq 0 281474976710655) then (bif (decide ((x_n.Body.length : Int) ≤ 100)) then (bif (F_spec_l18Len (x_n.Key.length : Int) 32) then (bif (F_spec_AddrOk x_n.A) then ((F_spec_l1In x_n.Now 0 1000000)) else (false)) else (false)) else (false)) else (false)) else (false)) else (false)) else (false)) else (false)) else (false)) else (false)
theorem C_spec_NoteOk (w0 : World) (v_x_n : Value) (x_n : PNote) (r_x_n : R_63 w0 v_x_n x_n)  : Fn Try.prog 44 #[v_x_n] w0 (fun v w' => Keep w0 w' ∧ O_4 w' w0.heap.size v (F_spec_NoteOk x_n)) := by
  obtain ⟨a1, c2, a6, c7, a11, c12, a16, c17, rfl, r3, s4, r8, s9, r13, s14, r18, s19⟩ := r_x_n
  refine fn_of (n := 60) (l := [(.agg #[(.int .i64 x_n.Kind), (.int .i64 x_n.Id), (.int .i64 x_n.Role), (.slice a1 x_n.Cn.length c2), (.slice a6 x_n.Sn.length c7), (.int .i64 x_n.Epoch), (.int .i64 x_n.Seq), (.slice a11 x_n.Body.length c12), (.slice a16 x_n.Key.length c17), (.int .i64 x_n.A.Host), (.int .i64 x_n.A.Port), (.int .i64 x_n.Now)]), undef, undef, undef, undef, undef, undef, undef, undef, undef, undef, undef, undef, undef, undef, undef, undef, undef, undef, undef, undef, undef, undef, undef, undef, undef, undef, undef, undef, undef, undef, undef, undef, undef, undef, undef, undef, undef, undef, undef, undef, undef, undef, undef, undef, undef, undef, undef, undef, undef, undef, undef, undef, undef, undef, undef, undef, undef, undef, undef]) Try.func44 rfl rfl (by kernel_rfl) rfl ?_
  refine wc_seq ?_
  refine wc_region ?_
  refine wl_box (want_none rfl) [(.int .i64 x_n.Kind), (.int .i64 x_n.Id), (.int .i64 x_n.Role), (.slice a1 x_n.Cn.length c2), (.slice a6 x_n.Sn.length c7), (.int .i64 x_n.Epoch), (.int .i64 x_n.Seq), (.slice a11 x_n.Body.length c12), (.slice a16 x_n.Key.length c17), (.int .i64 x_n.A.Host), (.int .i64 x_n.A.Port), (.int .i64 x_n.Now)] rfl rfl rfl rfl ?_
  intro g21 w1 p22 p23 k24 b25
  have m26 := (Ch.base w0).extk k24
  refine wl_mv (.bool false) (want_none rfl) rfl rfl (.inr rfl) rfl ?_
  refine wl_nil ?_
  refine wq_then ?_
  refine wc_seq ?_
  refine wc_region ?_
  refine wl_pure (.pointer (some ⟨g21, 0, none⟩)) (want_none rfl) rfl rfl (by kernel_rfl) ?_
  refine wl_load1 (.int .i64 x_n.Kind) (want_none rfl) rfl rfl rfl rfl isAgg_3 b25 rfl ?_
  refine wl_call (want_none rfl) (args := #[(.int .i64 x_n.Kind), (.int .i64 1), (.int .i64 17)]) rfl rfl (by kernel_rfl) (C_spec_l1In w1 x_n.Kind 1 17) ?_
  rintro _ w2 ⟨k27, rfl⟩
  have m28 := m26.extk k27
  refine wl_mv (.bool (F_spec_l1In x_n.Kind 1 17)) (want_none rfl) rfl rfl (.inl rfl) rfl ?_
  rcases Bool.eq_false_or_eq_true (F_spec_l1In x_n.Kind 1 17) with h29 | h29
  · have q30 := spec_l1In_t h29
    refine wl_pure (.pointer (some ⟨g21, 1, none⟩)) (want_some rfl rfl rfl (congrArg Value.bool h29)) rfl rfl (by kernel_rfl) ?_
    have b31 := (b25.kp k27)
    refine wl_load1 (.int .i64 x_n.Id) (want_some rfl rfl rfl (congrArg Value.bool h29)) rfl rfl rfl rfl isAgg_3 b31 rfl ?_
    refine wl_call (want_some rfl rfl rfl (congrArg Value.bool h29)) (args := #[(.int .i64 x_n.Id), (.int .i64 0), (.int .i64 9)]) rfl rfl (by kernel_rfl) (C_spec_l1In w2 x_n.Id 0 9) ?_
    rintro _ w3 ⟨k32, rfl⟩
    have m33 := m28.extk k32
    refine wl_pick_t (.bool (F_spec_l1In x_n.Id 0 9)) (want_none rfl) rfl rfl rfl (congrArg Value.bool h29) rfl ?_
    refine wl_mv (.bool (F_spec_l1In x_n.Id 0 9)) (want_none rfl) rfl rfl (.inl rfl) rfl ?_
    rcases Bool.eq_false_or_eq_true (F_spec_l1In x_n.Id 0 9) with h34 | h34
    · have q35 := spec_l1In_t h34
      refine wl_pure (.pointer (some ⟨g21, 2, none⟩)) (want_some rfl rfl rfl (congrArg Value.bool h34)) rfl rfl (by kernel_rfl) ?_
      have b36 := (b31.kp k32)
      refine wl_load1 (.int .i64 x_n.Role) (want_some rfl rfl rfl (congrArg Value.bool h34)) rfl rfl rfl rfl isAgg_3 b36 rfl ?_
      refine wl_call (want_some rfl rfl rfl (congrArg Value.bool h34)) (args := #[(.int .i64 x_n.Role), (.int .i64 0), (.int .i64 1)]) rfl rfl (by kernel_rfl) (C_spec_l1In w3 x_n.Role 0 1) ?_
      rintro _ w4 ⟨k37, rfl⟩
      have m38 := m33.extk k37
      refine wl_pick_t (.bool (F_spec_l1In x_n.Role 0 1)) (want_none rfl) rfl rfl rfl (congrArg Value.bool h34) rfl ?_
      refine wl_mv (.bool (F_spec_l1In x_n.Role 0 1)) (want_none rfl) rfl rfl (.inl rfl) rfl ?_
      rcases Bool.eq_false_or_eq_true (F_spec_l1In x_n.Role 0 1) with h39 | h39
      · have q40 := spec_l1In_t h39
        refine wl_pure (.pointer (some ⟨g21, 3, none⟩)) (want_some rfl rfl rfl (congrArg Value.bool h39)) rfl rfl (by kernel_rfl) ?_
        have b41 := (b36.kp k37)
        refine wl_load1 (.slice a1 x_n.Cn.length c2) (want_some rfl rfl rfl (congrArg Value.bool h39)) rfl rfl rfl rfl isAgg_22 b41 rfl ?_
        refine wl_len (want_some rfl rfl rfl (congrArg Value.bool h39)) rfl rfl rfl slTy_22 rfl (r3.from0 m38) ?_
        refine wl_call (want_some rfl rfl rfl (congrArg Value.bool h39)) (args := #[(.int .i64 (x_n.Cn.length : Int)), (.int .i64 12)]) rfl rfl (by kernel_rfl) (C_spec_l18Len w4 (x_n.Cn.length : Int) 12) ?_
        rintro _ w5 ⟨k42, rfl⟩
        have m43 := m38.extk k42
        refine wl_pick_t (.bool (F_spec_l18Len (x_n.Cn.length : Int) 12)) (want_none rfl) rfl rfl rfl (congrArg Value.bool h39) rfl ?_
        refine wl_mv (.bool (F_spec_l18Len (x_n.Cn.length : Int) 12)) (want_none rfl) rfl rfl (.inl rfl) rfl ?_
        rcases Bool.eq_false_or_eq_true (F_spec_l18Len (x_n.Cn.length : Int) 12) with h44 | h44
        · skip
          refine wl_pure (.pointer (some ⟨g21, 4, none⟩)) (want_some rfl rfl rfl (congrArg Value.bool h44)) rfl rfl (by kernel_rfl) ?_
          have b46 := (b41.kp k42)
          refine wl_load1 (.slice a6 x_n.Sn.length c7) (want_some rfl rfl rfl (congrArg Value.bool h44)) rfl rfl rfl rfl isAgg_22 b46 rfl ?_
          refine wl_len (want_some rfl rfl rfl (congrArg Value.bool h44)) rfl rfl rfl slTy_22 rfl (r8.from0 m43) ?_
          refine wl_call (want_some rfl rfl rfl (congrArg Value.bool h44)) (args := #[(.int .i64 (x_n.Sn.length : Int)), (.int .i64 12)]) rfl rfl (by kernel_rfl) (C_spec_l18Len w5 (x_n.Sn.length : Int) 12) ?_
          rintro _ w6 ⟨k47, rfl⟩
          have m48 := m43.extk k47
          refine wl_pick_t (.bool (F_spec_l18Len (x_n.Sn.length : Int) 12)) (want_none rfl) rfl rfl rfl (congrArg Value.bool h44) rfl ?_
          refine wl_mv (.bool (F_spec_l18Len (x_n.Sn.length : Int) 12)) (want_none rfl) rfl rfl (.inl rfl) rfl ?_
          rcases Bool.eq_false_or_eq_true (F_spec_l18Len (x_n.Sn.length : Int) 12) with h49 | h49
          · skip
            refine wl_pure (.pointer (some ⟨g21, 5, none⟩)) (want_some rfl rfl rfl (congrArg Value.bool h49)) rfl rfl (by kernel_rfl) ?_
            have b51 := (b46.kp k47)
            refine wl_load1 (.int .i64 x_n.Epoch) (want_some rfl rfl rfl (congrArg Value.bool h49)) rfl rfl rfl rfl isAgg_3 b51 rfl ?_
            refine wl_call (want_some rfl rfl rfl (congrArg Value.bool h49)) (args := #[(.int .i64 x_n.Epoch), (.int .i64 0), (.int .i64 4294967295)]) rfl rfl (by kernel_rfl) (C_spec_l1In w6 x_n.Epoch 0 4294967295) ?_
            rintro _ w7 ⟨k52, rfl⟩
            have m53 := m48.extk k52
            refine wl_pick_t (.bool (F_spec_l1In x_n.Epoch 0 4294967295)) (want_none rfl) rfl rfl rfl (congrArg Value.bool h49) rfl ?_
            refine wl_mv (.bool (F_spec_l1In x_n.Epoch 0 4294967295)) (want_none rfl) rfl rfl (.inl rfl) rfl ?_
            rcases Bool.eq_false_or_eq_true (F_spec_l1In x_n.Epoch 0 4294967295) with h54 | h54
            · have q55 := spec_l1In_t h54
              refine wl_pure (.pointer (some ⟨g21, 6, none⟩)) (want_some rfl rfl rfl (congrArg Value.bool h54)) rfl rfl (by kernel_rfl) ?_
              have b56 := (b51.kp k52)
              refine wl_load1 (.int .i64 x_n.Seq) (want_some rfl rfl rfl (congrArg Value.bool h54)) rfl rfl rfl rfl isAgg_3 b56 rfl ?_
              refine wl_call (want_some rfl rfl rfl (congrArg Value.bool h54)) (args := #[(.int .i64 x_n.Seq), (.int .i64 0), (.int .i64 281474976710655)]) rfl rfl (by kernel_rfl) (C_spec_l1In w7 x_n.Seq 0 281474976710655) ?_
              rintro _ w8 ⟨k57, rfl⟩
              have m58 := m53.extk k57
              refine wl_pick_t (.bool (F_spec_l1In x_n.Seq 0 281474976710655)) (want_none rfl) rfl rfl rfl (congrArg Value.bool h54) rfl ?_
              refine wl_mv (.bool (F_spec_l1In x_n.Seq 0 281474976710655)) (want_none rfl) rfl rfl (.inl rfl) rfl ?_
              rcases Bool.eq_false_or_eq_true (F_spec_l1In x_n.Seq 0 281474976710655) with h59 | h59
              · have q60 := spec_l1In_t h59
                refine wl_pure (.pointer (some ⟨g21, 7, none⟩)) (want_some rfl rfl rfl (congrArg Value.bool h59)) rfl rfl (by kernel_rfl) ?_
                have b61 := (b56.kp k57)
                refine wl_load1 (.slice a11 x_n.Body.length c12) (want_some rfl rfl rfl (congrArg Value.bool h59)) rfl rfl rfl rfl isAgg_22 b61 rfl ?_
                refine wl_len (want_some rfl rfl rfl (congrArg Value.bool h59)) rfl rfl rfl slTy_22 rfl (r13.from0 m58) ?_
                refine wl_pure (.bool (decide ((x_n.Body.length : Int) ≤ 100))) (want_some rfl rfl rfl (congrArg Value.bool h59)) rfl rfl (by kernel_rfl) ?_
                refine wl_pick_t (.bool (decide ((x_n.Body.length : Int) ≤ 100))) (want_none rfl) rfl rfl rfl (congrArg Value.bool h59) rfl ?_
                refine wl_mv (.bool (decide ((x_n.Body.length : Int) ≤ 100))) (want_none rfl) rfl rfl (.inl rfl) rfl ?_
                rcases Bool.eq_false_or_eq_true (decide ((x_n.Body.length : Int) ≤ 100)) with h62 | h62
                · have q63 := of_decide_eq_true h62
                  refine wl_pure (.pointer (some ⟨g21, 8, none⟩)) (want_some rfl rfl rfl (congrArg Value.bool h62)) rfl rfl (by kernel_rfl) ?_
                  refine wl_load1 (.slice a16 x_n.Key.length c17) (want_some rfl rfl rfl (congrArg Value.bool h62)) rfl rfl rfl rfl isAgg_22 b61 rfl ?_
                  refine wl_len (want_some rfl rfl rfl (congrArg Value.bool h62)) rfl rfl rfl slTy_22 rfl (r18.from0 m58) ?_
                  refine wl_call (want_some rfl rfl rfl (congrArg Value.bool h62)) (args := #[(.int .i64 (x_n.Key.length : Int)), (.int .i64 32)]) rfl rfl (by kernel_rfl) (C_spec_l18Len w8 (x_n.Key.length : Int) 32) ?_
                  rintro _ w9 ⟨k64, rfl⟩
                  have m65 := m58.extk k64
                  refine wl_pick_t (.bool (F_spec_l18Len (x_n.Key.length : Int) 32)) (want_none rfl) rfl rfl rfl (congrArg Value.bool h62) rfl ?_
                  refine wl_mv (.bool (F_spec_l18Len (x_n.Key.length : Int) 32)) (want_none rfl) rfl rfl (.inl rfl) rfl ?_
                  rcases Bool.eq_false_or_eq_true (F_spec_l18Len (x_n.Key.length : Int) 32) with h66 | h66
                  · skip
                    refine wl_pure (.pointer (some ⟨g21, 9, none⟩)) (want_some rfl rfl rfl (congrArg Value.bool h66)) rfl rfl (by kernel_rfl) ?_
                    have b68 := (b61.kp k64)
                    refine wl_loadN [(.int .i64 x_n.A.Host), (.int .i64 x_n.A.Port)] (want_some rfl rfl rfl (congrArg Value.bool h66)) rfl rfl rfl rfl isAgg_61 sizeOf_61 b68 rfl ?_
                    refine wl_call (want_some rfl rfl rfl (congrArg Value.bool h66)) (args := #[(.agg #[(.int .i64 x_n.A.Host), (.int .i64 x_n.A.Port)])]) rfl rfl (by kernel_rfl) (C_spec_AddrOk w9 (.agg #[(.int .i64 x_n.A.Host), (.int .i64 x_n.A.Port)]) x_n.A (show R_61 w9 (.agg #[(.int .i64 x_n.A.Host), (.int .i64 x_n.A.Port)]) x_n.A from rfl)) ?_
                    rintro _ w10 ⟨k69, rfl⟩
                    have m70 := m65.extk k69
                    refine wl_pick_t (.bool (F_spec_AddrOk x_n.A)) (want_none rfl) rfl rfl rfl (congrArg Value.bool h66) rfl ?_
                    refine wl_mv (.bool (F_spec_AddrOk x_n.A)) (want_none rfl) rfl rfl (.inl rfl) rfl ?_
                    rcases Bool.eq_false_or_eq_true (F_spec_AddrOk x_n.A) with h71 | h71
                    · skip
                      refine wl_pure (.pointer (some ⟨g21, 11, none⟩)) (want_some rfl rfl rfl (congrArg Value.bool h71)) rfl rfl (by kernel_rfl) ?_
                      have b73 := (b68.kp k69)
                      refine wl_load1 (.int .i64 x_n.Now) (want_some rfl rfl rfl (congrArg Value.bool h71)) rfl rfl rfl rfl isAgg_3 b73 rfl ?_
                      refine wl_call (want_some rfl rfl rfl (congrArg Value.bool h71)) (args := #[(.int .i64 x_n.Now), (.int .i64 0), (.int .i64 1000000)]) rfl rfl (by kernel_rfl) (C_spec_l1In w10 x_n.Now 0 1000000) ?_
                      rintro _ w11 ⟨k74, rfl⟩
                      have m75 := m70.extk k74
                      refine wl_pick_t (.bool (F_spec_l1In x_n.Now 0 1000000)) (want_none rfl) rfl rfl rfl (congrArg Value.bool h71) rfl ?_
                      refine wl_mv (.bool (F_spec_l1In x_n.Now 0 1000000)) (want_none rfl) rfl rfl (.inr rfl) rfl ?_
                      refine wl_nil ?_
                      refine wq_then ?_
                      refine wc_ret ?_
                      refine ret_1 (.inl rfl) (.bool (F_spec_l1In x_n.Now 0 1000000)) rfl rfl ?_
                      refine ⟨m75.keep0, ?_⟩
                      have hF76 : F_spec_NoteOk x_n = (F_spec_l1In x_n.Now 0 1000000) := by simp only [F_spec_NoteOk, h29, h34, h39, h44, h49, h54, h59, h62, h66, h71, cond_true, cond_false]
                      rw [hF76]
                      exact rfl
                    · skip
                      refine wl_skip rfl rfl rfl (congrArg Value.bool h71) rfl rfl rfl ?_
                      refine wl_skip rfl rfl rfl (congrArg Value.bool h71) rfl rfl rfl ?_
                      refine wl_skip rfl rfl rfl (congrArg Value.bool h71) rfl rfl rfl ?_
                      refine wl_pick_f (.bool false) (want_none rfl) rfl rfl rfl (congrArg Value.bool h71) rfl ?_
                      refine wl_mv (.bool false) (want_none rfl) rfl rfl (.inr rfl) rfl ?_
                      refine wl_nil ?_
                      refine wq_then ?_
                      refine wc_ret ?_
                      refine ret_1 (.inl rfl) (.bool false) rfl rfl ?_
                      refine ⟨m70.keep0, ?_⟩
                      have hF78 : F_spec_NoteOk x_n = false := by simp only [F_spec_NoteOk, h29, h34, h39, h44, h49, h54, h59, h62, h66, h71, cond_true, cond_false]
                      rw [hF78]
                      exact rfl
                  · skip
                    refine wl_skip rfl rfl rfl (congrArg Value.bool h66) rfl rfl rfl ?_
                    refine wl_skip rfl rfl rfl (congrArg Value.bool h66) rfl rfl rfl ?_
                    refine wl_skip rfl rfl rfl (congrArg Value.bool h66) rfl rfl rfl ?_
                    refine wl_pick_f (.bool false) (want_none rfl) rfl rfl rfl (congrArg Value.bool h66) rfl ?_
                    refine wl_mv (.bool false) (want_none rfl) rfl rfl (.inl rfl) rfl ?_
                    refine wl_skip rfl rfl rfl rfl rfl rfl rfl ?_
                    refine wl_skip rfl rfl rfl rfl rfl rfl rfl ?_
                    refine wl_skip rfl rfl rfl rfl rfl rfl rfl ?_
                    refine wl_pick_f (.bool false) (want_none rfl) rfl rfl rfl rfl rfl ?_
                    refine wl_mv (.bool false) (want_none rfl) rfl rfl (.inr rfl) rfl ?_
                    refine wl_nil ?_
                    refine wq_then ?_
                    refine wc_ret ?_
                    refine ret_1 (.inl rfl) (.bool false) rfl rfl ?_
                    refine ⟨m65.keep0, ?_⟩
                    have hF80 : F_spec_NoteOk x_n = false := by simp only [F_spec_NoteOk, h29, h34, h39, h44, h49, h54, h59, h62, h66, cond_true, cond_false]
                    rw [hF80]
                    exact rfl
                · have q81 := of_decide_eq_false h62
                  refine wl_skip rfl rfl rfl (congrArg Value.bool h62) rfl rfl rfl ?_
                  refine wl_skip rfl rfl rfl (congrArg Value.bool h62) rfl rfl rfl ?_
                  refine wl_skip rfl rfl rfl (congrArg Value.bool h62) rfl rfl rfl ?_
                  refine wl_skip rfl rfl rfl (congrArg Value.bool h62) rfl rfl rfl ?_
                  refine wl_pick_f (.bool false) (want_none rfl) rfl rfl rfl (congrArg Value.bool h62) rfl ?_
                  refine wl_mv (.bool false) (want_none rfl) rfl rfl (.inl rfl) rfl ?_
                  refine wl_skip rfl rfl rfl rfl rfl rfl rfl ?_
                  refine wl_skip rfl rfl rfl rfl rfl rfl rfl ?_
                  refine wl_skip rfl rfl rfl rfl rfl rfl rfl ?_
                  refine wl_pick_f (.bool false) (want_none rfl) rfl rfl rfl rfl rfl ?_
                  refine wl_mv (.bool false) (want_none rfl) rfl rfl (.inl rfl) rfl ?_
                  refine wl_skip rfl rfl rfl rfl rfl rfl rfl ?_
                  refine wl_skip rfl rfl rfl rfl rfl rfl rfl ?_
                  refine wl_skip rfl rfl rfl rfl rfl rfl rfl ?_
                  refine wl_pick_f (.bool false) (want_none rfl) rfl rfl rfl rfl rfl ?_
                  refine wl_mv (.bool false) (want_none rfl) rfl rfl (.inr rfl) rfl ?_
                  refine wl_nil ?_
                  refine wq_then ?_
                  refine wc_ret ?_
                  refine ret_1 (.inl rfl) (.bool false) rfl rfl ?_
                  refine ⟨m58.keep0, ?_⟩
                  have hF82 : F_spec_NoteOk x_n = false := by simp only [F_spec_NoteOk, h29, h34, h39, h44, h49, h54, h59, h62, cond_true, cond_false]
                  rw [hF82]
                  exact rfl
              · have q83 := spec_l1In_f h59
                refine wl_skip rfl rfl rfl (congrArg Value.bool h59) rfl rfl rfl ?_
                refine wl_skip rfl rfl rfl (congrArg Value.bool h59) rfl rfl rfl ?_
                refine wl_skip rfl rfl rfl (congrArg Value.bool h59) rfl rfl rfl ?_
                refine wl_skip rfl rfl rfl (congrArg Value.bool h59) rfl rfl rfl ?_
                refine wl_pick_f (.bool false) (want_none rfl) rfl rfl rfl (congrArg Value.bool h59) rfl ?_
                refine wl_mv (.bool false) (want_none rfl) rfl rfl (.inl rfl) rfl ?_
                refine wl_skip rfl rfl rfl rfl rfl rfl rfl ?_
                refine wl_skip rfl rfl rfl rfl rfl rfl rfl ?_
                refine wl_skip rfl rfl rfl rfl rfl rfl rfl ?_
                refine wl_skip rfl rfl rfl rfl rfl rfl rfl ?_
                refine wl_pick_f (.bool false) (want_none rfl) rfl rfl rfl rfl rfl ?_
                refine wl_mv (.bool false) (want_none rfl) rfl rfl (.inl rfl) rfl ?_
                refine wl_skip rfl rfl rfl rfl rfl rfl rfl ?_
                refine wl_skip rfl rfl rfl rfl rfl rfl rfl ?_
                refine wl_skip rfl rfl rfl rfl rfl rfl rfl ?_
                refine wl_pick_f (.bool false) (want_none rfl) rfl rfl rfl rfl rfl ?_
                refine wl_mv (.bool false) (want_none rfl) rfl rfl (.inl rfl) rfl ?_
                refine wl_skip rfl rfl rfl rfl rfl rfl rfl ?_
                refine wl_skip rfl rfl rfl rfl rfl rfl rfl ?_
                refine wl_skip rfl rfl rfl rfl rfl rfl rfl ?_
                refine wl_pick_f (.bool false) (want_none rfl) rfl rfl rfl rfl rfl ?_
                refine wl_mv (.bool false) (want_none rfl) rfl rfl (.inr rfl) rfl ?_
                refine wl_nil ?_
                refine wq_then ?_
                refine wc_ret ?_
                refine ret_1 (.inl rfl) (.bool false) rfl rfl ?_
                refine ⟨m58.keep0, ?_⟩
                have hF84 : F_spec_NoteOk x_n = false := by simp only [F_spec_NoteOk, h29, h34, h39, h44, h49, h54, h59, cond_true, cond_false]
                rw [hF84]
                exact rfl
            · have q85 := spec_l1In_f h54
              refine wl_skip rfl rfl rfl (congrArg Value.bool h54) rfl rfl rfl ?_
              refine wl_skip rfl rfl rfl (congrArg Value.bool h54) rfl rfl rfl ?_
              refine wl_skip rfl rfl rfl (congrArg Value.bool h54) rfl rfl rfl ?_
              refine wl_pick_f (.bool false) (want_none rfl) rfl rfl rfl (congrArg Value.bool h54) rfl ?_
              refine wl_mv (.bool false) (want_none rfl) rfl rfl (.inl rfl) rfl ?_
              refine wl_skip rfl rfl rfl rfl rfl rfl rfl ?_
              refine wl_skip rfl rfl rfl rfl rfl rfl rfl ?_
              refine wl_skip rfl rfl rfl rfl rfl rfl rfl ?_
              refine wl_skip rfl rfl rfl rfl rfl rfl rfl ?_
              refine wl_pick_f (.bool false) (want_none rfl) rfl rfl rfl rfl rfl ?_
              refine wl_mv (.bool false) (want_none rfl) rfl rfl (.inl rfl) rfl ?_
              refine wl_skip rfl rfl rfl rfl rfl rfl rfl ?_
              refine wl_skip rfl rfl rfl rfl rfl rfl rfl ?_
              refine wl_skip rfl rfl rfl rfl rfl rfl rfl ?_
              refine wl_skip rfl rfl rfl rfl rfl rfl rfl ?_
              refine wl_pick_f (.bool false) (want_none rfl) rfl rfl rfl rfl rfl ?_
              refine wl_mv (.bool false) (want_none rfl) rfl rfl (.inl rfl) rfl ?_
              refine wl_skip rfl rfl rfl rfl rfl rfl rfl ?_
              refine wl_skip rfl rfl rfl rfl rfl rfl rfl ?_
              refine wl_skip rfl rfl rfl rfl rfl rfl rfl ?_
              refine wl_pick_f (.bool false) (want_none rfl) rfl rfl rfl rfl rfl ?_
              refine wl_mv (.bool false) (want_none rfl) rfl rfl (.inl rfl) rfl ?_
              refine wl_skip rfl rfl rfl rfl rfl rfl rfl ?_
              refine wl_skip rfl rfl rfl rfl rfl rfl rfl ?_
              refine wl_skip rfl rfl rfl rfl rfl rfl rfl ?_
              refine wl_pick_f (.bool false) (want_none rfl) rfl rfl rfl rfl rfl ?_
              refine wl_mv (.bool false) (want_none rfl) rfl rfl (.inr rfl) rfl ?_
              refine wl_nil ?_
              refine wq_then ?_
              refine wc_ret ?_
              refine ret_1 (.inl rfl) (.bool false) rfl rfl ?_
              refine ⟨m53.keep0, ?_⟩
              have hF86 : F_spec_NoteOk x_n = false := by simp only [F_spec_NoteOk, h29, h34, h39, h44, h49, h54, cond_true, cond_false]
              rw [hF86]
              exact rfl
          · skip
            refine wl_skip rfl rfl rfl (congrArg Value.bool h49) rfl rfl rfl ?_
            refine wl_skip rfl rfl rfl (congrArg Value.bool h49) rfl rfl rfl ?_
            refine wl_skip rfl rfl rfl (congrArg Value.bool h49) rfl rfl rfl ?_
            refine wl_pick_f (.bool false) (want_none rfl) rfl rfl rfl (congrArg Value.bool h49) rfl ?_
            refine wl_mv (.bool false) (want_none rfl) rfl rfl (.inl rfl) rfl ?_
            refine wl_skip rfl rfl rfl rfl rfl rfl rfl ?_
            refine wl_skip rfl rfl rfl rfl rfl rfl rfl ?_
            refine wl_skip rfl rfl rfl rfl rfl rfl rfl ?_
            refine wl_pick_f (.bool false) (want_none rfl) rfl rfl rfl rfl rfl ?_
            refine wl_mv (.bool false) (want_none rfl) rfl rfl (.inl rfl) rfl ?_
            refine wl_skip rfl rfl rfl rfl rfl rfl rfl ?_
            refine wl_skip rfl rfl rfl rfl rfl rfl rfl ?_
            refine wl_skip rfl rfl rfl rfl rfl rfl rfl ?_
            refine wl_skip rfl rfl rfl rfl rfl rfl rfl ?_
            refine wl_pick_f (.bool false) (want_none rfl) rfl rfl rfl rfl rfl ?_
            refine wl_mv (.bool false) (want_none rfl) rfl rfl (.inl rfl) rfl ?_
            refine wl_skip rfl rfl rfl rfl rfl rfl rfl ?_
            refine wl_skip rfl rfl rfl rfl rfl rfl rfl ?_
            refine wl_skip rfl rfl rfl rfl rfl rfl rfl ?_
            refine wl_skip rfl rfl rfl rfl rfl rfl rfl ?_
            refine wl_pick_f (.bool false) (want_none rfl) rfl rfl rfl rfl rfl ?_
            refine wl_mv (.bool false) (want_none rfl) rfl rfl (.inl rfl) rfl ?_
            refine wl_skip rfl rfl rfl rfl rfl rfl rfl ?_
            refine wl_skip rfl rfl rfl rfl rfl rfl rfl ?_
            refine wl_skip rfl rfl rfl rfl rfl rfl rfl ?_
            refine wl_pick_f (.bool false) (want_none rfl) rfl rfl rfl rfl rfl ?_
            refine wl_mv (.bool false) (want_none rfl) rfl rfl (.inl rfl) rfl ?_
            refine wl_skip rfl rfl rfl rfl rfl rfl rfl ?_
            refine wl_skip rfl rfl rfl rfl rfl rfl rfl ?_
            refine wl_skip rfl rfl rfl rfl rfl rfl rfl ?_
            refine wl_pick_f (.bool false) (want_none rfl) rfl rfl rfl rfl rfl ?_
            refine wl_mv (.bool false) (want_none rfl) rfl rfl (.inr rfl) rfl ?_
            refine wl_nil ?_
            refine wq_then ?_
            refine wc_ret ?_
            refine ret_1 (.inl rfl) (.bool false) rfl rfl ?_
            refine ⟨m48.keep0, ?_⟩
            have hF88 : F_spec_NoteOk x_n = false := by simp only [F_spec_NoteOk, h29, h34, h39, h44, h49, cond_true, cond_false]
            rw [hF88]
            exact rfl
        · skip
          refine wl_skip rfl rfl rfl (congrArg Value.bool h44) rfl rfl rfl ?_
          refine wl_skip rfl rfl rfl (congrArg Value.bool h44) rfl rfl rfl ?_
          refine wl_skip rfl rfl rfl (congrArg Value.bool h44) rfl rfl rfl ?_
          refine wl_skip rfl rfl rfl (congrArg Value.bool h44) rfl rfl rfl ?_
          refine wl_pick_f (.bool false) (want_none rfl) rfl rfl rfl (congrArg Value.bool h44) rfl ?_
          refine wl_mv (.bool false) (want_none rfl) rfl rfl (.inl rfl) rfl ?_
          refine wl_skip rfl rfl rfl rfl rfl rfl rfl ?_
          refine wl_skip rfl rfl rfl rfl rfl rfl rfl ?_
          refine wl_skip rfl rfl rfl rfl rfl rfl rfl ?_
          refine wl_pick_f (.bool false) (want_none rfl) rfl rfl rfl rfl rfl ?_
          refine wl_mv (.bool false) (want_none rfl) rfl rfl (.inl rfl) rfl ?_
          refine wl_skip rfl rfl rfl rfl rfl rfl rfl ?_
          refine wl_skip rfl rfl rfl rfl rfl rfl rfl ?_
          refine wl_skip rfl rfl rfl rfl rfl rfl rfl ?_
          refine wl_pick_f (.bool false) (want_none rfl) rfl rfl rfl rfl rfl ?_
          refine wl_mv (.bool false) (want_none rfl) rfl rfl (.inl rfl) rfl ?_
          refine wl_skip rfl rfl rfl rfl rfl rfl rfl ?_
          refine wl_skip rfl rfl rfl rfl rfl rfl rfl ?_
          refine wl_skip rfl rfl rfl rfl rfl rfl rfl ?_
          refine wl_skip rfl rfl rfl rfl rfl rfl rfl ?_
          refine wl_pick_f (.bool false) (want_none rfl) rfl rfl rfl rfl rfl ?_
          refine wl_mv (.bool false) (want_none rfl) rfl rfl (.inl rfl) rfl ?_
          refine wl_skip rfl rfl rfl rfl rfl rfl rfl ?_
          refine wl_skip rfl rfl rfl rfl rfl rfl rfl ?_
          refine wl_skip rfl rfl rfl rfl rfl rfl rfl ?_
          refine wl_skip rfl rfl rfl rfl rfl rfl rfl ?_
          refine wl_pick_f (.bool false) (want_none rfl) rfl rfl rfl rfl rfl ?_
          refine wl_mv (.bool false) (want_none rfl) rfl rfl (.inl rfl) rfl ?_
          refine wl_skip rfl rfl rfl rfl rfl rfl rfl ?_
          refine wl_skip rfl rfl rfl rfl rfl rfl rfl ?_
          refine wl_skip rfl rfl rfl rfl rfl rfl rfl ?_
          refine wl_pick_f (.bool false) (want_none rfl) rfl rfl rfl rfl rfl ?_
          refine wl_mv (.bool false) (want_none rfl) rfl rfl (.inl rfl) rfl ?_
          refine wl_skip rfl rfl rfl rfl rfl rfl rfl ?_
          refine wl_skip rfl rfl rfl rfl rfl rfl rfl ?_
          refine wl_skip rfl rfl rfl rfl rfl rfl rfl ?_
          refine wl_pick_f (.bool false) (want_none rfl) rfl rfl rfl rfl rfl ?_
          refine wl_mv (.bool false) (want_none rfl) rfl rfl (.inr rfl) rfl ?_
          refine wl_nil ?_
          refine wq_then ?_
          refine wc_ret ?_
          refine ret_1 (.inl rfl) (.bool false) rfl rfl ?_
          refine ⟨m43.keep0, ?_⟩
          have hF90 : F_spec_NoteOk x_n = false := by simp only [F_spec_NoteOk, h29, h34, h39, h44, cond_true, cond_false]
          rw [hF90]
          exact rfl
      · have q91 := spec_l1In_f h39
        refine wl_skip rfl rfl rfl (congrArg Value.bool h39) rfl rfl rfl ?_
        refine wl_skip rfl rfl rfl (congrArg Value.bool h39) rfl rfl rfl ?_
        refine wl_skip rfl rfl rfl (congrArg Value.bool h39) rfl rfl rfl ?_
        refine wl_skip rfl rfl rfl (congrArg Value.bool h39) rfl rfl rfl ?_
        refine wl_pick_f (.bool false) (want_none rfl) rfl rfl rfl (congrArg Value.bool h39) rfl ?_
        refine wl_mv (.bool false) (want_none rfl) rfl rfl (.inl rfl) rfl ?_
        refine wl_skip rfl rfl rfl rfl rfl rfl rfl ?_
        refine wl_skip rfl rfl rfl rfl rfl rfl rfl ?_
        refine wl_skip rfl rfl rfl rfl rfl rfl rfl ?_
        refine wl_skip rfl rfl rfl rfl rfl rfl rfl ?_
        refine wl_pick_f (.bool false) (want_none rfl) rfl rfl rfl rfl rfl ?_
        refine wl_mv (.bool false) (want_none rfl) rfl rfl (.inl rfl) rfl ?_
        refine wl_skip rfl rfl rfl rfl rfl rfl rfl ?_
        refine wl_skip rfl rfl rfl rfl rfl rfl rfl ?_
        refine wl_skip rfl rfl rfl rfl rfl rfl rfl ?_
        refine wl_pick_f (.bool false) (want_none rfl) rfl rfl rfl rfl rfl ?_
        refine wl_mv (.bool false) (want_none rfl) rfl rfl (.inl rfl) rfl ?_
        refine wl_skip rfl rfl rfl rfl rfl rfl rfl ?_
        refine wl_skip rfl rfl rfl rfl rfl rfl rfl ?_
        refine wl_skip rfl rfl rfl rfl rfl rfl rfl ?_
        refine wl_pick_f (.bool false) (want_none rfl) rfl rfl rfl rfl rfl ?_
        refine wl_mv (.bool false) (want_none rfl) rfl rfl (.inl rfl) rfl ?_
        refine wl_skip rfl rfl rfl rfl rfl rfl rfl ?_
        refine wl_skip rfl rfl rfl rfl rfl rfl rfl ?_
        refine wl_skip rfl rfl rfl rfl rfl rfl rfl ?_
        refine wl_skip rfl rfl rfl rfl rfl rfl rfl ?_
        refine wl_pick_f (.bool false) (want_none rfl) rfl rfl rfl rfl rfl ?_
        refine wl_mv (.bool false) (want_none rfl) rfl rfl (.inl rfl) rfl ?_
        refine wl_skip rfl rfl rfl rfl rfl rfl rfl ?_
        refine wl_skip rfl rfl rfl rfl rfl rfl rfl ?_
        refine wl_skip rfl rfl rfl rfl rfl rfl rfl ?_
        refine wl_skip rfl rfl rfl rfl rfl rfl rfl ?_
        refine wl_pick_f (.bool false) (want_none rfl) rfl rfl rfl rfl rfl ?_
        refine wl_mv (.bool false) (want_none rfl) rfl rfl (.inl rfl) rfl ?_
        refine wl_skip rfl rfl rfl rfl rfl rfl rfl ?_
        refine wl_skip rfl rfl rfl rfl rfl rfl rfl ?_
        refine wl_skip rfl rfl rfl rfl rfl rfl rfl ?_
        refine wl_pick_f (.bool false) (want_none rfl) rfl rfl rfl rfl rfl ?_
        refine wl_mv (.bool false) (want_none rfl) rfl rfl (.inl rfl) rfl ?_
        refine wl_skip rfl rfl rfl rfl rfl rfl rfl ?_
        refine wl_skip rfl rfl rfl rfl rfl rfl rfl ?_
        refine wl_skip rfl rfl rfl rfl rfl rfl rfl ?_
        refine wl_pick_f (.bool false) (want_none rfl) rfl rfl rfl rfl rfl ?_
        refine wl_mv (.bool false) (want_none rfl) rfl rfl (.inr rfl) rfl ?_
        refine wl_nil ?_
        refine wq_then ?_
        refine wc_ret ?_
        refine ret_1 (.inl rfl) (.bool false) rfl rfl ?_
        refine ⟨m38.keep0, ?_⟩
        have hF92 : F_spec_NoteOk x_n = false := by simp only [F_spec_NoteOk, h29, h34, h39, cond_true, cond_false]
        rw [hF92]
        exact rfl
    · have q93 := spec_l1In_f h34
      refine wl_skip rfl rfl rfl (congrArg Value.bool h34) rfl rfl rfl ?_
      refine wl_skip rfl rfl rfl (congrArg Value.bool h34) rfl rfl rfl ?_
      refine wl_skip rfl rfl rfl (congrArg Value.bool h34) rfl rfl rfl ?_
      refine wl_pick_f (.bool false) (want_none rfl) rfl rfl rfl (congrArg Value.bool h34) rfl ?_
      refine wl_mv (.bool false) (want_none rfl) rfl rfl (.inl rfl) rfl ?_
      refine wl_skip rfl rfl rfl rfl rfl rfl rfl ?_
      refine wl_skip rfl rfl rfl rfl rfl rfl rfl ?_
      refine wl_skip rfl rfl rfl rfl rfl rfl rfl ?_
      refine wl_skip rfl rfl rfl rfl rfl rfl rfl ?_
      refine wl_pick_f (.bool false) (want_none rfl) rfl rfl rfl rfl rfl ?_
      refine wl_mv (.bool false) (want_none rfl) rfl rfl (.inl rfl) rfl ?_
      refine wl_skip rfl rfl rfl rfl rfl rfl rfl ?_
      refine wl_skip rfl rfl rfl rfl rfl rfl rfl ?_
      refine wl_skip rfl rfl rfl rfl rfl rfl rfl ?_
      refine wl_skip rfl rfl rfl rfl rfl rfl rfl ?_
      refine wl_pick_f (.bool false) (want_none rfl) rfl rfl rfl rfl rfl ?_
      refine wl_mv (.bool false) (want_none rfl) rfl rfl (.inl rfl) rfl ?_
      refine wl_skip rfl rfl rfl rfl rfl rfl rfl ?_
      refine wl_skip rfl rfl rfl rfl rfl rfl rfl ?_
      refine wl_skip rfl rfl rfl rfl rfl rfl rfl ?_
      refine wl_pick_f (.bool false) (want_none rfl) rfl rfl rfl rfl rfl ?_
      refine wl_mv (.bool false) (want_none rfl) rfl rfl (.inl rfl) rfl ?_
      refine wl_skip rfl rfl rfl rfl rfl rfl rfl ?_
      refine wl_skip rfl rfl rfl rfl rfl rfl rfl ?_
      refine wl_skip rfl rfl rfl rfl rfl rfl rfl ?_
      refine wl_pick_f (.bool false) (want_none rfl) rfl rfl rfl rfl rfl ?_
      refine wl_mv (.bool false) (want_none rfl) rfl rfl (.inl rfl) rfl ?_
      refine wl_skip rfl rfl rfl rfl rfl rfl rfl ?_
      refine wl_skip rfl rfl rfl rfl rfl rfl rfl ?_
      refine wl_skip rfl rfl rfl rfl rfl rfl rfl ?_
      refine wl_skip rfl rfl rfl rfl rfl rfl rfl ?_
      refine wl_pick_f (.bool false) (want_none rfl) rfl rfl rfl rfl rfl ?_
      refine wl_mv (.bool false) (want_none rfl) rfl rfl (.inl rfl) rfl ?_
      refine wl_skip rfl rfl rfl rfl rfl rfl rfl ?_
      refine wl_skip rfl rfl rfl rfl rfl rfl rfl ?_
      refine wl_skip rfl rfl rfl rfl rfl rfl rfl ?_
      refine wl_skip rfl rfl rfl rfl rfl rfl rfl ?_
      refine wl_pick_f (.bool false) (want_none rfl) rfl rfl rfl rfl rfl ?_
      refine wl_mv (.bool false) (want_none rfl) rfl rfl (.inl rfl) rfl ?_
      refine wl_skip rfl rfl rfl rfl rfl rfl rfl ?_
      refine wl_skip rfl rfl rfl rfl rfl rfl rfl ?_
      refine wl_skip rfl rfl rfl rfl rfl rfl rfl ?_
      refine wl_pick_f (.bool false) (want_none rfl) rfl rfl rfl rfl rfl ?_
      refine wl_mv (.bool false) (want_none rfl) rfl rfl (.inl rfl) rfl ?_
      refine wl_skip rfl rfl rfl rfl rfl rfl rfl ?_
      refine wl_skip rfl rfl rfl rfl rfl rfl rfl ?_
      refine wl_skip rfl rfl rfl rfl rfl rfl rfl ?_
      refine wl_pick_f (.bool false) (want_none rfl) rfl rfl rfl rfl rfl ?_
      refine wl_mv (.bool false) (want_none rfl) rfl rfl (.inr rfl) rfl ?_
      refine wl_nil ?_
      refine wq_then ?_
      refine wc_ret ?_
      refine ret_1 (.inl rfl) (.bool false) rfl rfl ?_
      refine ⟨m33.keep0, ?_⟩
      have hF94 : F_spec_NoteOk x_n = false := by simp only [F_spec_NoteOk, h29, h34, cond_true, cond_false]
      rw [hF94]
      exact rfl
  · have q95 := spec_l1In_f h29
    refine wl_skip rfl rfl rfl (congrArg Value.bool h29) rfl rfl rfl ?_
    refine wl_skip rfl rfl rfl (congrArg Value.bool h29) rfl rfl rfl ?_
    refine wl_skip rfl rfl rfl (congrArg Value.bool h29) rfl rfl rfl ?_
    refine wl_pick_f (.bool false) (want_none rfl) rfl rfl rfl (congrArg Value.bool h29) rfl ?_
    refine wl_mv (.bool false) (want_none rfl) rfl rfl (.inl rfl) rfl ?_
    refine wl_skip rfl rfl rfl rfl rfl rfl rfl ?_
    refine wl_skip rfl rfl rfl rfl rfl rfl rfl ?_
    refine wl_skip rfl rfl rfl rfl rfl rfl rfl ?_
    refine wl_pick_f (.bool false) (want_none rfl) rfl rfl rfl rfl rfl ?_
    refine wl_mv (.bool false) (want_none rfl) rfl rfl (.inl rfl) rfl ?_
    refine wl_skip rfl rfl rfl rfl rfl rfl rfl ?_
    refine wl_skip rfl rfl rfl rfl rfl rfl rfl ?_
    refine wl_skip rfl rfl rfl rfl rfl rfl rfl ?_
    refine wl_skip rfl rfl rfl rfl rfl rfl rfl ?_
    refine wl_pick_f (.bool false) (want_none rfl) rfl rfl rfl rfl rfl ?_
    refine wl_mv (.bool false) (want_none rfl) rfl rfl (.inl rfl) rfl ?_
    refine wl_skip rfl rfl rfl rfl rfl rfl rfl ?_
    refine wl_skip rfl rfl rfl rfl rfl rfl rfl ?_
    refine wl_skip rfl rfl rfl rfl rfl rfl rfl ?_
    refine wl_skip rfl rfl rfl rfl rfl rfl rfl ?_
    refine wl_pick_f (.bool false) (want_none rfl) rfl rfl rfl rfl rfl ?_
    refine wl_mv (.bool false) (want_none rfl) rfl rfl (.inl rfl) rfl ?_
    refine wl_skip rfl rfl rfl rfl rfl rfl rfl ?_
    refine wl_skip rfl rfl rfl rfl rfl rfl rfl ?_
    refine wl_skip rfl rfl rfl rfl rfl rfl rfl ?_
    refine wl_pick_f (.bool false) (want_none rfl) rfl rfl rfl rfl rfl ?_
    refine wl_mv (.bool false) (want_none rfl) rfl rfl (.inl rfl) rfl ?_
    refine wl_skip rfl rfl rfl rfl rfl rfl rfl ?_
    refine wl_skip rfl rfl rfl rfl rfl rfl rfl ?_
    refine wl_skip rfl rfl rfl rfl rfl rfl rfl ?_
    refine wl_pick_f (.bool false) (want_none rfl) rfl rfl rfl rfl rfl ?_
    refine wl_mv (.bool false) (want_none rfl) rfl rfl (.inl rfl) rfl ?_
    refine wl_skip rfl rfl rfl rfl rfl rfl rfl ?_
    refine wl_skip rfl rfl rfl rfl rfl rfl rfl ?_
    refine wl_skip rfl rfl rfl rfl rfl rfl rfl ?_
    refine wl_skip rfl rfl rfl rfl rfl rfl rfl ?_
    refine wl_pick_f (.bool false) (want_none rfl) rfl rfl rfl rfl rfl ?_
    refine wl_mv (.bool false) (want_none rfl) rfl rfl (.inl rfl) rfl ?_
    refine wl_skip rfl rfl rfl rfl rfl rfl rfl ?_
    refine wl_skip rfl rfl rfl rfl rfl rfl rfl ?_
    refine wl_skip rfl rfl rfl rfl rfl rfl rfl ?_
    refine wl_skip rfl rfl rfl rfl rfl rfl rfl ?_
    refine wl_pick_f (.bool false) (want_none rfl) rfl rfl rfl rfl rfl ?_
    refine wl_mv (.bool false) (want_none rfl) rfl rfl (.inl rfl) rfl ?_
    refine wl_skip rfl rfl rfl rfl rfl rfl rfl ?_
    refine wl_skip rfl rfl rfl rfl rfl rfl rfl ?_
    refine wl_skip rfl rfl rfl rfl rfl rfl rfl ?_
    refine wl_pick_f (.bool false) (want_none rfl) rfl rfl rfl rfl rfl ?_
    refine wl_mv (.bool false) (want_none rfl) rfl rfl (.inl rfl) rfl ?_
    refine wl_skip rfl rfl rfl rfl rfl rfl rfl ?_
    refine wl_skip rfl rfl rfl rfl rfl rfl rfl ?_
    refine wl_skip rfl rfl rfl rfl rfl rfl rfl ?_
    refine wl_pick_f (.bool false) (want_none rfl) rfl rfl rfl rfl rfl ?_
    refine wl_mv (.bool false) (want_none rfl) rfl rfl (.inr rfl) rfl ?_
    refine wl_nil ?_
    refine wq_then ?_
    refine wc_ret ?_
    refine ret_1 (.inl rfl) (.bool false) rfl rfl ?_
    refine ⟨m28.keep0, ?_⟩
    have hF96 : F_spec_NoteOk x_n = false := by simp only [F_spec_NoteOk, h29, cond_true, cond_false]
    rw [hF96]
    exact rfl

def F_impl_within (x_n : Int) (x_low : Int) (x_high : Int) : (Bool) := bif (decide (x_low ≤ x_n)) then (decide (x_n ≤ x_high)) else (false)
theorem C_impl_within (w0 : World) (x_n : Int) (x_low : Int) (x_high : Int)  : Fn Try.prog 83 #[(.int .i64 x_n), (.int .i64 x_low), (.int .i64 x_high)] w0 (fun v w' => Keep w0 w' ∧ O_4 w' w0.heap.size v (F_impl_within x_n x_low x_high)) := by
  refine fn_of (n := 15) (l := [(.int .i64 x_n), (.int .i64 x_low), (.int .i64 x_high), undef, undef, undef, undef, undef, undef, undef, undef, undef, undef, undef, undef]) Try.func83 rfl rfl (by kernel_rfl) rfl ?_
  refine wc_seq ?_
  refine wc_region ?_
  refine wl_mv (.bool false) (want_none rfl) rfl rfl (.inr rfl) rfl ?_
  refine wl_nil ?_
  refine wq_then ?_
  refine wc_seq ?_
  refine wc_region ?_
  refine wl_mv (.int .i64 x_n) (want_none rfl) rfl rfl (.inl rfl) rfl ?_
  refine wl_mv (.int .i64 x_low) (want_none rfl) rfl rfl (.inl rfl) rfl ?_
  refine wl_pure (.bool (decide (x_low ≤ x_n))) (want_none rfl) rfl rfl (by kernel_rfl) ?_
  refine wl_mv (.bool (decide (x_low ≤ x_n))) (want_none rfl) rfl rfl (.inl rfl) rfl ?_
  rcases Bool.eq_false_or_eq_true (decide (x_low ≤ x_n)) with h1 | h1
  · have q2 := of_decide_eq_true h1
    refine wl_mv (.int .i64 x_n) (want_some rfl rfl rfl (congrArg Value.bool h1)) rfl rfl (.inl rfl) rfl ?_
    refine wl_mv (.int .i64 x_high) (want_some rfl rfl rfl (congrArg Value.bool h1)) rfl rfl (.inl rfl) rfl ?_
    refine wl_pure (.bool (decide (x_n ≤ x_high))) (want_some rfl rfl rfl (congrArg Value.bool h1)) rfl rfl (by kernel_rfl) ?_
    refine wl_pick_t (.bool (decide (x_n ≤ x_high))) (want_none rfl) rfl rfl rfl (congrArg Value.bool h1) rfl ?_
    refine wl_mv (.bool (decide (x_n ≤ x_high))) (want_none rfl) rfl rfl (.inr rfl) rfl ?_
    refine wl_nil ?_
    refine wq_then ?_
    refine wc_ret ?_
    refine ret_1 (.inl rfl) (.bool (decide (x_n ≤ x_high))) rfl rfl ?_
    refine ⟨Ch.refl _ _, ?_⟩
    have hF3 : F_impl_within x_n x_low x_high = decide (x_n ≤ x_high) := by simp only [F_impl_within, h1, cond_true, cond_false]
    rw [hF3]
    exact rfl
  · have q4 := of_decide_eq_false h1
    refine wl_skip rfl rfl rfl (congrArg Value.bool h1) rfl rfl rfl ?_
    refine wl_skip rfl rfl rfl (congrArg Value.bool h1) rfl rfl rfl ?_
    refine wl_skip rfl rfl rfl (congrArg Value.bool h1) rfl rfl rfl ?_
    refine wl_pick_f (.bool false) (want_none rfl) rfl rfl rfl (congrArg Value.bool h1) rfl ?_
    refine wl_mv (.bool false) (want_none rfl) rfl rfl (.inr rfl) rfl ?_
    refine wl_nil ?_
    refine wq_then ?_
    refine wc_ret ?_
    refine ret_1 (.inl rfl) (.bool false) rfl rfl ?_
    refine ⟨Ch.refl _ _, ?_⟩
    have hF5 : F_impl_within x_n x_low x_high = false := by simp only [F_impl_within, h1, cond_true, cond_false]
    rw [hF5]
    exact rfl
theorem impl_within_t {n a b : Int} (h : F_impl_within n a b = true) : a ≤ n ∧ n ≤ b := by
  unfold F_impl_within at h
  by_cases h1 : a ≤ n <;> simp [h1] at h
  exact ⟨h1, h⟩
theorem impl_within_f {n a b : Int} (h : F_impl_within n a b = false) : n < a ∨ b < n := by
  unfold F_impl_within at h
  by_cases h1 : a ≤ n <;> simp [h1] at h <;> omega

def F_impl_emptyOr (x_b : List UInt8) (x_n : Int) : (Bool) := bif (decide ((x_b.length : Int) = 0)) then (true) else (decide ((x_b.length : Int) = x_n))
theorem C_impl_emptyOr (w0 : World) (v_x_b : Value) (x_b : List UInt8) (r_x_b : R_22 w0 v_x_b x_b) (x_n : Int)  : Fn Try.prog 89 #[v_x_b, (.int .i64 x_n)] w0 (fun v w' => Keep w0 w' ∧ O_4 w' w0.heap.size v (F_impl_emptyOr x_b x_n)) := by
  obtain ⟨a1, c2, rfl, r3, s4⟩ := r_x_b
  refine fn_of (n := 14) (l := [(.slice a1 x_b.length c2), (.int .i64 x_n), undef, undef, undef, undef, undef, undef, undef, undef, undef, undef, undef, undef]) Try.func89 rfl rfl (by kernel_rfl) rfl ?_
  refine wc_seq ?_
  refine wc_region ?_
  refine wl_mv (.bool false) (want_none rfl) rfl rfl (.inr rfl) rfl ?_
  refine wl_nil ?_
  refine wq_then ?_
  refine wc_seq ?_
  refine wc_region ?_
  refine wl_mv (.slice a1 x_b.length c2) (want_none rfl) rfl rfl (.inl rfl) rfl ?_
  refine wl_len (want_none rfl) rfl rfl rfl slTy_22 rfl r3 ?_
  refine wl_pure (.bool (decide ((x_b.length : Int) = 0))) (want_none rfl) rfl rfl (by kernel_rfl) ?_
  refine wl_mv (.bool (decide ((x_b.length : Int) = 0))) (want_none rfl) rfl rfl (.inl rfl) rfl ?_
  rcases Bool.eq_false_or_eq_true (decide ((x_b.length : Int) = 0)) with h6 | h6
  · have q7 := of_decide_eq_true h6
    refine wl_skip rfl rfl rfl (congrArg Value.bool h6) rfl rfl rfl ?_
    refine wl_skip rfl rfl rfl (congrArg Value.bool h6) rfl rfl rfl ?_
    refine wl_skip rfl rfl rfl (congrArg Value.bool h6) rfl rfl rfl ?_
    refine wl_skip rfl rfl rfl (congrArg Value.bool h6) rfl rfl rfl ?_
    refine wl_pick_t (.bool true) (want_none rfl) rfl rfl rfl (congrArg Value.bool h6) rfl ?_
    refine wl_mv (.bool true) (want_none rfl) rfl rfl (.inr rfl) rfl ?_
    refine wl_nil ?_
    refine wq_then ?_
    refine wc_ret ?_
    refine ret_1 (.inl rfl) (.bool true) rfl rfl ?_
    refine ⟨Ch.refl _ _, ?_⟩
    have hF8 : F_impl_emptyOr x_b x_n = true := by simp only [F_impl_emptyOr, h6, cond_true, cond_false]
    rw [hF8]
    exact rfl
  · have q9 := of_decide_eq_false h6
    refine wl_mv (.slice a1 x_b.length c2) (want_some rfl rfl rfl (congrArg Value.bool h6)) rfl rfl (.inl rfl) rfl ?_
    refine wl_len (want_some rfl rfl rfl (congrArg Value.bool h6)) rfl rfl rfl slTy_22 rfl r3 ?_
    refine wl_mv (.int .i64 x_n) (want_some rfl rfl rfl (congrArg Value.bool h6)) rfl rfl (.inl rfl) rfl ?_
    refine wl_pure (.bool (decide ((x_b.length : Int) = x_n))) (want_some rfl rfl rfl (congrArg Value.bool h6)) rfl rfl (by kernel_rfl) ?_
    refine wl_pick_f (.bool (decide ((x_b.length : Int) = x_n))) (want_none rfl) rfl rfl rfl (congrArg Value.bool h6) rfl ?_
    refine wl_mv (.bool (decide ((x_b.length : Int) = x_n))) (want_none rfl) rfl rfl (.inr rfl) rfl ?_
    refine wl_nil ?_
    refine wq_then ?_
    refine wc_ret ?_
    refine ret_1 (.inl rfl) (.bool (decide ((x_b.length : Int) = x_n))) rfl rfl ?_
    refine ⟨Ch.refl _ _, ?_⟩
    have hF10 : F_impl_emptyOr x_b x_n = decide ((x_b.length : Int) = x_n) := by simp only [F_impl_emptyOr, h6, cond_true, cond_false]
    rw [hF10]
    exact rfl

def F_impl_AddrOk (x_a : PAddr) : (Bool) := bif (F_impl_within x_a.Host 0 4294967295) then ((F_impl_within x_a.Port 0 65535)) else (false)
theorem C_impl_AddrOk (w0 : World) (v_x_a : Value) (x_a : PAddr) (r_x_a : R_61 w0 v_x_a x_a)  : Fn Try.prog 90 #[v_x_a] w0 (fun v w' => Keep w0 w' ∧ O_4 w' w0.heap.size v (F_impl_AddrOk x_a)) := by
  obtain rfl := r_x_a
  refine fn_of (n := 11) (l := [(.agg #[(.int .i64 x_a.Host), (.int .i64 x_a.Port)]), undef, undef, undef, undef, undef, undef, undef, undef, undef, undef]) Try.func90 rfl rfl (by kernel_rfl) rfl ?_
  refine wc_seq ?_
  refine wc_region ?_
  refine wl_box (want_none rfl) [(.int .i64 x_a.Host), (.int .i64 x_a.Port)] rfl rfl rfl rfl ?_
  intro g1 w1 p2 p3 k4 b5
  have m6 := (Ch.base w0).extk k4
  refine wl_mv (.bool false) (want_none rfl) rfl rfl (.inr rfl) rfl ?_
  refine wl_nil ?_
  refine wq_then ?_
  refine wc_seq ?_
  refine wc_region ?_
  refine wl_pure (.pointer (some ⟨g1, 0, none⟩)) (want_none rfl) rfl rfl (by kernel_rfl) ?_
  refine wl_load1 (.int .i64 x_a.Host) (want_none rfl) rfl rfl rfl rfl isAgg_3 b5 rfl ?_
  refine wl_call (want_none rfl) (args := #[(.int .i64 x_a.Host), (.int .i64 0), (.int .i64 4294967295)]) rfl rfl (by kernel_rfl) (C_impl_within w1 x_a.Host 0 4294967295) ?_
  rintro _ w2 ⟨k7, rfl⟩
  have m8 := m6.extk k7
  refine wl_mv (.bool (F_impl_within x_a.Host 0 4294967295)) (want_none rfl) rfl rfl (.inl rfl) rfl ?_
  rcases Bool.eq_false_or_eq_true (F_impl_within x_a.Host 0 4294967295) with h9 | h9
  · have q10 := impl_within_t h9
    refine wl_pure (.pointer (some ⟨g1, 1, none⟩)) (want_some rfl rfl rfl (congrArg Value.bool h9)) rfl rfl (by kernel_rfl) ?_
    have b11 := (b5.kp k7)
    refine wl_load1 (.int .i64 x_a.Port) (want_some rfl rfl rfl (congrArg Value.bool h9)) rfl rfl rfl rfl isAgg_3 b11 rfl ?_
    refine wl_call (want_some rfl rfl rfl (congrArg Value.bool h9)) (args := #[(.int .i64 x_a.Port), (.int .i64 0), (.int .i64 65535)]) rfl rfl (by kernel_rfl) (C_impl_within w2 x_a.Port 0 65535) ?_
    rintro _ w3 ⟨k12, rfl⟩
    have m13 := m8.extk k12
    refine wl_pick_t (.bool (F_impl_within x_a.Port 0 65535)) (want_none rfl) rfl rfl rfl (congrArg Value.bool h9) rfl ?_
    refine wl_mv (.bool (F_impl_within x_a.Port 0 65535)) (want_none rfl) rfl rfl (.inr rfl) rfl ?_
    refine wl_nil ?_
    refine wq_then ?_
    refine wc_ret ?_
    refine ret_1 (.inl rfl) (.bool (F_impl_within x_a.Port 0 65535)) rfl rfl ?_
    refine ⟨m13.keep0, ?_⟩
    have hF14 : F_impl_AddrOk x_a = (F_impl_within x_a.Port 0 65535) := by simp only [F_impl_AddrOk, h9, cond_true, cond_false]
    rw [hF14]
    exact rfl
  · have q15 := impl_within_f h9
    refine wl_skip rfl rfl rfl (congrArg Value.bool h9) rfl rfl rfl ?_
    refine wl_skip rfl rfl rfl (congrArg Value.bool h9) rfl rfl rfl ?_
    refine wl_skip rfl rfl rfl (congrArg Value.bool h9) rfl rfl rfl ?_
    refine wl_pick_f (.bool false) (want_none rfl) rfl rfl rfl (congrArg Value.bool h9) rfl ?_
    refine wl_mv (.bool false) (want_none rfl) rfl rfl (.inr rfl) rfl ?_
    refine wl_nil ?_
    refine wq_then ?_
    refine wc_ret ?_
    refine ret_1 (.inl rfl) (.bool false) rfl rfl ?_
    refine ⟨m8.keep0, ?_⟩
    have hF16 : F_impl_AddrOk x_a = false := by simp only [F_impl_AddrOk, h9, cond_true, cond_false]
    rw [hF16]
    exact rfl

def F_impl_NoteOk (x_n : PNote) : (Bool) := bif (F_impl_within x_n.Kind 1 17) then (bif (F_impl_within x_n.Id 0 9) then (bif (F_impl_within x_n.Role 0 1) then (bif (F_impl_within x_n.Epoch 0 4294967295) then (bif (F_impl_within x_n.Seq 0 281474976710655) then (bif (F_impl_within x_n.Now 0 1000000) then (bif (F_impl_emptyOr x_n.Cn 12) then (bif (F_impl_emptyOr x_n.Sn 12) then (bif (decide ((x_n.Body.length : Int) ≤ 100)) then (bif (F_impl_emptyOr x_n.Key 32) then ((F_impl_AddrOk x_n.A)) else (false)) else (false)) else (false)) else (false)) else (false)) else (false)) else (false)) else (false)) else (false)) else (false)
theorem C_impl_NoteOk (w0 : World) (v_x_n : Value) (x_n : PNote) (r_x_n : R_63 w0 v_x_n x_n)  : Fn Try.prog 45 #[v_x_n] w0 (fun v w' => Keep w0 w' ∧ O_4 w' w0.heap.size v (F_impl_NoteOk x_n)) := by
  obtain ⟨a1, c2, a6, c7, a11, c12, a16, c17, rfl, r3, s4, r8, s9, r13, s14, r18, s19⟩ := r_x_n
  refine fn_of (n := 57) (l := [(.agg #[(.int .i64 x_n.Kind), (.int .i64 x_n.Id), (.int .i64 x_n.Role), (.slice a1 x_n.Cn.length c2), (.slice a6 x_n.Sn.length c7), (.int .i64 x_n.Epoch), (.int .i64 x_n.Seq), (.slice a11 x_n.Body.length c12), (.slice a16 x_n.Key.length c17), (.int .i64 x_n.A.Host), (.int .i64 x_n.A.Port), (.int .i64 x_n.Now)]), undef, undef, undef, undef, undef, undef, undef, undef, undef, undef, undef, undef, undef, undef, undef, undef, undef, undef, undef, undef, undef, undef, undef, undef, undef, undef, undef, undef, undef, undef, undef, undef, undef, undef, undef, undef, undef, undef, undef, undef, undef, undef, undef, undef, undef, undef, undef, undef, undef, undef, undef, undef, undef, undef, undef, undef]) Try.func45 rfl rfl (by kernel_rfl) rfl ?_
  refine wc_seq ?_
  refine wc_region ?_
  refine wl_box (want_none rfl) [(.int .i64 x_n.Kind), (.int .i64 x_n.Id), (.int .i64 x_n.Role), (.slice a1 x_n.Cn.length c2), (.slice a6 x_n.Sn.length c7), (.int .i64 x_n.Epoch), (.int .i64 x_n.Seq), (.slice a11 x_n.Body.length c12), (.slice a16 x_n.Key.length c17), (.int .i64 x_n.A.Host), (.int .i64 x_n.A.Port), (.int .i64 x_n.Now)] rfl rfl rfl rfl ?_
  intro g21 w1 p22 p23 k24 b25
  have m26 := (Ch.base w0).extk k24
  refine wl_mv (.bool false) (want_none rfl) rfl rfl (.inr rfl) rfl ?_
  refine wl_nil ?_
  refine wq_then ?_
  refine wc_seq ?_
  refine wc_region ?_
  refine wl_pure (.pointer (some ⟨g21, 0, none⟩)) (want_none rfl) rfl rfl (by kernel_rfl) ?_
  refine wl_load1 (.int .i64 x_n.Kind) (want_none rfl) rfl rfl rfl rfl isAgg_3 b25 rfl ?_
  refine wl_call (want_none rfl) (args := #[(.int .i64 x_n.Kind), (.int .i64 1), (.int .i64 17)]) rfl rfl (by kernel_rfl) (C_impl_within w1 x_n.Kind 1 17) ?_
  rintro _ w2 ⟨k27, rfl⟩
  have m28 := m26.extk k27
  refine wl_mv (.bool (F_impl_within x_n.Kind 1 17)) (want_none rfl) rfl rfl (.inl rfl) rfl ?_
  rcases Bool.eq_false_or_eq_true (F_impl_within x_n.Kind 1 17) with h29 | h29
  · have q30 := impl_within_t h29
    refine wl_pure (.pointer (some ⟨g21, 1, none⟩)) (want_some rfl rfl rfl (congrArg Value.bool h29)) rfl rfl (by kernel_rfl) ?_
    have b31 := (b25.kp k27)
    refine wl_load1 (.int .i64 x_n.Id) (want_some rfl rfl rfl (congrArg Value.bool h29)) rfl rfl rfl rfl isAgg_3 b31 rfl ?_
    refine wl_call (want_some rfl rfl rfl (congrArg Value.bool h29)) (args := #[(.int .i64 x_n.Id), (.int .i64 0), (.int .i64 9)]) rfl rfl (by kernel_rfl) (C_impl_within w2 x_n.Id 0 9) ?_
    rintro _ w3 ⟨k32, rfl⟩
    have m33 := m28.extk k32
    refine wl_pick_t (.bool (F_impl_within x_n.Id 0 9)) (want_none rfl) rfl rfl rfl (congrArg Value.bool h29) rfl ?_
    refine wl_mv (.bool (F_impl_within x_n.Id 0 9)) (want_none rfl) rfl rfl (.inl rfl) rfl ?_
    rcases Bool.eq_false_or_eq_true (F_impl_within x_n.Id 0 9) with h34 | h34
    · have q35 := impl_within_t h34
      refine wl_pure (.pointer (some ⟨g21, 2, none⟩)) (want_some rfl rfl rfl (congrArg Value.bool h34)) rfl rfl (by kernel_rfl) ?_
      have b36 := (b31.kp k32)
      refine wl_load1 (.int .i64 x_n.Role) (want_some rfl rfl rfl (congrArg Value.bool h34)) rfl rfl rfl rfl isAgg_3 b36 rfl ?_
      refine wl_call (want_some rfl rfl rfl (congrArg Value.bool h34)) (args := #[(.int .i64 x_n.Role), (.int .i64 0), (.int .i64 1)]) rfl rfl (by kernel_rfl) (C_impl_within w3 x_n.Role 0 1) ?_
      rintro _ w4 ⟨k37, rfl⟩
      have m38 := m33.extk k37
      refine wl_pick_t (.bool (F_impl_within x_n.Role 0 1)) (want_none rfl) rfl rfl rfl (congrArg Value.bool h34) rfl ?_
      refine wl_mv (.bool (F_impl_within x_n.Role 0 1)) (want_none rfl) rfl rfl (.inl rfl) rfl ?_
      rcases Bool.eq_false_or_eq_true (F_impl_within x_n.Role 0 1) with h39 | h39
      · have q40 := impl_within_t h39
        refine wl_pure (.pointer (some ⟨g21, 5, none⟩)) (want_some rfl rfl rfl (congrArg Value.bool h39)) rfl rfl (by kernel_rfl) ?_
        have b41 := (b36.kp k37)
        refine wl_load1 (.int .i64 x_n.Epoch) (want_some rfl rfl rfl (congrArg Value.bool h39)) rfl rfl rfl rfl isAgg_3 b41 rfl ?_
        refine wl_call (want_some rfl rfl rfl (congrArg Value.bool h39)) (args := #[(.int .i64 x_n.Epoch), (.int .i64 0), (.int .i64 4294967295)]) rfl rfl (by kernel_rfl) (C_impl_within w4 x_n.Epoch 0 4294967295) ?_
        rintro _ w5 ⟨k42, rfl⟩
        have m43 := m38.extk k42
        refine wl_pick_t (.bool (F_impl_within x_n.Epoch 0 4294967295)) (want_none rfl) rfl rfl rfl (congrArg Value.bool h39) rfl ?_
        refine wl_mv (.bool (F_impl_within x_n.Epoch 0 4294967295)) (want_none rfl) rfl rfl (.inl rfl) rfl ?_
        rcases Bool.eq_false_or_eq_true (F_impl_within x_n.Epoch 0 4294967295) with h44 | h44
        · have q45 := impl_within_t h44
          refine wl_pure (.pointer (some ⟨g21, 6, none⟩)) (want_some rfl rfl rfl (congrArg Value.bool h44)) rfl rfl (by kernel_rfl) ?_
          have b46 := (b41.kp k42)
          refine wl_load1 (.int .i64 x_n.Seq) (want_some rfl rfl rfl (congrArg Value.bool h44)) rfl rfl rfl rfl isAgg_3 b46 rfl ?_
          refine wl_call (want_some rfl rfl rfl (congrArg Value.bool h44)) (args := #[(.int .i64 x_n.Seq), (.int .i64 0), (.int .i64 281474976710655)]) rfl rfl (by kernel_rfl) (C_impl_within w5 x_n.Seq 0 281474976710655) ?_
          rintro _ w6 ⟨k47, rfl⟩
          have m48 := m43.extk k47
          refine wl_pick_t (.bool (F_impl_within x_n.Seq 0 281474976710655)) (want_none rfl) rfl rfl rfl (congrArg Value.bool h44) rfl ?_
          refine wl_mv (.bool (F_impl_within x_n.Seq 0 281474976710655)) (want_none rfl) rfl rfl (.inl rfl) rfl ?_
          rcases Bool.eq_false_or_eq_true (F_impl_within x_n.Seq 0 281474976710655) with h49 | h49
          · have q50 := impl_within_t h49
            refine wl_pure (.pointer (some ⟨g21, 11, none⟩)) (want_some rfl rfl rfl (congrArg Value.bool h49)) rfl rfl (by kernel_rfl) ?_
            have b51 := (b46.kp k47)
            refine wl_load1 (.int .i64 x_n.Now) (want_some rfl rfl rfl (congrArg Value.bool h49)) rfl rfl rfl rfl isAgg_3 b51 rfl ?_
            refine wl_call (want_some rfl rfl rfl (congrArg Value.bool h49)) (args := #[(.int .i64 x_n.Now), (.int .i64 0), (.int .i64 1000000)]) rfl rfl (by kernel_rfl) (C_impl_within w6 x_n.Now 0 1000000) ?_
            rintro _ w7 ⟨k52, rfl⟩
            have m53 := m48.extk k52
            refine wl_pick_t (.bool (F_impl_within x_n.Now 0 1000000)) (want_none rfl) rfl rfl rfl (congrArg Value.bool h49) rfl ?_
            refine wl_mv (.bool (F_impl_within x_n.Now 0 1000000)) (want_none rfl) rfl rfl (.inl rfl) rfl ?_
            rcases Bool.eq_false_or_eq_true (F_impl_within x_n.Now 0 1000000) with h54 | h54
            · have q55 := impl_within_t h54
              refine wl_pure (.pointer (some ⟨g21, 3, none⟩)) (want_some rfl rfl rfl (congrArg Value.bool h54)) rfl rfl (by kernel_rfl) ?_
              have b56 := (b51.kp k52)
              refine wl_load1 (.slice a1 x_n.Cn.length c2) (want_some rfl rfl rfl (congrArg Value.bool h54)) rfl rfl rfl rfl isAgg_22 b56 rfl ?_
              refine wl_call (want_some rfl rfl rfl (congrArg Value.bool h54)) (args := #[(.slice a1 x_n.Cn.length c2), (.int .i64 12)]) rfl rfl (by kernel_rfl) (C_impl_emptyOr w7 (.slice a1 x_n.Cn.length c2) x_n.Cn (show R_22 w7 (.slice a1 x_n.Cn.length c2) x_n.Cn from ⟨_, _, rfl, (r3.from0 m53), s4⟩) 12) ?_
              rintro _ w8 ⟨k57, rfl⟩
              have m58 := m53.extk k57
              refine wl_pick_t (.bool (F_impl_emptyOr x_n.Cn 12)) (want_none rfl) rfl rfl rfl (congrArg Value.bool h54) rfl ?_
              refine wl_mv (.bool (F_impl_emptyOr x_n.Cn 12)) (want_none rfl) rfl rfl (.inl rfl) rfl ?_
              rcases Bool.eq_false_or_eq_true (F_impl_emptyOr x_n.Cn 12) with h59 | h59
              · skip
                refine wl_pure (.pointer (some ⟨g21, 4, none⟩)) (want_some rfl rfl rfl (congrArg Value.bool h59)) rfl rfl (by kernel_rfl) ?_
                have b61 := (b56.kp k57)
                refine wl_load1 (.slice a6 x_n.Sn.length c7) (want_some rfl rfl rfl (congrArg Value.bool h59)) rfl rfl rfl rfl isAgg_22 b61 rfl ?_
                refine wl_call (want_some rfl rfl rfl (congrArg Value.bool h59)) (args := #[(.slice a6 x_n.Sn.length c7), (.int .i64 12)]) rfl rfl (by kernel_rfl) (C_impl_emptyOr w8 (.slice a6 x_n.Sn.length c7) x_n.Sn (show R_22 w8 (.slice a6 x_n.Sn.length c7) x_n.Sn from ⟨_, _, rfl, (r8.from0 m58), s9⟩) 12) ?_
                rintro _ w9 ⟨k62, rfl⟩
                have m63 := m58.extk k62
                refine wl_pick_t (.bool (F_impl_emptyOr x_n.Sn 12)) (want_none rfl) rfl rfl rfl (congrArg Value.bool h59) rfl ?_
                refine wl_mv (.bool (F_impl_emptyOr x_n.Sn 12)) (want_none rfl) rfl rfl (.inl rfl) rfl ?_
                rcases Bool.eq_false_or_eq_true (F_impl_emptyOr x_n.Sn 12) with h64 | h64
                · skip
                  refine wl_pure (.pointer (some ⟨g21, 7, none⟩)) (want_some rfl rfl rfl (congrArg Value.bool h64)) rfl rfl (by kernel_rfl) ?_
                  have b66 := (b61.kp k62)
                  refine wl_load1 (.slice a11 x_n.Body.length c12) (want_some rfl rfl rfl (congrArg Value.bool h64)) rfl rfl rfl rfl isAgg_22 b66 rfl ?_
                  refine wl_len (want_some rfl rfl rfl (congrArg Value.bool h64)) rfl rfl rfl slTy_22 rfl (r13.from0 m63) ?_
                  refine wl_pure (.bool (decide ((x_n.Body.length : Int) ≤ 100))) (want_some rfl rfl rfl (congrArg Value.bool h64)) rfl rfl (by kernel_rfl) ?_
                  refine wl_pick_t (.bool (decide ((x_n.Body.length : Int) ≤ 100))) (want_none rfl) rfl rfl rfl (congrArg Value.bool h64) rfl ?_
                  refine wl_mv (.bool (decide ((x_n.Body.length : Int) ≤ 100))) (want_none rfl) rfl rfl (.inl rfl) rfl ?_
                  rcases Bool.eq_false_or_eq_true (decide ((x_n.Body.length : Int) ≤ 100)) with h67 | h67
                  · have q68 := of_decide_eq_true h67
                    refine wl_pure (.pointer (some ⟨g21, 8, none⟩)) (want_some rfl rfl rfl (congrArg Value.bool h67)) rfl rfl (by kernel_rfl) ?_
                    refine wl_load1 (.slice a16 x_n.Key.length c17) (want_some rfl rfl rfl (congrArg Value.bool h67)) rfl rfl rfl rfl isAgg_22 b66 rfl ?_
                    refine wl_call (want_some rfl rfl rfl (congrArg Value.bool h67)) (args := #[(.slice a16 x_n.Key.length c17), (.int .i64 32)]) rfl rfl (by kernel_rfl) (C_impl_emptyOr w9 (.slice a16 x_n.Key.length c17) x_n.Key (show R_22 w9 (.slice a16 x_n.Key.length c17) x_n.Key from ⟨_, _, rfl, (r18.from0 m63), s19⟩) 32) ?_
                    rintro _ w10 ⟨k69, rfl⟩
                    have m70 := m63.extk k69
                    refine wl_pick_t (.bool (F_impl_emptyOr x_n.Key 32)) (want_none rfl) rfl rfl rfl (congrArg Value.bool h67) rfl ?_
                    refine wl_mv (.bool (F_impl_emptyOr x_n.Key 32)) (want_none rfl) rfl rfl (.inl rfl) rfl ?_
                    rcases Bool.eq_false_or_eq_true (F_impl_emptyOr x_n.Key 32) with h71 | h71
                    · skip
                      refine wl_pure (.pointer (some ⟨g21, 9, none⟩)) (want_some rfl rfl rfl (congrArg Value.bool h71)) rfl rfl (by kernel_rfl) ?_
                      have b73 := (b66.kp k69)
                      refine wl_loadN [(.int .i64 x_n.A.Host), (.int .i64 x_n.A.Port)] (want_some rfl rfl rfl (congrArg Value.bool h71)) rfl rfl rfl rfl isAgg_61 sizeOf_61 b73 rfl ?_
                      refine wl_call (want_some rfl rfl rfl (congrArg Value.bool h71)) (args := #[(.agg #[(.int .i64 x_n.A.Host), (.int .i64 x_n.A.Port)])]) rfl rfl (by kernel_rfl) (C_impl_AddrOk w10 (.agg #[(.int .i64 x_n.A.Host), (.int .i64 x_n.A.Port)]) x_n.A (show R_61 w10 (.agg #[(.int .i64 x_n.A.Host), (.int .i64 x_n.A.Port)]) x_n.A from rfl)) ?_
                      rintro _ w11 ⟨k74, rfl⟩
                      have m75 := m70.extk k74
                      refine wl_pick_t (.bool (F_impl_AddrOk x_n.A)) (want_none rfl) rfl rfl rfl (congrArg Value.bool h71) rfl ?_
                      refine wl_mv (.bool (F_impl_AddrOk x_n.A)) (want_none rfl) rfl rfl (.inr rfl) rfl ?_
                      refine wl_nil ?_
                      refine wq_then ?_
                      refine wc_ret ?_
                      refine ret_1 (.inl rfl) (.bool (F_impl_AddrOk x_n.A)) rfl rfl ?_
                      refine ⟨m75.keep0, ?_⟩
                      have hF76 : F_impl_NoteOk x_n = (F_impl_AddrOk x_n.A) := by simp only [F_impl_NoteOk, h29, h34, h39, h44, h49, h54, h59, h64, h67, h71, cond_true, cond_false]
                      rw [hF76]
                      exact rfl
                    · skip
                      refine wl_skip rfl rfl rfl (congrArg Value.bool h71) rfl rfl rfl ?_
                      refine wl_skip rfl rfl rfl (congrArg Value.bool h71) rfl rfl rfl ?_
                      refine wl_skip rfl rfl rfl (congrArg Value.bool h71) rfl rfl rfl ?_
                      refine wl_pick_f (.bool false) (want_none rfl) rfl rfl rfl (congrArg Value.bool h71) rfl ?_
                      refine wl_mv (.bool false) (want_none rfl) rfl rfl (.inr rfl) rfl ?_
                      refine wl_nil ?_
                      refine wq_then ?_
                      refine wc_ret ?_
                      refine ret_1 (.inl rfl) (.bool false) rfl rfl ?_
                      refine ⟨m70.keep0, ?_⟩
                      have hF78 : F_impl_NoteOk x_n = false := by simp only [F_impl_NoteOk, h29, h34, h39, h44, h49, h54, h59, h64, h67, h71, cond_true, cond_false]
                      rw [hF78]
                      exact rfl
                  · have q79 := of_decide_eq_false h67
                    refine wl_skip rfl rfl rfl (congrArg Value.bool h67) rfl rfl rfl ?_
                    refine wl_skip rfl rfl rfl (congrArg Value.bool h67) rfl rfl rfl ?_
                    refine wl_skip rfl rfl rfl (congrArg Value.bool h67) rfl rfl rfl ?_
                    refine wl_pick_f (.bool false) (want_none rfl) rfl rfl rfl (congrArg Value.bool h67) rfl ?_
                    refine wl_mv (.bool false) (want_none rfl) rfl rfl (.inl rfl) rfl ?_
                    refine wl_skip rfl rfl rfl rfl rfl rfl rfl ?_
                    refine wl_skip rfl rfl rfl rfl rfl rfl rfl ?_
                    refine wl_skip rfl rfl rfl rfl rfl rfl rfl ?_
                    refine wl_pick_f (.bool false) (want_none rfl) rfl rfl rfl rfl rfl ?_
                    refine wl_mv (.bool false) (want_none rfl) rfl rfl (.inr rfl) rfl ?_
                    refine wl_nil ?_
                    refine wq_then ?_
                    refine wc_ret ?_
                    refine ret_1 (.inl rfl) (.bool false) rfl rfl ?_
                    refine ⟨m63.keep0, ?_⟩
                    have hF80 : F_impl_NoteOk x_n = false := by simp only [F_impl_NoteOk, h29, h34, h39, h44, h49, h54, h59, h64, h67, cond_true, cond_false]
                    rw [hF80]
                    exact rfl
                · skip
                  refine wl_skip rfl rfl rfl (congrArg Value.bool h64) rfl rfl rfl ?_
                  refine wl_skip rfl rfl rfl (congrArg Value.bool h64) rfl rfl rfl ?_
                  refine wl_skip rfl rfl rfl (congrArg Value.bool h64) rfl rfl rfl ?_
                  refine wl_skip rfl rfl rfl (congrArg Value.bool h64) rfl rfl rfl ?_
                  refine wl_pick_f (.bool false) (want_none rfl) rfl rfl rfl (congrArg Value.bool h64) rfl ?_
                  refine wl_mv (.bool false) (want_none rfl) rfl rfl (.inl rfl) rfl ?_
                  refine wl_skip rfl rfl rfl rfl rfl rfl rfl ?_
                  refine wl_skip rfl rfl rfl rfl rfl rfl rfl ?_
                  refine wl_skip rfl rfl rfl rfl rfl rfl rfl ?_
                  refine wl_pick_f (.bool false) (want_none rfl) rfl rfl rfl rfl rfl ?_
                  refine wl_mv (.bool false) (want_none rfl) rfl rfl (.inl rfl) rfl ?_
                  refine wl_skip rfl rfl rfl rfl rfl rfl rfl ?_
                  refine wl_skip rfl rfl rfl rfl rfl rfl rfl ?_
                  refine wl_skip rfl rfl rfl rfl rfl rfl rfl ?_
                  refine wl_pick_f (.bool false) (want_none rfl) rfl rfl rfl rfl rfl ?_
                  refine wl_mv (.bool false) (want_none rfl) rfl rfl (.inr rfl) rfl ?_
                  refine wl_nil ?_
                  refine wq_then ?_
                  refine wc_ret ?_
                  refine ret_1 (.inl rfl) (.bool false) rfl rfl ?_
                  refine ⟨m63.keep0, ?_⟩
                  have hF82 : F_impl_NoteOk x_n = false := by simp only [F_impl_NoteOk, h29, h34, h39, h44, h49, h54, h59, h64, cond_true, cond_false]
                  rw [hF82]
                  exact rfl
              · skip
                refine wl_skip rfl rfl rfl (congrArg Value.bool h59) rfl rfl rfl ?_
                refine wl_skip rfl rfl rfl (congrArg Value.bool h59) rfl rfl rfl ?_
                refine wl_skip rfl rfl rfl (congrArg Value.bool h59) rfl rfl rfl ?_
                refine wl_pick_f (.bool false) (want_none rfl) rfl rfl rfl (congrArg Value.bool h59) rfl ?_
                refine wl_mv (.bool false) (want_none rfl) rfl rfl (.inl rfl) rfl ?_
                refine wl_skip rfl rfl rfl rfl rfl rfl rfl ?_
                refine wl_skip rfl rfl rfl rfl rfl rfl rfl ?_
                refine wl_skip rfl rfl rfl rfl rfl rfl rfl ?_
                refine wl_skip rfl rfl rfl rfl rfl rfl rfl ?_
                refine wl_pick_f (.bool false) (want_none rfl) rfl rfl rfl rfl rfl ?_
                refine wl_mv (.bool false) (want_none rfl) rfl rfl (.inl rfl) rfl ?_
                refine wl_skip rfl rfl rfl rfl rfl rfl rfl ?_
                refine wl_skip rfl rfl rfl rfl rfl rfl rfl ?_
                refine wl_skip rfl rfl rfl rfl rfl rfl rfl ?_
                refine wl_pick_f (.bool false) (want_none rfl) rfl rfl rfl rfl rfl ?_
                refine wl_mv (.bool false) (want_none rfl) rfl rfl (.inl rfl) rfl ?_
                refine wl_skip rfl rfl rfl rfl rfl rfl rfl ?_
                refine wl_skip rfl rfl rfl rfl rfl rfl rfl ?_
                refine wl_skip rfl rfl rfl rfl rfl rfl rfl ?_
                refine wl_pick_f (.bool false) (want_none rfl) rfl rfl rfl rfl rfl ?_
                refine wl_mv (.bool false) (want_none rfl) rfl rfl (.inr rfl) rfl ?_
                refine wl_nil ?_
                refine wq_then ?_
                refine wc_ret ?_
                refine ret_1 (.inl rfl) (.bool false) rfl rfl ?_
                refine ⟨m58.keep0, ?_⟩
                have hF84 : F_impl_NoteOk x_n = false := by simp only [F_impl_NoteOk, h29, h34, h39, h44, h49, h54, h59, cond_true, cond_false]
                rw [hF84]
                exact rfl
            · have q85 := impl_within_f h54
              refine wl_skip rfl rfl rfl (congrArg Value.bool h54) rfl rfl rfl ?_
              refine wl_skip rfl rfl rfl (congrArg Value.bool h54) rfl rfl rfl ?_
              refine wl_skip rfl rfl rfl (congrArg Value.bool h54) rfl rfl rfl ?_
              refine wl_pick_f (.bool false) (want_none rfl) rfl rfl rfl (congrArg Value.bool h54) rfl ?_
              refine wl_mv (.bool false) (want_none rfl) rfl rfl (.inl rfl) rfl ?_
              refine wl_skip rfl rfl rfl rfl rfl rfl rfl ?_
              refine wl_skip rfl rfl rfl rfl rfl rfl rfl ?_
              refine wl_skip rfl rfl rfl rfl rfl rfl rfl ?_
              refine wl_pick_f (.bool false) (want_none rfl) rfl rfl rfl rfl rfl ?_
              refine wl_mv (.bool false) (want_none rfl) rfl rfl (.inl rfl) rfl ?_
              refine wl_skip rfl rfl rfl rfl rfl rfl rfl ?_
              refine wl_skip rfl rfl rfl rfl rfl rfl rfl ?_
              refine wl_skip rfl rfl rfl rfl rfl rfl rfl ?_
              refine wl_skip rfl rfl rfl rfl rfl rfl rfl ?_
              refine wl_pick_f (.bool false) (want_none rfl) rfl rfl rfl rfl rfl ?_
              refine wl_mv (.bool false) (want_none rfl) rfl rfl (.inl rfl) rfl ?_
              refine wl_skip rfl rfl rfl rfl rfl rfl rfl ?_
              refine wl_skip rfl rfl rfl rfl rfl rfl rfl ?_
              refine wl_skip rfl rfl rfl rfl rfl rfl rfl ?_
              refine wl_pick_f (.bool false) (want_none rfl) rfl rfl rfl rfl rfl ?_
              refine wl_mv (.bool false) (want_none rfl) rfl rfl (.inl rfl) rfl ?_
              refine wl_skip rfl rfl rfl rfl rfl rfl rfl ?_
              refine wl_skip rfl rfl rfl rfl rfl rfl rfl ?_
              refine wl_skip rfl rfl rfl rfl rfl rfl rfl ?_
              refine wl_pick_f (.bool false) (want_none rfl) rfl rfl rfl rfl rfl ?_
              refine wl_mv (.bool false) (want_none rfl) rfl rfl (.inr rfl) rfl ?_
              refine wl_nil ?_
              refine wq_then ?_
              refine wc_ret ?_
              refine ret_1 (.inl rfl) (.bool false) rfl rfl ?_
              refine ⟨m53.keep0, ?_⟩
              have hF86 : F_impl_NoteOk x_n = false := by simp only [F_impl_NoteOk, h29, h34, h39, h44, h49, h54, cond_true, cond_false]
              rw [hF86]
              exact rfl
          · have q87 := impl_within_f h49
            refine wl_skip rfl rfl rfl (congrArg Value.bool h49) rfl rfl rfl ?_
            refine wl_skip rfl rfl rfl (congrArg Value.bool h49) rfl rfl rfl ?_
            refine wl_skip rfl rfl rfl (congrArg Value.bool h49) rfl rfl rfl ?_
            refine wl_pick_f (.bool false) (want_none rfl) rfl rfl rfl (congrArg Value.bool h49) rfl ?_
            refine wl_mv (.bool false) (want_none rfl) rfl rfl (.inl rfl) rfl ?_
            refine wl_skip rfl rfl rfl rfl rfl rfl rfl ?_
            refine wl_skip rfl rfl rfl rfl rfl rfl rfl ?_
            refine wl_skip rfl rfl rfl rfl rfl rfl rfl ?_
            refine wl_pick_f (.bool false) (want_none rfl) rfl rfl rfl rfl rfl ?_
            refine wl_mv (.bool false) (want_none rfl) rfl rfl (.inl rfl) rfl ?_
            refine wl_skip rfl rfl rfl rfl rfl rfl rfl ?_
            refine wl_skip rfl rfl rfl rfl rfl rfl rfl ?_
            refine wl_skip rfl rfl rfl rfl rfl rfl rfl ?_
            refine wl_pick_f (.bool false) (want_none rfl) rfl rfl rfl rfl rfl ?_
            refine wl_mv (.bool false) (want_none rfl) rfl rfl (.inl rfl) rfl ?_
            refine wl_skip rfl rfl rfl rfl rfl rfl rfl ?_
            refine wl_skip rfl rfl rfl rfl rfl rfl rfl ?_
            refine wl_skip rfl rfl rfl rfl rfl rfl rfl ?_
            refine wl_skip rfl rfl rfl rfl rfl rfl rfl ?_
            refine wl_pick_f (.bool false) (want_none rfl) rfl rfl rfl rfl rfl ?_
            refine wl_mv (.bool false) (want_none rfl) rfl rfl (.inl rfl) rfl ?_
            refine wl_skip rfl rfl rfl rfl rfl rfl rfl ?_
            refine wl_skip rfl rfl rfl rfl rfl rfl rfl ?_
            refine wl_skip rfl rfl rfl rfl rfl rfl rfl ?_
            refine wl_pick_f (.bool false) (want_none rfl) rfl rfl rfl rfl rfl ?_
            refine wl_mv (.bool false) (want_none rfl) rfl rfl (.inl rfl) rfl ?_
            refine wl_skip rfl rfl rfl rfl rfl rfl rfl ?_
            refine wl_skip rfl rfl rfl rfl rfl rfl rfl ?_
            refine wl_skip rfl rfl rfl rfl rfl rfl rfl ?_
            refine wl_pick_f (.bool false) (want_none rfl) rfl rfl rfl rfl rfl ?_
            refine wl_mv (.bool false) (want_none rfl) rfl rfl (.inr rfl) rfl ?_
            refine wl_nil ?_
            refine wq_then ?_
            refine wc_ret ?_
            refine ret_1 (.inl rfl) (.bool false) rfl rfl ?_
            refine ⟨m48.keep0, ?_⟩
            have hF88 : F_impl_NoteOk x_n = false := by simp only [F_impl_NoteOk, h29, h34, h39, h44, h49, cond_true, cond_false]
            rw [hF88]
            exact rfl
        · have q89 := impl_within_f h44
          refine wl_skip rfl rfl rfl (congrArg Value.bool h44) rfl rfl rfl ?_
          refine wl_skip rfl rfl rfl (congrArg Value.bool h44) rfl rfl rfl ?_
          refine wl_skip rfl rfl rfl (congrArg Value.bool h44) rfl rfl rfl ?_
          refine wl_pick_f (.bool false) (want_none rfl) rfl rfl rfl (congrArg Value.bool h44) rfl ?_
          refine wl_mv (.bool false) (want_none rfl) rfl rfl (.inl rfl) rfl ?_
          refine wl_skip rfl rfl rfl rfl rfl rfl rfl ?_
          refine wl_skip rfl rfl rfl rfl rfl rfl rfl ?_
          refine wl_skip rfl rfl rfl rfl rfl rfl rfl ?_
          refine wl_pick_f (.bool false) (want_none rfl) rfl rfl rfl rfl rfl ?_
          refine wl_mv (.bool false) (want_none rfl) rfl rfl (.inl rfl) rfl ?_
          refine wl_skip rfl rfl rfl rfl rfl rfl rfl ?_
          refine wl_skip rfl rfl rfl rfl rfl rfl rfl ?_
          refine wl_skip rfl rfl rfl rfl rfl rfl rfl ?_
          refine wl_pick_f (.bool false) (want_none rfl) rfl rfl rfl rfl rfl ?_
          refine wl_mv (.bool false) (want_none rfl) rfl rfl (.inl rfl) rfl ?_
          refine wl_skip rfl rfl rfl rfl rfl rfl rfl ?_
          refine wl_skip rfl rfl rfl rfl rfl rfl rfl ?_
          refine wl_skip rfl rfl rfl rfl rfl rfl rfl ?_
          refine wl_pick_f (.bool false) (want_none rfl) rfl rfl rfl rfl rfl ?_
          refine wl_mv (.bool false) (want_none rfl) rfl rfl (.inl rfl) rfl ?_
          refine wl_skip rfl rfl rfl rfl rfl rfl rfl ?_
          refine wl_skip rfl rfl rfl rfl rfl rfl rfl ?_
          refine wl_skip rfl rfl rfl rfl rfl rfl rfl ?_
          refine wl_skip rfl rfl rfl rfl rfl rfl rfl ?_
          refine wl_pick_f (.bool false) (want_none rfl) rfl rfl rfl rfl rfl ?_
          refine wl_mv (.bool false) (want_none rfl) rfl rfl (.inl rfl) rfl ?_
          refine wl_skip rfl rfl rfl rfl rfl rfl rfl ?_
          refine wl_skip rfl rfl rfl rfl rfl rfl rfl ?_
          refine wl_skip rfl rfl rfl rfl rfl rfl rfl ?_
          refine wl_pick_f (.bool false) (want_none rfl) rfl rfl rfl rfl rfl ?_
          refine wl_mv (.bool false) (want_none rfl) rfl rfl (.inl rfl) rfl ?_
          refine wl_skip rfl rfl rfl rfl rfl rfl rfl ?_
          refine wl_skip rfl rfl rfl rfl rfl rfl rfl ?_
          refine wl_skip rfl rfl rfl rfl rfl rfl rfl ?_
          refine wl_pick_f (.bool false) (want_none rfl) rfl rfl rfl rfl rfl ?_
          refine wl_mv (.bool false) (want_none rfl) rfl rfl (.inr rfl) rfl ?_
          refine wl_nil ?_
          refine wq_then ?_
          refine wc_ret ?_
          refine ret_1 (.inl rfl) (.bool false) rfl rfl ?_
          refine ⟨m43.keep0, ?_⟩
          have hF90 : F_impl_NoteOk x_n = false := by simp only [F_impl_NoteOk, h29, h34, h39, h44, cond_true, cond_false]
          rw [hF90]
          exact rfl
      · have q91 := impl_within_f h39
        refine wl_skip rfl rfl rfl (congrArg Value.bool h39) rfl rfl rfl ?_
        refine wl_skip rfl rfl rfl (congrArg Value.bool h39) rfl rfl rfl ?_
        refine wl_skip rfl rfl rfl (congrArg Value.bool h39) rfl rfl rfl ?_
        refine wl_pick_f (.bool false) (want_none rfl) rfl rfl rfl (congrArg Value.bool h39) rfl ?_
        refine wl_mv (.bool false) (want_none rfl) rfl rfl (.inl rfl) rfl ?_
        refine wl_skip rfl rfl rfl rfl rfl rfl rfl ?_
        refine wl_skip rfl rfl rfl rfl rfl rfl rfl ?_
        refine wl_skip rfl rfl rfl rfl rfl rfl rfl ?_
        refine wl_pick_f (.bool false) (want_none rfl) rfl rfl rfl rfl rfl ?_
        refine wl_mv (.bool false) (want_none rfl) rfl rfl (.inl rfl) rfl ?_
        refine wl_skip rfl rfl rfl rfl rfl rfl rfl ?_
        refine wl_skip rfl rfl rfl rfl rfl rfl rfl ?_
        refine wl_skip rfl rfl rfl rfl rfl rfl rfl ?_
        refine wl_pick_f (.bool false) (want_none rfl) rfl rfl rfl rfl rfl ?_
        refine wl_mv (.bool false) (want_none rfl) rfl rfl (.inl rfl) rfl ?_
        refine wl_skip rfl rfl rfl rfl rfl rfl rfl ?_
        refine wl_skip rfl rfl rfl rfl rfl rfl rfl ?_
        refine wl_skip rfl rfl rfl rfl rfl rfl rfl ?_
        refine wl_pick_f (.bool false) (want_none rfl) rfl rfl rfl rfl rfl ?_
        refine wl_mv (.bool false) (want_none rfl) rfl rfl (.inl rfl) rfl ?_
        refine wl_skip rfl rfl rfl rfl rfl rfl rfl ?_
        refine wl_skip rfl rfl rfl rfl rfl rfl rfl ?_
        refine wl_skip rfl rfl rfl rfl rfl rfl rfl ?_
        refine wl_pick_f (.bool false) (want_none rfl) rfl rfl rfl rfl rfl ?_
        refine wl_mv (.bool false) (want_none rfl) rfl rfl (.inl rfl) rfl ?_
        refine wl_skip rfl rfl rfl rfl rfl rfl rfl ?_
        refine wl_skip rfl rfl rfl rfl rfl rfl rfl ?_
        refine wl_skip rfl rfl rfl rfl rfl rfl rfl ?_
        refine wl_skip rfl rfl rfl rfl rfl rfl rfl ?_
        refine wl_pick_f (.bool false) (want_none rfl) rfl rfl rfl rfl rfl ?_
        refine wl_mv (.bool false) (want_none rfl) rfl rfl (.inl rfl) rfl ?_
        refine wl_skip rfl rfl rfl rfl rfl rfl rfl ?_
        refine wl_skip rfl rfl rfl rfl rfl rfl rfl ?_
        refine wl_skip rfl rfl rfl rfl rfl rfl rfl ?_
        refine wl_pick_f (.bool false) (want_none rfl) rfl rfl rfl rfl rfl ?_
        refine wl_mv (.bool false) (want_none rfl) rfl rfl (.inl rfl) rfl ?_
        refine wl_skip rfl rfl rfl rfl rfl rfl rfl ?_
        refine wl_skip rfl rfl rfl rfl rfl rfl rfl ?_
        refine wl_skip rfl rfl rfl rfl rfl rfl rfl ?_
        refine wl_pick_f (.bool false) (want_none rfl) rfl rfl rfl rfl rfl ?_
        refine wl_mv (.bool false) (want_none rfl) rfl rfl (.inr rfl) rfl ?_
        refine wl_nil ?_
        refine wq_then ?_
        refine wc_ret ?_
        refine ret_1 (.inl rfl) (.bool false) rfl rfl ?_
        refine ⟨m38.keep0, ?_⟩
        have hF92 : F_impl_NoteOk x_n = false := by simp only [F_impl_NoteOk, h29, h34, h39, cond_true, cond_false]
        rw [hF92]
        exact rfl
    · have q93 := impl_within_f h34
      refine wl_skip rfl rfl rfl (congrArg Value.bool h34) rfl rfl rfl ?_
      refine wl_skip rfl rfl rfl (congrArg Value.bool h34) rfl rfl rfl ?_
      refine wl_skip rfl rfl rfl (congrArg Value.bool h34) rfl rfl rfl ?_
      refine wl_pick_f (.bool false) (want_none rfl) rfl rfl rfl (congrArg Value.bool h34) rfl ?_
      refine wl_mv (.bool false) (want_none rfl) rfl rfl (.inl rfl) rfl ?_
      refine wl_skip rfl rfl rfl rfl rfl rfl rfl ?_
      refine wl_skip rfl rfl rfl rfl rfl rfl rfl ?_
      refine wl_skip rfl rfl rfl rfl rfl rfl rfl ?_
      refine wl_pick_f (.bool false) (want_none rfl) rfl rfl rfl rfl rfl ?_
      refine wl_mv (.bool false) (want_none rfl) rfl rfl (.inl rfl) rfl ?_
      refine wl_skip rfl rfl rfl rfl rfl rfl rfl ?_
      refine wl_skip rfl rfl rfl rfl rfl rfl rfl ?_
      refine wl_skip rfl rfl rfl rfl rfl rfl rfl ?_
      refine wl_pick_f (.bool false) (want_none rfl) rfl rfl rfl rfl rfl ?_
      refine wl_mv (.bool false) (want_none rfl) rfl rfl (.inl rfl) rfl ?_
      refine wl_skip rfl rfl rfl rfl rfl rfl rfl ?_
      refine wl_skip rfl rfl rfl rfl rfl rfl rfl ?_
      refine wl_skip rfl rfl rfl rfl rfl rfl rfl ?_
      refine wl_pick_f (.bool false) (want_none rfl) rfl rfl rfl rfl rfl ?_
      refine wl_mv (.bool false) (want_none rfl) rfl rfl (.inl rfl) rfl ?_
      refine wl_skip rfl rfl rfl rfl rfl rfl rfl ?_
      refine wl_skip rfl rfl rfl rfl rfl rfl rfl ?_
      refine wl_skip rfl rfl rfl rfl rfl rfl rfl ?_
      refine wl_pick_f (.bool false) (want_none rfl) rfl rfl rfl rfl rfl ?_
      refine wl_mv (.bool false) (want_none rfl) rfl rfl (.inl rfl) rfl ?_
      refine wl_skip rfl rfl rfl rfl rfl rfl rfl ?_
      refine wl_skip rfl rfl rfl rfl rfl rfl rfl ?_
      refine wl_skip rfl rfl rfl rfl rfl rfl rfl ?_
      refine wl_pick_f (.bool false) (want_none rfl) rfl rfl rfl rfl rfl ?_
      refine wl_mv (.bool false) (want_none rfl) rfl rfl (.inl rfl) rfl ?_
      refine wl_skip rfl rfl rfl rfl rfl rfl rfl ?_
      refine wl_skip rfl rfl rfl rfl rfl rfl rfl ?_
      refine wl_skip rfl rfl rfl rfl rfl rfl rfl ?_
      refine wl_skip rfl rfl rfl rfl rfl rfl rfl ?_
      refine wl_pick_f (.bool false) (want_none rfl) rfl rfl rfl rfl rfl ?_
      refine wl_mv (.bool false) (want_none rfl) rfl rfl (.inl rfl) rfl ?_
      refine wl_skip rfl rfl rfl rfl rfl rfl rfl ?_
      refine wl_skip rfl rfl rfl rfl rfl rfl rfl ?_
      refine wl_skip rfl rfl rfl rfl rfl rfl rfl ?_
      refine wl_pick_f (.bool false) (want_none rfl) rfl rfl rfl rfl rfl ?_
      refine wl_mv (.bool false) (want_none rfl) rfl rfl (.inl rfl) rfl ?_
      refine wl_skip rfl rfl rfl rfl rfl rfl rfl ?_
      refine wl_skip rfl rfl rfl rfl rfl rfl rfl ?_
      refine wl_skip rfl rfl rfl rfl rfl rfl rfl ?_
      refine wl_pick_f (.bool false) (want_none rfl) rfl rfl rfl rfl rfl ?_
      refine wl_mv (.bool false) (want_none rfl) rfl rfl (.inr rfl) rfl ?_
      refine wl_nil ?_
      refine wq_then ?_
      refine wc_ret ?_
      refine ret_1 (.inl rfl) (.bool false) rfl rfl ?_
      refine ⟨m33.keep0, ?_⟩
      have hF94 : F_impl_NoteOk x_n = false := by simp only [F_impl_NoteOk, h29, h34, cond_true, cond_false]
      rw [hF94]
      exact rfl
  · have q95 := impl_within_f h29
    refine wl_skip rfl rfl rfl (congrArg Value.bool h29) rfl rfl rfl ?_
    refine wl_skip rfl rfl rfl (congrArg Value.bool h29) rfl rfl rfl ?_
    refine wl_skip rfl rfl rfl (congrArg Value.bool h29) rfl rfl rfl ?_
    refine wl_pick_f (.bool false) (want_none rfl) rfl rfl rfl (congrArg Value.bool h29) rfl ?_
    refine wl_mv (.bool false) (want_none rfl) rfl rfl (.inl rfl) rfl ?_
    refine wl_skip rfl rfl rfl rfl rfl rfl rfl ?_
    refine wl_skip rfl rfl rfl rfl rfl rfl rfl ?_
    refine wl_skip rfl rfl rfl rfl rfl rfl rfl ?_
    refine wl_pick_f (.bool false) (want_none rfl) rfl rfl rfl rfl rfl ?_
    refine wl_mv (.bool false) (want_none rfl) rfl rfl (.inl rfl) rfl ?_
    refine wl_skip rfl rfl rfl rfl rfl rfl rfl ?_
    refine wl_skip rfl rfl rfl rfl rfl rfl rfl ?_
    refine wl_skip rfl rfl rfl rfl rfl rfl rfl ?_
    refine wl_pick_f (.bool false) (want_none rfl) rfl rfl rfl rfl rfl ?_
    refine wl_mv (.bool false) (want_none rfl) rfl rfl (.inl rfl) rfl ?_
    refine wl_skip rfl rfl rfl rfl rfl rfl rfl ?_
    refine wl_skip rfl rfl rfl rfl rfl rfl rfl ?_
    refine wl_skip rfl rfl rfl rfl rfl rfl rfl ?_
    refine wl_pick_f (.bool false) (want_none rfl) rfl rfl rfl rfl rfl ?_
    refine wl_mv (.bool false) (want_none rfl) rfl rfl (.inl rfl) rfl ?_
    refine wl_skip rfl rfl rfl rfl rfl rfl rfl ?_
    refine wl_skip rfl rfl rfl rfl rfl rfl rfl ?_
    refine wl_skip rfl rfl rfl rfl rfl rfl rfl ?_
    refine wl_pick_f (.bool false) (want_none rfl) rfl rfl rfl rfl rfl ?_
    refine wl_mv (.bool false) (want_none rfl) rfl rfl (.inl rfl) rfl ?_
    refine wl_skip rfl rfl rfl rfl rfl rfl rfl ?_
    refine wl_skip rfl rfl rfl rfl rfl rfl rfl ?_
    refine wl_skip rfl rfl rfl rfl rfl rfl rfl ?_
    refine wl_pick_f (.bool false) (want_none rfl) rfl rfl rfl rfl rfl ?_
    refine wl_mv (.bool false) (want_none rfl) rfl rfl (.inl rfl) rfl ?_
    refine wl_skip rfl rfl rfl rfl rfl rfl rfl ?_
    refine wl_skip rfl rfl rfl rfl rfl rfl rfl ?_
    refine wl_skip rfl rfl rfl rfl rfl rfl rfl ?_
    refine wl_pick_f (.bool false) (want_none rfl) rfl rfl rfl rfl rfl ?_
    refine wl_mv (.bool false) (want_none rfl) rfl rfl (.inl rfl) rfl ?_
    refine wl_skip rfl rfl rfl rfl rfl rfl rfl ?_
    refine wl_skip rfl rfl rfl rfl rfl rfl rfl ?_
    refine wl_skip rfl rfl rfl rfl rfl rfl rfl ?_
    refine wl_skip rfl rfl rfl rfl rfl rfl rfl ?_
    refine wl_pick_f (.bool false) (want_none rfl) rfl rfl rfl rfl rfl ?_
    refine wl_mv (.bool false) (want_none rfl) rfl rfl (.inl rfl) rfl ?_
    refine wl_skip rfl rfl rfl rfl rfl rfl rfl ?_
    refine wl_skip rfl rfl rfl rfl rfl rfl rfl ?_
    refine wl_skip rfl rfl rfl rfl rfl rfl rfl ?_
    refine wl_pick_f (.bool false) (want_none rfl) rfl rfl rfl rfl rfl ?_
    refine wl_mv (.bool false) (want_none rfl) rfl rfl (.inl rfl) rfl ?_
    refine wl_skip rfl rfl rfl rfl rfl rfl rfl ?_
    refine wl_skip rfl rfl rfl rfl rfl rfl rfl ?_
    refine wl_skip rfl rfl rfl rfl rfl rfl rfl ?_
    refine wl_pick_f (.bool false) (want_none rfl) rfl rfl rfl rfl rfl ?_
    refine wl_mv (.bool false) (want_none rfl) rfl rfl (.inr rfl) rfl ?_
    refine wl_nil ?_
    refine wq_then ?_
    refine wc_ret ?_
    refine ret_1 (.inl rfl) (.bool false) rfl rfl ?_
    refine ⟨m28.keep0, ?_⟩
    have hF96 : F_impl_NoteOk x_n = false := by simp only [F_impl_NoteOk, h29, cond_true, cond_false]
    rw [hF96]
    exact rfl

def F_laws_FnExactNoteOk (x_aN : PNote) : (Bool) := bif (decide ((F_laws_szNote x_aN 1048576) < 0)) then (true) else (bif ((F_impl_NoteOk (F_laws_toNote x_aN)) == (F_spec_NoteOk (F_laws_toNote x_aN))) then (bif (F_laws_eqNote (F_laws_toNote x_aN) (F_laws_toNote x_aN)) then (true) else (false)) else (false))
theorem C_laws_FnExactNoteOk (w0 : World) (v_x_aN : Value) (x_aN : PNote) (r_x_aN : Q_58 w0 v_x_aN x_aN)  : Fn Try.prog 10 #[v_x_aN] w0 (fun v w' => Keep w0 w' ∧ O_4 w' w0.heap.size v (F_laws_FnExactNoteOk x_aN)) := by
  obtain ⟨a1, c2, a6, c7, a11, c12, a16, c17, rfl, r3, s4, r8, s9, r13, s14, r18, s19⟩ := r_x_aN
  refine fn_of (n := 27) (l := [(.agg #[(.int .i64 x_aN.Kind), (.int .i64 x_aN.Id), (.int .i64 x_aN.Role), (.slice a1 x_aN.Cn.length c2), (.slice a6 x_aN.Sn.length c7), (.int .i64 x_aN.Epoch), (.int .i64 x_aN.Seq), (.slice a11 x_aN.Body.length c12), (.slice a16 x_aN.Key.length c17), (.int .i64 x_aN.A.Host), (.int .i64 x_aN.A.Port), (.int .i64 x_aN.Now)]), undef, undef, undef, undef, undef, undef, undef, undef, undef, undef, undef, undef, undef, undef, undef, undef, undef, undef, undef, undef, undef, undef, undef, undef, undef, undef]) Try.func10 rfl rfl (by kernel_rfl) rfl ?_
  refine wc_seq ?_
  refine wc_region ?_
  refine wl_box (want_none rfl) [(.int .i64 x_aN.Kind), (.int .i64 x_aN.Id), (.int .i64 x_aN.Role), (.slice a1 x_aN.Cn.length c2), (.slice a6 x_aN.Sn.length c7), (.int .i64 x_aN.Epoch), (.int .i64 x_aN.Seq), (.slice a11 x_aN.Body.length c12), (.slice a16 x_aN.Key.length c17), (.int .i64 x_aN.A.Host), (.int .i64 x_aN.A.Port), (.int .i64 x_aN.Now)] rfl rfl rfl rfl ?_
  intro g21 w1 p22 p23 k24 b25
  have m26 := (Ch.base w0).extk k24
  refine wl_mv (.bool false) (want_none rfl) rfl rfl (.inr rfl) rfl ?_
  refine wl_nil ?_
  refine wq_then ?_
  refine wc_seq ?_
  refine wc_region ?_
  refine wl_mv (.int .i64 1048576) (want_none rfl) rfl rfl (.inr rfl) rfl ?_
  refine wl_nil ?_
  refine wq_then ?_
  refine wc_seq ?_
  refine wc_region ?_
  refine wl_loadN [(.int .i64 x_aN.Kind), (.int .i64 x_aN.Id), (.int .i64 x_aN.Role), (.slice a1 x_aN.Cn.length c2), (.slice a6 x_aN.Sn.length c7), (.int .i64 x_aN.Epoch), (.int .i64 x_aN.Seq), (.slice a11 x_aN.Body.length c12), (.slice a16 x_aN.Key.length c17), (.int .i64 x_aN.A.Host), (.int .i64 x_aN.A.Port), (.int .i64 x_aN.Now)] (want_none rfl) rfl rfl rfl rfl isAgg_58 sizeOf_58 b25 rfl ?_
  refine wl_mv (.int .i64 1048576) (want_none rfl) rfl rfl (.inl rfl) rfl ?_
  refine wl_call (want_none rfl) (args := #[(.agg #[(.int .i64 x_aN.Kind), (.int .i64 x_aN.Id), (.int .i64 x_aN.Role), (.slice a1 x_aN.Cn.length c2), (.slice a6 x_aN.Sn.length c7), (.int .i64 x_aN.Epoch), (.int .i64 x_aN.Seq), (.slice a11 x_aN.Body.length c12), (.slice a16 x_aN.Key.length c17), (.int .i64 x_aN.A.Host), (.int .i64 x_aN.A.Port), (.int .i64 x_aN.Now)]), (.int .i64 1048576)]) rfl rfl (by kernel_rfl) (C_laws_szNote w1 (.agg #[(.int .i64 x_aN.Kind), (.int .i64 x_aN.Id), (.int .i64 x_aN.Role), (.slice a1 x_aN.Cn.length c2), (.slice a6 x_aN.Sn.length c7), (.int .i64 x_aN.Epoch), (.int .i64 x_aN.Seq), (.slice a11 x_aN.Body.length c12), (.slice a16 x_aN.Key.length c17), (.int .i64 x_aN.A.Host), (.int .i64 x_aN.A.Port), (.int .i64 x_aN.Now)]) x_aN (show Q_58 w1 (.agg #[(.int .i64 x_aN.Kind), (.int .i64 x_aN.Id), (.int .i64 x_aN.Role), (.slice a1 x_aN.Cn.length c2), (.slice a6 x_aN.Sn.length c7), (.int .i64 x_aN.Epoch), (.int .i64 x_aN.Seq), (.slice a11 x_aN.Body.length c12), (.slice a16 x_aN.Key.length c17), (.int .i64 x_aN.A.Host), (.int .i64 x_aN.A.Port), (.int .i64 x_aN.Now)]) x_aN from ⟨_, _, _, _, _, _, _, _, rfl, (r3.from0 m26), s4, (r8.from0 m26), s9, (r13.from0 m26), s14, (r18.from0 m26), s19⟩) 1048576 (by omega) (by omega)) ?_
  rintro _ w2 ⟨k27, rfl⟩
  have m28 := m26.extk k27
  have q29 := laws_szNote_le x_aN 1048576
  refine wl_mv (.int .i64 (F_laws_szNote x_aN 1048576)) (want_none rfl) rfl rfl (.inr rfl) rfl ?_
  refine wl_nil ?_
  refine wq_then ?_
  refine wc_seq ?_
  refine wc_seq ?_
  refine wc_region ?_
  refine wl_mv (.int .i64 (F_laws_szNote x_aN 1048576)) (want_none rfl) rfl rfl (.inl rfl) rfl ?_
  refine wl_pure (.bool (decide ((F_laws_szNote x_aN 1048576) < 0))) (want_none rfl) rfl rfl (by kernel_rfl) ?_
  refine wl_nil ?_
  refine wq_then ?_
  rcases Bool.eq_false_or_eq_true (decide ((F_laws_szNote x_aN 1048576) < 0)) with h30 | h30
  · have q31 := of_decide_eq_true h30
    refine wc_true (congrArg Value.bool h30) ?_
    refine wc_seq ?_
    refine wc_region ?_
    refine wl_mv (.bool true) (want_none rfl) rfl rfl (.inr rfl) rfl ?_
    refine wl_nil ?_
    refine wq_then ?_
    refine wc_ret ?_
    refine wq_then_ret ?_
    refine ret_1 (.inl rfl) (.bool true) rfl rfl ?_
    refine ⟨m28.keep0, ?_⟩
    have hF32 : F_laws_FnExactNoteOk x_aN = true := by simp only [F_laws_FnExactNoteOk, h30, cond_true, cond_false]
    rw [hF32]
    exact rfl
  · have q33 := of_decide_eq_false h30
    refine wc_false (congrArg Value.bool h30) ?_
    refine wc_skip ?_
    refine wq_then ?_
    refine wc_seq ?_
    refine wc_region ?_
    have b34 := (b25.kp k27)
    refine wl_loadN [(.int .i64 x_aN.Kind), (.int .i64 x_aN.Id), (.int .i64 x_aN.Role), (.slice a1 x_aN.Cn.length c2), (.slice a6 x_aN.Sn.length c7), (.int .i64 x_aN.Epoch), (.int .i64 x_aN.Seq), (.slice a11 x_aN.Body.length c12), (.slice a16 x_aN.Key.length c17), (.int .i64 x_aN.A.Host), (.int .i64 x_aN.A.Port), (.int .i64 x_aN.Now)] (want_none rfl) rfl rfl rfl rfl isAgg_58 sizeOf_58 b34 rfl ?_
    refine wl_call (want_none rfl) (args := #[(.agg #[(.int .i64 x_aN.Kind), (.int .i64 x_aN.Id), (.int .i64 x_aN.Role), (.slice a1 x_aN.Cn.length c2), (.slice a6 x_aN.Sn.length c7), (.int .i64 x_aN.Epoch), (.int .i64 x_aN.Seq), (.slice a11 x_aN.Body.length c12), (.slice a16 x_aN.Key.length c17), (.int .i64 x_aN.A.Host), (.int .i64 x_aN.A.Port), (.int .i64 x_aN.Now)])]) rfl rfl (by kernel_rfl) (C_laws_toNote w2 (.agg #[(.int .i64 x_aN.Kind), (.int .i64 x_aN.Id), (.int .i64 x_aN.Role), (.slice a1 x_aN.Cn.length c2), (.slice a6 x_aN.Sn.length c7), (.int .i64 x_aN.Epoch), (.int .i64 x_aN.Seq), (.slice a11 x_aN.Body.length c12), (.slice a16 x_aN.Key.length c17), (.int .i64 x_aN.A.Host), (.int .i64 x_aN.A.Port), (.int .i64 x_aN.Now)]) x_aN (show R_58 w2 (.agg #[(.int .i64 x_aN.Kind), (.int .i64 x_aN.Id), (.int .i64 x_aN.Role), (.slice a1 x_aN.Cn.length c2), (.slice a6 x_aN.Sn.length c7), (.int .i64 x_aN.Epoch), (.int .i64 x_aN.Seq), (.slice a11 x_aN.Body.length c12), (.slice a16 x_aN.Key.length c17), (.int .i64 x_aN.A.Host), (.int .i64 x_aN.A.Port), (.int .i64 x_aN.Now)]) x_aN from ⟨_, _, _, _, _, _, _, _, rfl, (r3.from0 m28), (by omega), (r8.from0 m28), (by omega), (r13.from0 m28), (by omega), (r18.from0 m28), (by omega)⟩)) ?_
    rintro _ w3 ⟨k35, ⟨a36, c37, a41, c42, a46, c47, a51, c52, rfl, o38, s39, o43, s44, o48, s49, o53, s54, ap56⟩⟩
    have m57 := m28.extk k35
    refine wl_call (want_none rfl) (args := #[(.agg #[(.int .i64 ((F_laws_toNote x_aN).Kind)), (.int .i64 ((F_laws_toNote x_aN).Id)), (.int .i64 ((F_laws_toNote x_aN).Role)), (.slice a36 ((F_laws_toNote x_aN).Cn).length c37), (.slice a41 ((F_laws_toNote x_aN).Sn).length c42), (.int .i64 ((F_laws_toNote x_aN).Epoch)), (.int .i64 ((F_laws_toNote x_aN).Seq)), (.slice a46 ((F_laws_toNote x_aN).Body).length c47), (.slice a51 ((F_laws_toNote x_aN).Key).length c52), (.int .i64 (((F_laws_toNote x_aN).A).Host)), (.int .i64 (((F_laws_toNote x_aN).A).Port)), (.int .i64 ((F_laws_toNote x_aN).Now))])]) rfl rfl (by kernel_rfl) (C_spec_NoteOk w3 (.agg #[(.int .i64 ((F_laws_toNote x_aN).Kind)), (.int .i64 ((F_laws_toNote x_aN).Id)), (.int .i64 ((F_laws_toNote x_aN).Role)), (.slice a36 ((F_laws_toNote x_aN).Cn).length c37), (.slice a41 ((F_laws_toNote x_aN).Sn).length c42), (.int .i64 ((F_laws_toNote x_aN).Epoch)), (.int .i64 ((F_laws_toNote x_aN).Seq)), (.slice a46 ((F_laws_toNote x_aN).Body).length c47), (.slice a51 ((F_laws_toNote x_aN).Key).length c52), (.int .i64 (((F_laws_toNote x_aN).A).Host)), (.int .i64 (((F_laws_toNote x_aN).A).Port)), (.int .i64 ((F_laws_toNote x_aN).Now))]) (F_laws_toNote x_aN) (show R_63 w3 (.agg #[(.int .i64 ((F_laws_toNote x_aN).Kind)), (.int .i64 ((F_laws_toNote x_aN).Id)), (.int .i64 ((F_laws_toNote x_aN).Role)), (.slice a36 ((F_laws_toNote x_aN).Cn).length c37), (.slice a41 ((F_laws_toNote x_aN).Sn).length c42), (.int .i64 ((F_laws_toNote x_aN).Epoch)), (.int .i64 ((F_laws_toNote x_aN).Seq)), (.slice a46 ((F_laws_toNote x_aN).Body).length c47), (.slice a51 ((F_laws_toNote x_aN).Key).length c52), (.int .i64 (((F_laws_toNote x_aN).A).Host)), (.int .i64 (((F_laws_toNote x_aN).A).Port)), (.int .i64 ((F_laws_toNote x_aN).Now))]) (F_laws_toNote x_aN) from ⟨_, _, _, _, _, _, _, _, rfl, (Rd.of_own o38), s39, (Rd.of_own o43), s44, (Rd.of_own o48), s49, (Rd.of_own o53), s54⟩)) ?_
    rintro _ w4 ⟨k58, rfl⟩
    have m59 := m57.extk k58
    refine wl_mv (.bool (F_spec_NoteOk (F_laws_toNote x_aN))) (want_none rfl) rfl rfl (.inr rfl) rfl ?_
    refine wl_nil ?_
    refine wq_then ?_
    refine wc_seq ?_
    refine wc_region ?_
    have b60 := ((b34.kp k35).kp k58)
    refine wl_loadN [(.int .i64 x_aN.Kind), (.int .i64 x_aN.Id), (.int .i64 x_aN.Role), (.slice a1 x_aN.Cn.length c2), (.slice a6 x_aN.Sn.length c7), (.int .i64 x_aN.Epoch), (.int .i64 x_aN.Seq), (.slice a11 x_aN.Body.length c12), (.slice a16 x_aN.Key.length c17), (.int .i64 x_aN.A.Host), (.int .i64 x_aN.A.Port), (.int .i64 x_aN.Now)] (want_none rfl) rfl rfl rfl rfl isAgg_58 sizeOf_58 b60 rfl ?_
    refine wl_call (want_none rfl) (args := #[(.agg #[(.int .i64 x_aN.Kind), (.int .i64 x_aN.Id), (.int .i64 x_aN.Role), (.slice a1 x_aN.Cn.length c2), (.slice a6 x_aN.Sn.length c7), (.int .i64 x_aN.Epoch), (.int .i64 x_aN.Seq), (.slice a11 x_aN.Body.length c12), (.slice a16 x_aN.Key.length c17), (.int .i64 x_aN.A.Host), (.int .i64 x_aN.A.Port), (.int .i64 x_aN.Now)])]) rfl rfl (by kernel_rfl) (C_laws_toNote w4 (.agg #[(.int .i64 x_aN.Kind), (.int .i64 x_aN.Id), (.int .i64 x_aN.Role), (.slice a1 x_aN.Cn.length c2), (.slice a6 x_aN.Sn.length c7), (.int .i64 x_aN.Epoch), (.int .i64 x_aN.Seq), (.slice a11 x_aN.Body.length c12), (.slice a16 x_aN.Key.length c17), (.int .i64 x_aN.A.Host), (.int .i64 x_aN.A.Port), (.int .i64 x_aN.Now)]) x_aN (show R_58 w4 (.agg #[(.int .i64 x_aN.Kind), (.int .i64 x_aN.Id), (.int .i64 x_aN.Role), (.slice a1 x_aN.Cn.length c2), (.slice a6 x_aN.Sn.length c7), (.int .i64 x_aN.Epoch), (.int .i64 x_aN.Seq), (.slice a11 x_aN.Body.length c12), (.slice a16 x_aN.Key.length c17), (.int .i64 x_aN.A.Host), (.int .i64 x_aN.A.Port), (.int .i64 x_aN.Now)]) x_aN from ⟨_, _, _, _, _, _, _, _, rfl, (r3.from0 m59), (by omega), (r8.from0 m59), (by omega), (r13.from0 m59), (by omega), (r18.from0 m59), (by omega)⟩)) ?_
    rintro _ w5 ⟨k61, ⟨a62, c63, a67, c68, a72, c73, a77, c78, rfl, o64, s65, o69, s70, o74, s75, o79, s80, ap82⟩⟩
    have m83 := m59.extk k61
    refine wl_alloc (want_none rfl) (.agg #[(.int .i64 0), (.int .i64 0), (.int .i64 0), (.slice none 0 0), (.slice none 0 0), (.int .i64 0), (.int .i64 0), (.slice none 0 0), (.slice none 0 0), (.int .i64 0), (.int .i64 0), (.int .i64 0)]) [(.int .i64 0), (.int .i64 0), (.int .i64 0), (.slice none 0 0), (.slice none 0 0), (.int .i64 0), (.int .i64 0), (.slice none 0 0), (.slice none 0 0), (.int .i64 0), (.int .i64 0), (.int .i64 0)] zero_63 rfl rfl rfl rfl ?_
    intro g84 w6 p85 p86 k87 b88
    have m89 := m83.extk k87
    refine wl_store (.agg #[(.int .i64 ((F_laws_toNote x_aN).Kind)), (.int .i64 ((F_laws_toNote x_aN).Id)), (.int .i64 ((F_laws_toNote x_aN).Role)), (.slice a62 ((F_laws_toNote x_aN).Cn).length c63), (.slice a67 ((F_laws_toNote x_aN).Sn).length c68), (.int .i64 ((F_laws_toNote x_aN).Epoch)), (.int .i64 ((F_laws_toNote x_aN).Seq)), (.slice a72 ((F_laws_toNote x_aN).Body).length c73), (.slice a77 ((F_laws_toNote x_aN).Key).length c78), (.int .i64 (((F_laws_toNote x_aN).A).Host)), (.int .i64 (((F_laws_toNote x_aN).A).Port)), (.int .i64 ((F_laws_toNote x_aN).Now))]) [(.int .i64 ((F_laws_toNote x_aN).Kind)), (.int .i64 ((F_laws_toNote x_aN).Id)), (.int .i64 ((F_laws_toNote x_aN).Role)), (.slice a62 ((F_laws_toNote x_aN).Cn).length c63), (.slice a67 ((F_laws_toNote x_aN).Sn).length c68), (.int .i64 ((F_laws_toNote x_aN).Epoch)), (.int .i64 ((F_laws_toNote x_aN).Seq)), (.slice a72 ((F_laws_toNote x_aN).Body).length c73), (.slice a77 ((F_laws_toNote x_aN).Key).length c78), (.int .i64 (((F_laws_toNote x_aN).A).Host)), (.int .i64 (((F_laws_toNote x_aN).A).Port)), (.int .i64 ((F_laws_toNote x_aN).Now))] [(.int .i64 ((F_laws_toNote x_aN).Kind)), (.int .i64 ((F_laws_toNote x_aN).Id)), (.int .i64 ((F_laws_toNote x_aN).Role)), (.slice a62 ((F_laws_toNote x_aN).Cn).length c63), (.slice a67 ((F_laws_toNote x_aN).Sn).length c68), (.int .i64 ((F_laws_toNote x_aN).Epoch)), (.int .i64 ((F_laws_toNote x_aN).Seq)), (.slice a72 ((F_laws_toNote x_aN).Body).length c73), (.slice a77 ((F_laws_toNote x_aN).Key).length c78), (.int .i64 (((F_laws_toNote x_aN).A).Host)), (.int .i64 (((F_laws_toNote x_aN).A).Port)), (.int .i64 ((F_laws_toNote x_aN).Now))] (want_none rfl) rfl rfl rfl rfl rfl (one_cons rfl (one_cons rfl (one_cons rfl (one_cons rfl (one_cons rfl (one_cons rfl (one_cons rfl (one_cons rfl (one_cons rfl (one_cons rfl (one_cons rfl (one_cons rfl one_nil)))))))))))) sizeOf_63 b88 rfl rfl ?_
    intro w7 k90 b91 z92
    have m93 := m89.ext k90 (fun k hk => by subst hk; exact Nat.le_trans (Nat.le_trans (Nat.le_trans (Nat.le_trans (Nat.le_trans k24.size k27.size) k35.size) k58.size) k61.size) p85)
    refine wl_nil ?_
    refine wq_then ?_
    refine wc_seq ?_
    refine wc_region ?_
    refine wl_loadN [(.int .i64 ((F_laws_toNote x_aN).Kind)), (.int .i64 ((F_laws_toNote x_aN).Id)), (.int .i64 ((F_laws_toNote x_aN).Role)), (.slice a62 ((F_laws_toNote x_aN).Cn).length c63), (.slice a67 ((F_laws_toNote x_aN).Sn).length c68), (.int .i64 ((F_laws_toNote x_aN).Epoch)), (.int .i64 ((F_laws_toNote x_aN).Seq)), (.slice a72 ((F_laws_toNote x_aN).Body).length c73), (.slice a77 ((F_laws_toNote x_aN).Key).length c78), (.int .i64 (((F_laws_toNote x_aN).A).Host)), (.int .i64 (((F_laws_toNote x_aN).A).Port)), (.int .i64 ((F_laws_toNote x_aN).Now))] (want_none rfl) rfl rfl rfl rfl isAgg_63 sizeOf_63 b91 rfl ?_
    have o94 := (own_ch (own_kp o64 k87) k90 (fun g hg hlt hk => by have h1 := (own_lt o64 g hg).2; have h2 := Nat.le_trans (Nat.le_refl _) p85; omega))
    have o95 := (own_ch (own_kp o69 k87) k90 (fun g hg hlt hk => by have h1 := (own_lt o69 g hg).2; have h2 := Nat.le_trans (Nat.le_refl _) p85; omega))
    have o96 := (own_ch (own_kp o74 k87) k90 (fun g hg hlt hk => by have h1 := (own_lt o74 g hg).2; have h2 := Nat.le_trans (Nat.le_refl _) p85; omega))
    have o97 := (own_ch (own_kp o79 k87) k90 (fun g hg hlt hk => by have h1 := (own_lt o79 g hg).2; have h2 := Nat.le_trans (Nat.le_refl _) p85; omega))
    refine wl_call (want_none rfl) (args := #[(.agg #[(.int .i64 ((F_laws_toNote x_aN).Kind)), (.int .i64 ((F_laws_toNote x_aN).Id)), (.int .i64 ((F_laws_toNote x_aN).Role)), (.slice a62 ((F_laws_toNote x_aN).Cn).length c63), (.slice a67 ((F_laws_toNote x_aN).Sn).length c68), (.int .i64 ((F_laws_toNote x_aN).Epoch)), (.int .i64 ((F_laws_toNote x_aN).Seq)), (.slice a72 ((F_laws_toNote x_aN).Body).length c73), (.slice a77 ((F_laws_toNote x_aN).Key).length c78), (.int .i64 (((F_laws_toNote x_aN).A).Host)), (.int .i64 (((F_laws_toNote x_aN).A).Port)), (.int .i64 ((F_laws_toNote x_aN).Now))])]) rfl rfl (by kernel_rfl) (C_impl_NoteOk w7 (.agg #[(.int .i64 ((F_laws_toNote x_aN).Kind)), (.int .i64 ((F_laws_toNote x_aN).Id)), (.int .i64 ((F_laws_toNote x_aN).Role)), (.slice a62 ((F_laws_toNote x_aN).Cn).length c63), (.slice a67 ((F_laws_toNote x_aN).Sn).length c68), (.int .i64 ((F_laws_toNote x_aN).Epoch)), (.int .i64 ((F_laws_toNote x_aN).Seq)), (.slice a72 ((F_laws_toNote x_aN).Body).length c73), (.slice a77 ((F_laws_toNote x_aN).Key).length c78), (.int .i64 (((F_laws_toNote x_aN).A).Host)), (.int .i64 (((F_laws_toNote x_aN).A).Port)), (.int .i64 ((F_laws_toNote x_aN).Now))]) (F_laws_toNote x_aN) (show R_63 w7 (.agg #[(.int .i64 ((F_laws_toNote x_aN).Kind)), (.int .i64 ((F_laws_toNote x_aN).Id)), (.int .i64 ((F_laws_toNote x_aN).Role)), (.slice a62 ((F_laws_toNote x_aN).Cn).length c63), (.slice a67 ((F_laws_toNote x_aN).Sn).length c68), (.int .i64 ((F_laws_toNote x_aN).Epoch)), (.int .i64 ((F_laws_toNote x_aN).Seq)), (.slice a72 ((F_laws_toNote x_aN).Body).length c73), (.slice a77 ((F_laws_toNote x_aN).Key).length c78), (.int .i64 (((F_laws_toNote x_aN).A).Host)), (.int .i64 (((F_laws_toNote x_aN).A).Port)), (.int .i64 ((F_laws_toNote x_aN).Now))]) (F_laws_toNote x_aN) from ⟨_, _, _, _, _, _, _, _, rfl, (Rd.of_own o94), s65, (Rd.of_own o95), s70, (Rd.of_own o96), s75, (Rd.of_own o97), s80⟩)) ?_
    rintro _ w8 ⟨k98, rfl⟩
    have m99 := m93.extk k98
    refine wl_mv (.bool (F_impl_NoteOk (F_laws_toNote x_aN))) (want_none rfl) rfl rfl (.inr rfl) rfl ?_
    refine wl_nil ?_
    refine wq_then ?_
    refine wc_seq ?_
    refine wc_seq ?_
    refine wc_region ?_
    refine wl_mv (.bool (F_impl_NoteOk (F_laws_toNote x_aN))) (want_none rfl) rfl rfl (.inl rfl) rfl ?_
    refine wl_mv (.bool (F_spec_NoteOk (F_laws_toNote x_aN))) (want_none rfl) rfl rfl (.inl rfl) rfl ?_
    refine wl_pure (.bool (!((F_impl_NoteOk (F_laws_toNote x_aN)) == (F_spec_NoteOk (F_laws_toNote x_aN))))) (want_none rfl) rfl rfl (by kernel_rfl) ?_
    refine wl_nil ?_
    refine wq_then ?_
    rcases Bool.eq_false_or_eq_true ((F_impl_NoteOk (F_laws_toNote x_aN)) == (F_spec_NoteOk (F_laws_toNote x_aN))) with h100 | h100
    · skip
      refine wc_false (congrArg (fun b => Value.bool (!b)) h100) ?_
      refine wc_skip ?_
      refine wq_then ?_
      refine wc_seq ?_
      refine wc_seq ?_
      refine wc_draw ([(22, [], [], (fun _ v _ => v = (.agg #[(.int .i64 ((F_laws_toNote x_aN).Kind)), (.int .i64 ((F_laws_toNote x_aN).Id)), (.int .i64 ((F_laws_toNote x_aN).Role)), (.slice a62 ((F_laws_toNote x_aN).Cn).length c63), (.slice a67 ((F_laws_toNote x_aN).Sn).length c68), (.int .i64 ((F_laws_toNote x_aN).Epoch)), (.int .i64 ((F_laws_toNote x_aN).Seq)), (.slice a72 ((F_laws_toNote x_aN).Body).length c73), (.slice a77 ((F_laws_toNote x_aN).Key).length c78), (.int .i64 (((F_laws_toNote x_aN).A).Host)), (.int .i64 (((F_laws_toNote x_aN).A).Port)), (.int .i64 ((F_laws_toNote x_aN).Now))]))), (23, [], [], (fun _ v _ => v = (.agg #[(.int .i64 x_aN.Kind), (.int .i64 x_aN.Id), (.int .i64 x_aN.Role), (.slice a1 x_aN.Cn.length c2), (.slice a6 x_aN.Sn.length c7), (.int .i64 x_aN.Epoch), (.int .i64 x_aN.Seq), (.slice a11 x_aN.Body.length c12), (.slice a16 x_aN.Key.length c17), (.int .i64 x_aN.A.Host), (.int .i64 x_aN.A.Port), (.int .i64 x_aN.Now)]))), (24, [], [1], (fun _ v w => ∃ (a1 : Option Addr) (c1 : Nat) (a2 : Option Addr) (c2 : Nat) (a3 : Option Addr) (c3 : Nat) (a4 : Option Addr) (c4 : Nat), v = .agg #[.int .i64 ((F_laws_toNote x_aN).Kind), .int .i64 ((F_laws_toNote x_aN).Id), .int .i64 ((F_laws_toNote x_aN).Role), .slice a1 ((F_laws_toNote x_aN).Cn).length c1, .slice a2 ((F_laws_toNote x_aN).Sn).length c2, .int .i64 ((F_laws_toNote x_aN).Epoch), .int .i64 ((F_laws_toNote x_aN).Seq), .slice a3 ((F_laws_toNote x_aN).Body).length c3, .slice a4 ((F_laws_toNote x_aN).Key).length c4, .int .i64 (((F_laws_toNote x_aN).A).Host), .int .i64 (((F_laws_toNote x_aN).A).Port), .int .i64 ((F_laws_toNote x_aN).Now)] ∧ w.ownsRow (w8.heap.size) 5 1 (.slice a1 ((F_laws_toNote x_aN).Cn).length c1) ((F_laws_toNote x_aN).Cn).length (((F_laws_toNote x_aN).Cn).map bV) ∧ ((F_laws_toNote x_aN).Cn).length ≤ 1073741824 ∧ w.ownsRow (w8.heap.size) 5 1 (.slice a2 ((F_laws_toNote x_aN).Sn).length c2) ((F_laws_toNote x_aN).Sn).length (((F_laws_toNote x_aN).Sn).map bV) ∧ ((F_laws_toNote x_aN).Sn).length ≤ 1073741824 ∧ w.ownsRow (w8.heap.size) 5 1 (.slice a3 ((F_laws_toNote x_aN).Body).length c3) ((F_laws_toNote x_aN).Body).length (((F_laws_toNote x_aN).Body).map bV) ∧ ((F_laws_toNote x_aN).Body).length ≤ 1073741824 ∧ w.ownsRow (w8.heap.size) 5 1 (.slice a4 ((F_laws_toNote x_aN).Key).length c4) ((F_laws_toNote x_aN).Key).length (((F_laws_toNote x_aN).Key).map bV) ∧ ((F_laws_toNote x_aN).Key).length ≤ 1073741824 ∧ Aps [(a1, c1), (a2, c2), (a3, c3), (a4, c4)])), (25, [], [0, 1, 2], (fun _ v w => v = .bool (F_laws_eqNote (F_laws_toNote x_aN) (F_laws_toNote x_aN)))), (26, [], [0, 1, 2, 3], (fun _ v _ => v = (.bool (!(F_laws_eqNote (F_laws_toNote x_aN) (F_laws_toNote x_aN))))))] : GV) mixed rfl (by kernel_rfl) (by kernel_rfl) ?_ ?_ ?_
      · exact ⟨(fun _ _ _ _ h _ => h), (fun _ _ _ _ _ h => h), ⟨(fun _ _ _ _ h _ => h), (fun _ _ _ _ _ h => h), ⟨(fun e v w w1 h hk => by obtain ⟨a0x, c0x, a1x, c1x, a2x, c2x, a3x, c3x, he, o0x, l0x, o1x, l1x, o2x, l2x, o3x, l3x, hap⟩ := h; exact ⟨a0x, c0x, a1x, c1x, a2x, c2x, a3x, c3x, he, own_kp o0x hk, l0x, own_kp o1x hk, l1x, own_kp o2x hk, l2x, own_kp o3x hk, l3x, hap⟩), (fun _ _ _ _ _ h => h), ⟨(fun _ _ _ _ h _ => h), (fun _ _ _ _ _ h => h), ⟨(fun _ _ _ _ h _ => h), (fun _ _ _ _ _ h => h), trivial⟩⟩⟩⟩⟩
      · refine ⟨?_, ⟨?_, ⟨?_, ⟨?_, ⟨?_, trivial⟩⟩⟩⟩⟩
        · intro w9 k156
          have m157 := m99.extk k156
          intro u158
          intro u159
          intro u160
          intro u161
          intro u162
          show WL _ _ _ _ _ _ _
          have b163 := ((b91.kp k98).kp k156)
          refine wl_loadN [(.int .i64 ((F_laws_toNote x_aN).Kind)), (.int .i64 ((F_laws_toNote x_aN).Id)), (.int .i64 ((F_laws_toNote x_aN).Role)), (.slice a62 ((F_laws_toNote x_aN).Cn).length c63), (.slice a67 ((F_laws_toNote x_aN).Sn).length c68), (.int .i64 ((F_laws_toNote x_aN).Epoch)), (.int .i64 ((F_laws_toNote x_aN).Seq)), (.slice a72 ((F_laws_toNote x_aN).Body).length c73), (.slice a77 ((F_laws_toNote x_aN).Key).length c78), (.int .i64 (((F_laws_toNote x_aN).A).Host)), (.int .i64 (((F_laws_toNote x_aN).A).Port)), (.int .i64 ((F_laws_toNote x_aN).Now))] (want_none rfl) rfl rfl rfl rfl isAgg_63 sizeOf_63 b163 rfl ?_
          exact wl_fin (Ch.refl _ _) rfl
        · intro w9 k164
          have m165 := m99.extk k164
          intro u166
          intro u167
          intro u168
          intro u169
          intro u170
          show WL _ _ _ _ _ _ _
          have b171 := (((((b60.kp k61).kp k87).ch k90 (Nat.ne_of_lt (Nat.lt_of_lt_of_le p23 (Nat.le_trans (Nat.le_trans (Nat.le_trans (Nat.le_trans k27.size k35.size) k58.size) k61.size) p85)))).kp k98).kp k164)
          refine wl_loadN [(.int .i64 x_aN.Kind), (.int .i64 x_aN.Id), (.int .i64 x_aN.Role), (.slice a1 x_aN.Cn.length c2), (.slice a6 x_aN.Sn.length c7), (.int .i64 x_aN.Epoch), (.int .i64 x_aN.Seq), (.slice a11 x_aN.Body.length c12), (.slice a16 x_aN.Key.length c17), (.int .i64 x_aN.A.Host), (.int .i64 x_aN.A.Port), (.int .i64 x_aN.Now)] (want_none rfl) rfl rfl rfl rfl isAgg_58 sizeOf_58 b171 rfl ?_
          exact wl_fin (Ch.refl _ _) rfl
        · intro w9 k172
          have m173 := m99.extk k172
          intro u174
          rintro _ rfl
          intro u176
          intro u177
          intro u178
          show WL _ _ _ _ _ _ _
          refine wl_call (want_none rfl) (args := #[(.agg #[(.int .i64 x_aN.Kind), (.int .i64 x_aN.Id), (.int .i64 x_aN.Role), (.slice a1 x_aN.Cn.length c2), (.slice a6 x_aN.Sn.length c7), (.int .i64 x_aN.Epoch), (.int .i64 x_aN.Seq), (.slice a11 x_aN.Body.length c12), (.slice a16 x_aN.Key.length c17), (.int .i64 x_aN.A.Host), (.int .i64 x_aN.A.Port), (.int .i64 x_aN.Now)])]) rfl rfl (by kernel_rfl) (C_laws_toNote w9 (.agg #[(.int .i64 x_aN.Kind), (.int .i64 x_aN.Id), (.int .i64 x_aN.Role), (.slice a1 x_aN.Cn.length c2), (.slice a6 x_aN.Sn.length c7), (.int .i64 x_aN.Epoch), (.int .i64 x_aN.Seq), (.slice a11 x_aN.Body.length c12), (.slice a16 x_aN.Key.length c17), (.int .i64 x_aN.A.Host), (.int .i64 x_aN.A.Port), (.int .i64 x_aN.Now)]) x_aN (show R_58 w9 (.agg #[(.int .i64 x_aN.Kind), (.int .i64 x_aN.Id), (.int .i64 x_aN.Role), (.slice a1 x_aN.Cn.length c2), (.slice a6 x_aN.Sn.length c7), (.int .i64 x_aN.Epoch), (.int .i64 x_aN.Seq), (.slice a11 x_aN.Body.length c12), (.slice a16 x_aN.Key.length c17), (.int .i64 x_aN.A.Host), (.int .i64 x_aN.A.Port), (.int .i64 x_aN.Now)]) x_aN from ⟨_, _, _, _, _, _, _, _, rfl, (r3.from0 m173), (by omega), (r8.from0 m173), (by omega), (r13.from0 m173), (by omega), (r18.from0 m173), (by omega)⟩)) ?_
          rintro _ w10 ⟨k179, ⟨a180, c181, a185, c186, a190, c191, a195, c196, rfl, o182, s183, o187, s188, o192, s193, o197, s198, ap200⟩⟩
          have m201 := m173.extk k179
          exact wl_fin k179 ⟨_, _, _, _, _, _, _, _, rfl, (own_lo o182 k172.size), s183, (own_lo o187 k172.size), s188, (own_lo o192 k172.size), s193, (own_lo o197 k172.size), s198, ap200⟩
        · intro w9 k202
          have m203 := m99.extk k202
          rintro _ rfl
          rintro _ rfl
          rintro _ ⟨a206, c207, a211, c212, a216, c217, a221, c222, rfl, o208, s209, o213, s214, o218, s219, o223, s224, ap226⟩
          intro u227
          intro u228
          show WL _ _ _ _ _ _ _
          have o229 := (own_kp (own_kp o94 k98) k202)
          have o230 := (own_kp (own_kp o95 k98) k202)
          have o231 := (own_kp (own_kp o96 k98) k202)
          have o232 := (own_kp (own_kp o97 k98) k202)
          refine wl_call (want_none rfl) (args := #[(.agg #[(.int .i64 ((F_laws_toNote x_aN).Kind)), (.int .i64 ((F_laws_toNote x_aN).Id)), (.int .i64 ((F_laws_toNote x_aN).Role)), (.slice a62 ((F_laws_toNote x_aN).Cn).length c63), (.slice a67 ((F_laws_toNote x_aN).Sn).length c68), (.int .i64 ((F_laws_toNote x_aN).Epoch)), (.int .i64 ((F_laws_toNote x_aN).Seq)), (.slice a72 ((F_laws_toNote x_aN).Body).length c73), (.slice a77 ((F_laws_toNote x_aN).Key).length c78), (.int .i64 (((F_laws_toNote x_aN).A).Host)), (.int .i64 (((F_laws_toNote x_aN).A).Port)), (.int .i64 ((F_laws_toNote x_aN).Now))]), (.agg #[(.int .i64 ((F_laws_toNote x_aN).Kind)), (.int .i64 ((F_laws_toNote x_aN).Id)), (.int .i64 ((F_laws_toNote x_aN).Role)), (.slice a206 ((F_laws_toNote x_aN).Cn).length c207), (.slice a211 ((F_laws_toNote x_aN).Sn).length c212), (.int .i64 ((F_laws_toNote x_aN).Epoch)), (.int .i64 ((F_laws_toNote x_aN).Seq)), (.slice a216 ((F_laws_toNote x_aN).Body).length c217), (.slice a221 ((F_laws_toNote x_aN).Key).length c222), (.int .i64 (((F_laws_toNote x_aN).A).Host)), (.int .i64 (((F_laws_toNote x_aN).A).Port)), (.int .i64 ((F_laws_toNote x_aN).Now))])]) rfl rfl (by kernel_rfl) (C_laws_eqNote w9 (.agg #[(.int .i64 ((F_laws_toNote x_aN).Kind)), (.int .i64 ((F_laws_toNote x_aN).Id)), (.int .i64 ((F_laws_toNote x_aN).Role)), (.slice a62 ((F_laws_toNote x_aN).Cn).length c63), (.slice a67 ((F_laws_toNote x_aN).Sn).length c68), (.int .i64 ((F_laws_toNote x_aN).Epoch)), (.int .i64 ((F_laws_toNote x_aN).Seq)), (.slice a72 ((F_laws_toNote x_aN).Body).length c73), (.slice a77 ((F_laws_toNote x_aN).Key).length c78), (.int .i64 (((F_laws_toNote x_aN).A).Host)), (.int .i64 (((F_laws_toNote x_aN).A).Port)), (.int .i64 ((F_laws_toNote x_aN).Now))]) (F_laws_toNote x_aN) (show R_63 w9 (.agg #[(.int .i64 ((F_laws_toNote x_aN).Kind)), (.int .i64 ((F_laws_toNote x_aN).Id)), (.int .i64 ((F_laws_toNote x_aN).Role)), (.slice a62 ((F_laws_toNote x_aN).Cn).length c63), (.slice a67 ((F_laws_toNote x_aN).Sn).length c68), (.int .i64 ((F_laws_toNote x_aN).Epoch)), (.int .i64 ((F_laws_toNote x_aN).Seq)), (.slice a72 ((F_laws_toNote x_aN).Body).length c73), (.slice a77 ((F_laws_toNote x_aN).Key).length c78), (.int .i64 (((F_laws_toNote x_aN).A).Host)), (.int .i64 (((F_laws_toNote x_aN).A).Port)), (.int .i64 ((F_laws_toNote x_aN).Now))]) (F_laws_toNote x_aN) from ⟨_, _, _, _, _, _, _, _, rfl, (Rd.of_own o229), s65, (Rd.of_own o230), s70, (Rd.of_own o231), s75, (Rd.of_own o232), s80⟩) (.agg #[(.int .i64 ((F_laws_toNote x_aN).Kind)), (.int .i64 ((F_laws_toNote x_aN).Id)), (.int .i64 ((F_laws_toNote x_aN).Role)), (.slice a206 ((F_laws_toNote x_aN).Cn).length c207), (.slice a211 ((F_laws_toNote x_aN).Sn).length c212), (.int .i64 ((F_laws_toNote x_aN).Epoch)), (.int .i64 ((F_laws_toNote x_aN).Seq)), (.slice a216 ((F_laws_toNote x_aN).Body).length c217), (.slice a221 ((F_laws_toNote x_aN).Key).length c222), (.int .i64 (((F_laws_toNote x_aN).A).Host)), (.int .i64 (((F_laws_toNote x_aN).A).Port)), (.int .i64 ((F_laws_toNote x_aN).Now))]) (F_laws_toNote x_aN) (show R_63 w9 (.agg #[(.int .i64 ((F_laws_toNote x_aN).Kind)), (.int .i64 ((F_laws_toNote x_aN).Id)), (.int .i64 ((F_laws_toNote x_aN).Role)), (.slice a206 ((F_laws_toNote x_aN).Cn).length c207), (.slice a211 ((F_laws_toNote x_aN).Sn).length c212), (.int .i64 ((F_laws_toNote x_aN).Epoch)), (.int .i64 ((F_laws_toNote x_aN).Seq)), (.slice a216 ((F_laws_toNote x_aN).Body).length c217), (.slice a221 ((F_laws_toNote x_aN).Key).length c222), (.int .i64 (((F_laws_toNote x_aN).A).Host)), (.int .i64 (((F_laws_toNote x_aN).A).Port)), (.int .i64 ((F_laws_toNote x_aN).Now))]) (F_laws_toNote x_aN) from ⟨_, _, _, _, _, _, _, _, rfl, (Rd.of_own o208), s209, (Rd.of_own o213), s214, (Rd.of_own o218), s219, (Rd.of_own o223), s224⟩)) ?_
          rintro _ w10 ⟨k233, rfl⟩
          have m234 := m203.extk k233
          exact wl_fin k233 rfl
        · intro w9 k235
          have m236 := m99.extk k235
          rintro _ rfl
          rintro _ rfl
          rintro _ ⟨a239, c240, a244, c245, a249, c250, a254, c255, rfl, o241, s242, o246, s247, o251, s252, o256, s257, ap259⟩
          rintro _ rfl
          intro u260
          show WL _ _ _ _ _ _ _
          refine wl_pure (.bool (!(F_laws_eqNote (F_laws_toNote x_aN) (F_laws_toNote x_aN)))) (want_none rfl) rfl rfl (by kernel_rfl) ?_
          exact wl_fin (Ch.refl _ _) rfl
      · intro w9 k261
        have m262 := m99.extk k261
        rintro _ rfl
        rintro _ rfl
        rintro _ ⟨a265, c266, a270, c271, a275, c276, a280, c281, rfl, o267, s268, o272, s273, o277, s278, o282, s283, ap285⟩
        rintro _ rfl
        rintro _ rfl
        show WL _ _ _ _ _ _ _
        refine wl_nil ?_
        refine wq_then ?_
        rcases Bool.eq_false_or_eq_true (F_laws_eqNote (F_laws_toNote x_aN) (F_laws_toNote x_aN)) with h286 | h286
        · skip
          refine wc_false (congrArg (fun b => Value.bool (!b)) h286) ?_
          refine wc_skip ?_
          refine wq_then ?_
          refine wc_seq ?_
          refine wc_region ?_
          refine wl_mv (.bool true) (want_none rfl) rfl rfl (.inr rfl) rfl ?_
          refine wl_nil ?_
          refine wq_then ?_
          refine wc_ret ?_
          refine ret_1 (.inl rfl) (.bool true) rfl rfl ?_
          refine ⟨m262.keep0, ?_⟩
          have hF288 : F_laws_FnExactNoteOk x_aN = true := by simp only [F_laws_FnExactNoteOk, h30, h100, h286, cond_true, cond_false]
          rw [hF288]
          exact rfl
        · skip
          refine wc_true (congrArg (fun b => Value.bool (!b)) h286) ?_
          refine wc_seq ?_
          refine wc_region ?_
          refine wl_mv (.bool false) (want_none rfl) rfl rfl (.inr rfl) rfl ?_
          refine wl_nil ?_
          refine wq_then ?_
          refine wc_ret ?_
          refine wq_then_ret ?_
          refine ret_1 (.inl rfl) (.bool false) rfl rfl ?_
          refine ⟨m262.keep0, ?_⟩
          have hF290 : F_laws_FnExactNoteOk x_aN = false := by simp only [F_laws_FnExactNoteOk, h30, h100, h286, cond_true, cond_false]
          rw [hF290]
          exact rfl
    · skip
      refine wc_true (congrArg (fun b => Value.bool (!b)) h100) ?_
      refine wc_seq ?_
      refine wc_region ?_
      refine wl_mv (.bool false) (want_none rfl) rfl rfl (.inr rfl) rfl ?_
      refine wl_nil ?_
      refine wq_then ?_
      refine wc_ret ?_
      refine wq_then_ret ?_
      refine ret_1 (.inl rfl) (.bool false) rfl rfl ?_
      refine ⟨m99.keep0, ?_⟩
      have hF292 : F_laws_FnExactNoteOk x_aN = false := by simp only [F_laws_FnExactNoteOk, h30, h100, cond_true, cond_false]
      rw [hF292]
      exact rfl
end Go.Proofs.Ytodlalolknldmaa.K
