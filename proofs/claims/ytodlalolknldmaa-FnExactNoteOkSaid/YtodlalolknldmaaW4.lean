import Derived.Test.YtodlalolknldmaaCore
import Derived.Test.YtodlalolknldmaaProg
import Derived.Test.YtodlalolknldmaaHeld
import Derived.Test.YtodlalolknldmaaW3
namespace Go.Proofs.Ytodlalolknldmaa.K
open Go.RowKit
set_option linter.unusedVariables false
set_option linter.unusedSimpArgs false
set_option maxRecDepth 100000
def F_laws_FnExactNoteOk (x_aN : PNote) : (Bool) := bif (decide ((F_laws_szNote x_aN 1048576) < 0)) then (true) else (bif ((F_impl_NoteOk (F_laws_toNote x_aN)) == (F_spec_NoteOk (F_laws_toNote x_aN))) then (bif (F_laws_eqNote (F_laws_toNote x_aN) (F_laws_toNote x_aN)) then (true) else (false)) else (false))
theorem C_laws_FnExactNoteOk (w0 : World) (v_x_aN : Value) (x_aN : PNote) (r_x_aN : Q_58 w0 v_x_aN x_aN)  : Fn Try.prog 10 #[v_x_aN] w0 (fun v w' => Keep w0 w' ∧ O_4 w' w0.heap.size v (F_laws_FnExactNoteOk x_aN)) := by
  obtain ⟨a1, c2, a6, c7, a11, c12, a16, c17, rfl, r3, s4, r8, s9, r13, s14, r18, s19⟩ := r_x_aN
  refine fn_of (n := 27) (l := [(.agg #[(.int .i64 x_aN.Kind), (.int .i64 x_aN.Id), (.int .i64 x_aN.Role), (.slice a1 x_aN.Cn.length c2), (.slice a6 x_aN.Sn.length c7), (.int .i64 x_aN.Epoch), (.int .i64 x_aN.Seq), (.slice a11 x_aN.Body.length c12), (.slice a16 x_aN.Key.length c17), (.int .i64 x_aN.A.Host), (.int .i64 x_aN.A.Port), (.int .i64 x_aN.Now)]), undef, undef, undef, undef, undef, undef, undef, undef, undef, undef, undef, undef, undef, undef, undef, undef, undef, undef, undef, undef, undef, undef, undef, undef, undef, undef]) Try.func10 rfl rfl (by kernel_rfl) rfl ?_
  refine wc_seq ?_
  refine wc_region ?_
  refine wl_box (want_none rfl) [(.int .i64 x_aN.Kind), (.int .i64 x_aN.Id), (.int .i64 x_aN.Role), (.slice a1 x_aN.Cn.length c2), (.slice a6 x_aN.Sn.length c7), (.int .i64 x_aN.Epoch), (.int .i64 x_aN.Seq), (.slice a11 x_aN.Body.length c12), (.slice a16 x_aN.Key.length c17), (.int .i64 x_aN.A.Host), (.int .i64 x_aN.A.Port), (.int .i64 x_aN.Now)] rfl rfl rfl rfl ?_
  intro g21 w1 p22 p23 k24 b25
  have m26 := (Ch.base w0).extk k24
  refine wl_mv (.bool false) (want_none rfl) rfl rfl (.inr rfl) rfl ?_
  refine wl_nil ?_
  refine wq_then ?_
  refine wc_seq ?_
  refine wc_region ?_
  refine wl_mv (.int .i64 1048576) (want_none rfl) rfl rfl (.inr rfl) rfl ?_
  refine wl_nil ?_
  refine wq_then ?_
  refine wc_seq ?_
  refine wc_region ?_
  refine wl_loadN [(.int .i64 x_aN.Kind), (.int .i64 x_aN.Id), (.int .i64 x_aN.Role), (.slice a1 x_aN.Cn.length c2), (.slice a6 x_aN.Sn.length c7), (.int .i64 x_aN.Epoch), (.int .i64 x_aN.Seq), (.slice a11 x_aN.Body.length c12), (.slice a16 x_aN.Key.length c17), (.int .i64 x_aN.A.Host), (.int .i64 x_aN.A.Port), (.int .i64 x_aN.Now)] (want_none rfl) rfl rfl rfl rfl isAgg_58 sizeOf_58 b25 rfl ?_
  refine wl_mv (.int .i64 1048576) (want_none rfl) rfl rfl (.inl rfl) rfl ?_
  refine wl_call (want_none rfl) (args := #[(.agg #[(.int .i64 x_aN.Kind), (.int .i64 x_aN.Id), (.int .i64 x_aN.Role), (.slice a1 x_aN.Cn.length c2), (.slice a6 x_aN.Sn.length c7), (.int .i64 x_aN.Epoch), (.int .i64 x_aN.Seq), (.slice a11 x_aN.Body.length c12), (.slice a16 x_aN.Key.length c17), (.int .i64 x_aN.A.Host), (.int .i64 x_aN.A.Port), (.int .i64 x_aN.Now)]), (.int .i64 1048576)]) rfl rfl (by kernel_rfl) (C_laws_szNote w1 (.agg #[(.int .i64 x_aN.Kind), (.int .i64 x_aN.Id), (.int .i64 x_aN.Role), (.slice a1 x_aN.Cn.length c2), (.slice a6 x_aN.Sn.length c7), (.int .i64 x_aN.Epoch), (.int .i64 x_aN.Seq), (.slice a11 x_aN.Body.length c12), (.slice a16 x_aN.Key.length c17), (.int .i64 x_aN.A.Host), (.int .i64 x_aN.A.Port), (.int .i64 x_aN.Now)]) x_aN (show Q_58 w1 (.agg #[(.int .i64 x_aN.Kind), (.int .i64 x_aN.Id), (.int .i64 x_aN.Role), (.slice a1 x_aN.Cn.length c2), (.slice a6 x_aN.Sn.length c7), (.int .i64 x_aN.Epoch), (.int .i64 x_aN.Seq), (.slice a11 x_aN.Body.length c12), (.slice a16 x_aN.Key.length c17), (.int .i64 x_aN.A.Host), (.int .i64 x_aN.A.Port), (.int .i64 x_aN.Now)]) x_aN from ⟨_, _, _, _, _, _, _, _, rfl, (r3.from0 m26), s4, (r8.from0 m26), s9, (r13.from0 m26), s14, (r18.from0 m26), s19⟩) 1048576 (by omega) (by omega)) ?_
  rintro _ w2 ⟨k27, rfl⟩
  have m28 := m26.extk k27
  have q29 := laws_szNote_le x_aN 1048576
  refine wl_mv (.int .i64 (F_laws_szNote x_aN 1048576)) (want_none rfl) rfl rfl (.inr rfl) rfl ?_
  refine wl_nil ?_
  refine wq_then ?_
  refine wc_seq ?_
  refine wc_seq ?_
  refine wc_region ?_
  refine wl_mv (.int .i64 (F_laws_szNote x_aN 1048576)) (want_none rfl) rfl rfl (.inl rfl) rfl ?_
  refine wl_pure (.bool (decide ((F_laws_szNote x_aN 1048576) < 0))) (want_none rfl) rfl rfl (by kernel_rfl) ?_
  refine wl_nil ?_
  refine wq_then ?_
  rcases Bool.eq_false_or_eq_true (decide ((F_laws_szNote x_aN 1048576) < 0)) with h30 | h30
  · have q31 := of_decide_eq_true h30
    refine wc_true (congrArg Value.bool h30) ?_
    refine wc_seq ?_
    refine wc_region ?_
    refine wl_mv (.bool true) (want_none rfl) rfl rfl (.inr rfl) rfl ?_
    refine wl_nil ?_
    refine wq_then ?_
    refine wc_ret ?_
    refine wq_then_ret ?_
    refine ret_1 (.inl rfl) (.bool true) rfl rfl ?_
    refine ⟨m28.keep0, ?_⟩
    have hF32 : F_laws_FnExactNoteOk x_aN = true := by simp only [F_laws_FnExactNoteOk, h30, cond_true, cond_false]
    rw [hF32]
    exact rfl
  · have q33 := of_decide_eq_false h30
    refine wc_false (congrArg Value.bool h30) ?_
    refine wc_skip ?_
    refine wq_then ?_
    refine wc_seq ?_
    refine wc_region ?_
    have b34 := (b25.kp k27)
    refine wl_loadN [(.int .i64 x_aN.Kind), (.int .i64 x_aN.Id), (.int .i64 x_aN.Role), (.slice a1 x_aN.Cn.length c2), (.slice a6 x_aN.Sn.length c7), (.int .i64 x_aN.Epoch), (.int .i64 x_aN.Seq), (.slice a11 x_aN.Body.length c12), (.slice a16 x_aN.Key.length c17), (.int .i64 x_aN.A.Host), (.int .i64 x_aN.A.Port), (.int .i64 x_aN.Now)] (want_none rfl) rfl rfl rfl rfl isAgg_58 sizeOf_58 b34 rfl ?_
    refine wl_call (want_none rfl) (args := #[(.agg #[(.int .i64 x_aN.Kind), (.int .i64 x_aN.Id), (.int .i64 x_aN.Role), (.slice a1 x_aN.Cn.length c2), (.slice a6 x_aN.Sn.length c7), (.int .i64 x_aN.Epoch), (.int .i64 x_aN.Seq), (.slice a11 x_aN.Body.length c12), (.slice a16 x_aN.Key.length c17), (.int .i64 x_aN.A.Host), (.int .i64 x_aN.A.Port), (.int .i64 x_aN.Now)])]) rfl rfl (by kernel_rfl) (C_laws_toNote w2 (.agg #[(.int .i64 x_aN.Kind), (.int .i64 x_aN.Id), (.int .i64 x_aN.Role), (.slice a1 x_aN.Cn.length c2), (.slice a6 x_aN.Sn.length c7), (.int .i64 x_aN.Epoch), (.int .i64 x_aN.Seq), (.slice a11 x_aN.Body.length c12), (.slice a16 x_aN.Key.length c17), (.int .i64 x_aN.A.Host), (.int .i64 x_aN.A.Port), (.int .i64 x_aN.Now)]) x_aN (show R_58 w2 (.agg #[(.int .i64 x_aN.Kind), (.int .i64 x_aN.Id), (.int .i64 x_aN.Role), (.slice a1 x_aN.Cn.length c2), (.slice a6 x_aN.Sn.length c7), (.int .i64 x_aN.Epoch), (.int .i64 x_aN.Seq), (.slice a11 x_aN.Body.length c12), (.slice a16 x_aN.Key.length c17), (.int .i64 x_aN.A.Host), (.int .i64 x_aN.A.Port), (.int .i64 x_aN.Now)]) x_aN from ⟨_, _, _, _, _, _, _, _, rfl, (r3.from0 m28), (by omega), (r8.from0 m28), (by omega), (r13.from0 m28), (by omega), (r18.from0 m28), (by omega)⟩)) ?_
    rintro _ w3 ⟨k35, ⟨a36, c37, a41, c42, a46, c47, a51, c52, rfl, o38, s39, o43, s44, o48, s49, o53, s54, ap56⟩⟩
    have m57 := m28.extk k35
    refine wl_call (want_none rfl) (args := #[(.agg #[(.int .i64 ((F_laws_toNote x_aN).Kind)), (.int .i64 ((F_laws_toNote x_aN).Id)), (.int .i64 ((F_laws_toNote x_aN).Role)), (.slice a36 ((F_laws_toNote x_aN).Cn).length c37), (.slice a41 ((F_laws_toNote x_aN).Sn).length c42), (.int .i64 ((F_laws_toNote x_aN).Epoch)), (.int .i64 ((F_laws_toNote x_aN).Seq)), (.slice a46 ((F_laws_toNote x_aN).Body).length c47), (.slice a51 ((F_laws_toNote x_aN).Key).length c52), (.int .i64 (((F_laws_toNote x_aN).A).Host)), (.int .i64 (((F_laws_toNote x_aN).A).Port)), (.int .i64 ((F_laws_toNote x_aN).Now))])]) rfl rfl (by kernel_rfl) (C_spec_NoteOk w3 (.agg #[(.int .i64 ((F_laws_toNote x_aN).Kind)), (.int .i64 ((F_laws_toNote x_aN).Id)), (.int .i64 ((F_laws_toNote x_aN).Role)), (.slice a36 ((F_laws_toNote x_aN).Cn).length c37), (.slice a41 ((F_laws_toNote x_aN).Sn).length c42), (.int .i64 ((F_laws_toNote x_aN).Epoch)), (.int .i64 ((F_laws_toNote x_aN).Seq)), (.slice a46 ((F_laws_toNote x_aN).Body).length c47), (.slice a51 ((F_laws_toNote x_aN).Key).length c52), (.int .i64 (((F_laws_toNote x_aN).A).Host)), (.int .i64 (((F_laws_toNote x_aN).A).Port)), (.int .i64 ((F_laws_toNote x_aN).Now))]) (F_laws_toNote x_aN) (show R_63 w3 (.agg #[(.int .i64 ((F_laws_toNote x_aN).Kind)), (.int .i64 ((F_laws_toNote x_aN).Id)), (.int .i64 ((F_laws_toNote x_aN).Role)), (.slice a36 ((F_laws_toNote x_aN).Cn).length c37), (.slice a41 ((F_laws_toNote x_aN).Sn).length c42), (.int .i64 ((F_laws_toNote x_aN).Epoch)), (.int .i64 ((F_laws_toNote x_aN).Seq)), (.slice a46 ((F_laws_toNote x_aN).Body).length c47), (.slice a51 ((F_laws_toNote x_aN).Key).length c52), (.int .i64 (((F_laws_toNote x_aN).A).Host)), (.int .i64 (((F_laws_toNote x_aN).A).Port)), (.int .i64 ((F_laws_toNote x_aN).Now))]) (F_laws_toNote x_aN) from ⟨_, _, _, _, _, _, _, _, rfl, (Rd.of_own o38), s39, (Rd.of_own o43), s44, (Rd.of_own o48), s49, (Rd.of_own o53), s54⟩)) ?_
    rintro _ w4 ⟨k58, rfl⟩
    have m59 := m57.extk k58
    refine wl_mv (.bool (F_spec_NoteOk (F_laws_toNote x_aN))) (want_none rfl) rfl rfl (.inr rfl) rfl ?_
    refine wl_nil ?_
    refine wq_then ?_
    refine wc_seq ?_
    refine wc_region ?_
    have b60 := ((b34.kp k35).kp k58)
    refine wl_loadN [(.int .i64 x_aN.Kind), (.int .i64 x_aN.Id), (.int .i64 x_aN.Role), (.slice a1 x_aN.Cn.length c2), (.slice a6 x_aN.Sn.length c7), (.int .i64 x_aN.Epoch), (.int .i64 x_aN.Seq), (.slice a11 x_aN.Body.length c12), (.slice a16 x_aN.Key.length c17), (.int .i64 x_aN.A.Host), (.int .i64 x_aN.A.Port), (.int .i64 x_aN.Now)] (want_none rfl) rfl rfl rfl rfl isAgg_58 sizeOf_58 b60 rfl ?_
    refine wl_call (want_none rfl) (args := #[(.agg #[(.int .i64 x_aN.Kind), (.int .i64 x_aN.Id), (.int .i64 x_aN.Role), (.slice a1 x_aN.Cn.length c2), (.slice a6 x_aN.Sn.length c7), (.int .i64 x_aN.Epoch), (.int .i64 x_aN.Seq), (.slice a11 x_aN.Body.length c12), (.slice a16 x_aN.Key.length c17), (.int .i64 x_aN.A.Host), (.int .i64 x_aN.A.Port), (.int .i64 x_aN.Now)])]) rfl rfl (by kernel_rfl) (C_laws_toNote w4 (.agg #[(.int .i64 x_aN.Kind), (.int .i64 x_aN.Id), (.int .i64 x_aN.Role), (.slice a1 x_aN.Cn.length c2), (.slice a6 x_aN.Sn.length c7), (.int .i64 x_aN.Epoch), (.int .i64 x_aN.Seq), (.slice a11 x_aN.Body.length c12), (.slice a16 x_aN.Key.length c17), (.int .i64 x_aN.A.Host), (.int .i64 x_aN.A.Port), (.int .i64 x_aN.Now)]) x_aN (show R_58 w4 (.agg #[(.int .i64 x_aN.Kind), (.int .i64 x_aN.Id), (.int .i64 x_aN.Role), (.slice a1 x_aN.Cn.length c2), (.slice a6 x_aN.Sn.length c7), (.int .i64 x_aN.Epoch), (.int .i64 x_aN.Seq), (.slice a11 x_aN.Body.length c12), (.slice a16 x_aN.Key.length c17), (.int .i64 x_aN.A.Host), (.int .i64 x_aN.A.Port), (.int .i64 x_aN.Now)]) x_aN from ⟨_, _, _, _, _, _, _, _, rfl, (r3.from0 m59), (by omega), (r8.from0 m59), (by omega), (r13.from0 m59), (by omega), (r18.from0 m59), (by omega)⟩)) ?_
    rintro _ w5 ⟨k61, ⟨a62, c63, a67, c68, a72, c73, a77, c78, rfl, o64, s65, o69, s70, o74, s75, o79, s80, ap82⟩⟩
    have m83 := m59.extk k61
    refine wl_alloc (want_none rfl) (.agg #[(.int .i64 0), (.int .i64 0), (.int .i64 0), (.slice none 0 0), (.slice none 0 0), (.int .i64 0), (.int .i64 0), (.slice none 0 0), (.slice none 0 0), (.int .i64 0), (.int .i64 0), (.int .i64 0)]) [(.int .i64 0), (.int .i64 0), (.int .i64 0), (.slice none 0 0), (.slice none 0 0), (.int .i64 0), (.int .i64 0), (.slice none 0 0), (.slice none 0 0), (.int .i64 0), (.int .i64 0), (.int .i64 0)] zero_63 rfl rfl rfl rfl ?_
    intro g84 w6 p85 p86 k87 b88
    have m89 := m83.extk k87
    refine wl_store (.agg #[(.int .i64 ((F_laws_toNote x_aN).Kind)), (.int .i64 ((F_laws_toNote x_aN).Id)), (.int .i64 ((F_laws_toNote x_aN).Role)), (.slice a62 ((F_laws_toNote x_aN).Cn).length c63), (.slice a67 ((F_laws_toNote x_aN).Sn).length c68), (.int .i64 ((F_laws_toNote x_aN).Epoch)), (.int .i64 ((F_laws_toNote x_aN).Seq)), (.slice a72 ((F_laws_toNote x_aN).Body).length c73), (.slice a77 ((F_laws_toNote x_aN).Key).length c78), (.int .i64 (((F_laws_toNote x_aN).A).Host)), (.int .i64 (((F_laws_toNote x_aN).A).Port)), (.int .i64 ((F_laws_toNote x_aN).Now))]) [(.int .i64 ((F_laws_toNote x_aN).Kind)), (.int .i64 ((F_laws_toNote x_aN).Id)), (.int .i64 ((F_laws_toNote x_aN).Role)), (.slice a62 ((F_laws_toNote x_aN).Cn).length c63), (.slice a67 ((F_laws_toNote x_aN).Sn).length c68), (.int .i64 ((F_laws_toNote x_aN).Epoch)), (.int .i64 ((F_laws_toNote x_aN).Seq)), (.slice a72 ((F_laws_toNote x_aN).Body).length c73), (.slice a77 ((F_laws_toNote x_aN).Key).length c78), (.int .i64 (((F_laws_toNote x_aN).A).Host)), (.int .i64 (((F_laws_toNote x_aN).A).Port)), (.int .i64 ((F_laws_toNote x_aN).Now))] [(.int .i64 ((F_laws_toNote x_aN).Kind)), (.int .i64 ((F_laws_toNote x_aN).Id)), (.int .i64 ((F_laws_toNote x_aN).Role)), (.slice a62 ((F_laws_toNote x_aN).Cn).length c63), (.slice a67 ((F_laws_toNote x_aN).Sn).length c68), (.int .i64 ((F_laws_toNote x_aN).Epoch)), (.int .i64 ((F_laws_toNote x_aN).Seq)), (.slice a72 ((F_laws_toNote x_aN).Body).length c73), (.slice a77 ((F_laws_toNote x_aN).Key).length c78), (.int .i64 (((F_laws_toNote x_aN).A).Host)), (.int .i64 (((F_laws_toNote x_aN).A).Port)), (.int .i64 ((F_laws_toNote x_aN).Now))] (want_none rfl) rfl rfl rfl rfl rfl (one_cons rfl (one_cons rfl (one_cons rfl (one_cons rfl (one_cons rfl (one_cons rfl (one_cons rfl (one_cons rfl (one_cons rfl (one_cons rfl (one_cons rfl (one_cons rfl one_nil)))))))))))) sizeOf_63 b88 rfl rfl ?_
    intro w7 k90 b91 z92
    have m93 := m89.ext k90 (fun k hk => by subst hk; exact Nat.le_trans (Nat.le_trans (Nat.le_trans (Nat.le_trans (Nat.le_trans k24.size k27.size) k35.size) k58.size) k61.size) p85)
    refine wl_nil ?_
    refine wq_then ?_
    refine wc_seq ?_
    refine wc_region ?_
    refine wl_loadN [(.int .i64 ((F_laws_toNote x_aN).Kind)), (.int .i64 ((F_laws_toNote x_aN).Id)), (.int .i64 ((F_laws_toNote x_aN).Role)), (.slice a62 ((F_laws_toNote x_aN).Cn).length c63), (.slice a67 ((F_laws_toNote x_aN).Sn).length c68), (.int .i64 ((F_laws_toNote x_aN).Epoch)), (.int .i64 ((F_laws_toNote x_aN).Seq)), (.slice a72 ((F_laws_toNote x_aN).Body).length c73), (.slice a77 ((F_laws_toNote x_aN).Key).length c78), (.int .i64 (((F_laws_toNote x_aN).A).Host)), (.int .i64 (((F_laws_toNote x_aN).A).Port)), (.int .i64 ((F_laws_toNote x_aN).Now))] (want_none rfl) rfl rfl rfl rfl isAgg_63 sizeOf_63 b91 rfl ?_
    have o94 := (own_ch (own_kp o64 k87) k90 (fun g hg hlt hk => by have h1 := (own_lt o64 g hg).2; have h2 := Nat.le_trans (Nat.le_refl _) p85; omega))
    have o95 := (own_ch (own_kp o69 k87) k90 (fun g hg hlt hk => by have h1 := (own_lt o69 g hg).2; have h2 := Nat.le_trans (Nat.le_refl _) p85; omega))
    have o96 := (own_ch (own_kp o74 k87) k90 (fun g hg hlt hk => by have h1 := (own_lt o74 g hg).2; have h2 := Nat.le_trans (Nat.le_refl _) p85; omega))
    have o97 := (own_ch (own_kp o79 k87) k90 (fun g hg hlt hk => by have h1 := (own_lt o79 g hg).2; have h2 := Nat.le_trans (Nat.le_refl _) p85; omega))
    refine wl_call (want_none rfl) (args := #[(.agg #[(.int .i64 ((F_laws_toNote x_aN).Kind)), (.int .i64 ((F_laws_toNote x_aN).Id)), (.int .i64 ((F_laws_toNote x_aN).Role)), (.slice a62 ((F_laws_toNote x_aN).Cn).length c63), (.slice a67 ((F_laws_toNote x_aN).Sn).length c68), (.int .i64 ((F_laws_toNote x_aN).Epoch)), (.int .i64 ((F_laws_toNote x_aN).Seq)), (.slice a72 ((F_laws_toNote x_aN).Body).length c73), (.slice a77 ((F_laws_toNote x_aN).Key).length c78), (.int .i64 (((F_laws_toNote x_aN).A).Host)), (.int .i64 (((F_laws_toNote x_aN).A).Port)), (.int .i64 ((F_laws_toNote x_aN).Now))])]) rfl rfl (by kernel_rfl) (C_impl_NoteOk w7 (.agg #[(.int .i64 ((F_laws_toNote x_aN).Kind)), (.int .i64 ((F_laws_toNote x_aN).Id)), (.int .i64 ((F_laws_toNote x_aN).Role)), (.slice a62 ((F_laws_toNote x_aN).Cn).length c63), (.slice a67 ((F_laws_toNote x_aN).Sn).length c68), (.int .i64 ((F_laws_toNote x_aN).Epoch)), (.int .i64 ((F_laws_toNote x_aN).Seq)), (.slice a72 ((F_laws_toNote x_aN).Body).length c73), (.slice a77 ((F_laws_toNote x_aN).Key).length c78), (.int .i64 (((F_laws_toNote x_aN).A).Host)), (.int .i64 (((F_laws_toNote x_aN).A).Port)), (.int .i64 ((F_laws_toNote x_aN).Now))]) (F_laws_toNote x_aN) (show R_63 w7 (.agg #[(.int .i64 ((F_laws_toNote x_aN).Kind)), (.int .i64 ((F_laws_toNote x_aN).Id)), (.int .i64 ((F_laws_toNote x_aN).Role)), (.slice a62 ((F_laws_toNote x_aN).Cn).length c63), (.slice a67 ((F_laws_toNote x_aN).Sn).length c68), (.int .i64 ((F_laws_toNote x_aN).Epoch)), (.int .i64 ((F_laws_toNote x_aN).Seq)), (.slice a72 ((F_laws_toNote x_aN).Body).length c73), (.slice a77 ((F_laws_toNote x_aN).Key).length c78), (.int .i64 (((F_laws_toNote x_aN).A).Host)), (.int .i64 (((F_laws_toNote x_aN).A).Port)), (.int .i64 ((F_laws_toNote x_aN).Now))]) (F_laws_toNote x_aN) from ⟨_, _, _, _, _, _, _, _, rfl, (Rd.of_own o94), s65, (Rd.of_own o95), s70, (Rd.of_own o96), s75, (Rd.of_own o97), s80⟩)) ?_
    rintro _ w8 ⟨k98, rfl⟩
    have m99 := m93.extk k98
    refine wl_mv (.bool (F_impl_NoteOk (F_laws_toNote x_aN))) (want_none rfl) rfl rfl (.inr rfl) rfl ?_
    refine wl_nil ?_
    refine wq_then ?_
    refine wc_seq ?_
    refine wc_seq ?_
    refine wc_region ?_
    refine wl_mv (.bool (F_impl_NoteOk (F_laws_toNote x_aN))) (want_none rfl) rfl rfl (.inl rfl) rfl ?_
    refine wl_mv (.bool (F_spec_NoteOk (F_laws_toNote x_aN))) (want_none rfl) rfl rfl (.inl rfl) rfl ?_
    refine wl_pure (.bool (!((F_impl_NoteOk (F_laws_toNote x_aN)) == (F_spec_NoteOk (F_laws_toNote x_aN))))) (want_none rfl) rfl rfl (by kernel_rfl) ?_
    refine wl_nil ?_
    refine wq_then ?_
    rcases Bool.eq_false_or_eq_true ((F_impl_NoteOk (F_laws_toNote x_aN)) == (F_spec_NoteOk (F_laws_toNote x_aN))) with h100 | h100
    · skip
      refine wc_false (congrArg (fun b => Value.bool (!b)) h100) ?_
      refine wc_skip ?_
      refine wq_then ?_
      refine wc_seq ?_
      refine wc_seq ?_
      refine wc_draw ([(22, [], [], (fun _ v _ => v = (.agg #[(.int .i64 ((F_laws_toNote x_aN).Kind)), (.int .i64 ((F_laws_toNote x_aN).Id)), (.int .i64 ((F_laws_toNote x_aN).Role)), (.slice a62 ((F_laws_toNote x_aN).Cn).length c63), (.slice a67 ((F_laws_toNote x_aN).Sn).length c68), (.int .i64 ((F_laws_toNote x_aN).Epoch)), (.int .i64 ((F_laws_toNote x_aN).Seq)), (.slice a72 ((F_laws_toNote x_aN).Body).length c73), (.slice a77 ((F_laws_toNote x_aN).Key).length c78), (.int .i64 (((F_laws_toNote x_aN).A).Host)), (.int .i64 (((F_laws_toNote x_aN).A).Port)), (.int .i64 ((F_laws_toNote x_aN).Now))]))), (23, [], [], (fun _ v _ => v = (.agg #[(.int .i64 x_aN.Kind), (.int .i64 x_aN.Id), (.int .i64 x_aN.Role), (.slice a1 x_aN.Cn.length c2), (.slice a6 x_aN.Sn.length c7), (.int .i64 x_aN.Epoch), (.int .i64 x_aN.Seq), (.slice a11 x_aN.Body.length c12), (.slice a16 x_aN.Key.length c17), (.int .i64 x_aN.A.Host), (.int .i64 x_aN.A.Port), (.int .i64 x_aN.Now)]))), (24, [], [1], (fun _ v w => ∃ (a1 : Option Addr) (c1 : Nat) (a2 : Option Addr) (c2 : Nat) (a3 : Option Addr) (c3 : Nat) (a4 : Option Addr) (c4 : Nat), v = .agg #[.int .i64 ((F_laws_toNote x_aN).Kind), .int .i64 ((F_laws_toNote x_aN).Id), .int .i64 ((F_laws_toNote x_aN).Role), .slice a1 ((F_laws_toNote x_aN).Cn).length c1, .slice a2 ((F_laws_toNote x_aN).Sn).length c2, .int .i64 ((F_laws_toNote x_aN).Epoch), .int .i64 ((F_laws_toNote x_aN).Seq), .slice a3 ((F_laws_toNote x_aN).Body).length c3, .slice a4 ((F_laws_toNote x_aN).Key).length c4, .int .i64 (((F_laws_toNote x_aN).A).Host), .int .i64 (((F_laws_toNote x_aN).A).Port), .int .i64 ((F_laws_toNote x_aN).Now)] ∧ w.ownsRow (w8.heap.size) 5 1 (.slice a1 ((F_laws_toNote x_aN).Cn).length c1) ((F_laws_toNote x_aN).Cn).length (((F_laws_toNote x_aN).Cn).map bV) ∧ ((F_laws_toNote x_aN).Cn).length ≤ 1073741824 ∧ w.ownsRow (w8.heap.size) 5 1 (.slice a2 ((F_laws_toNote x_aN).Sn).length c2) ((F_laws_toNote x_aN).Sn).length (((F_laws_toNote x_aN).Sn).map bV) ∧ ((F_laws_toNote x_aN).Sn).length ≤ 1073741824 ∧ w.ownsRow (w8.heap.size) 5 1 (.slice a3 ((F_laws_toNote x_aN).Body).length c3) ((F_laws_toNote x_aN).Body).length (((F_laws_toNote x_aN).Body).map bV) ∧ ((F_laws_toNote x_aN).Body).length ≤ 1073741824 ∧ w.ownsRow (w8.heap.size) 5 1 (.slice a4 ((F_laws_toNote x_aN).Key).length c4) ((F_laws_toNote x_aN).Key).length (((F_laws_toNote x_aN).Key).map bV) ∧ ((F_laws_toNote x_aN).Key).length ≤ 1073741824 ∧ Aps [(a1, c1), (a2, c2), (a3, c3), (a4, c4)])), (25, [], [0, 1, 2], (fun _ v w => v = .bool (F_laws_eqNote (F_laws_toNote x_aN) (F_laws_toNote x_aN)))), (26, [], [0, 1, 2, 3], (fun _ v _ => v = (.bool (!(F_laws_eqNote (F_laws_toNote x_aN) (F_laws_toNote x_aN))))))] : GV) mixed rfl (by kernel_rfl) (by kernel_rfl) ?_ ?_ ?_
      · exact ⟨(fun _ _ _ _ h _ => h), (fun _ _ _ _ _ h => h), ⟨(fun _ _ _ _ h _ => h), (fun _ _ _ _ _ h => h), ⟨(fun e v w w1 h hk => by obtain ⟨a0x, c0x, a1x, c1x, a2x, c2x, a3x, c3x, he, o0x, l0x, o1x, l1x, o2x, l2x, o3x, l3x, hap⟩ := h; exact ⟨a0x, c0x, a1x, c1x, a2x, c2x, a3x, c3x, he, own_kp o0x hk, l0x, own_kp o1x hk, l1x, own_kp o2x hk, l2x, own_kp o3x hk, l3x, hap⟩), (fun _ _ _ _ _ h => h), ⟨(fun _ _ _ _ h _ => h), (fun _ _ _ _ _ h => h), ⟨(fun _ _ _ _ h _ => h), (fun _ _ _ _ _ h => h), trivial⟩⟩⟩⟩⟩
      · refine ⟨?_, ⟨?_, ⟨?_, ⟨?_, ⟨?_, trivial⟩⟩⟩⟩⟩
        · intro w9 k156
          have m157 := m99.extk k156
          intro u158
          intro u159
          intro u160
          intro u161
          intro u162
          show WL _ _ _ _ _ _ _
          have b163 := ((b91.kp k98).kp k156)
          refine wl_loadN [(.int .i64 ((F_laws_toNote x_aN).Kind)), (.int .i64 ((F_laws_toNote x_aN).Id)), (.int .i64 ((F_laws_toNote x_aN).Role)), (.slice a62 ((F_laws_toNote x_aN).Cn).length c63), (.slice a67 ((F_laws_toNote x_aN).Sn).length c68), (.int .i64 ((F_laws_toNote x_aN).Epoch)), (.int .i64 ((F_laws_toNote x_aN).Seq)), (.slice a72 ((F_laws_toNote x_aN).Body).length c73), (.slice a77 ((F_laws_toNote x_aN).Key).length c78), (.int .i64 (((F_laws_toNote x_aN).A).Host)), (.int .i64 (((F_laws_toNote x_aN).A).Port)), (.int .i64 ((F_laws_toNote x_aN).Now))] (want_none rfl) rfl rfl rfl rfl isAgg_63 sizeOf_63 b163 rfl ?_
          exact wl_fin (Ch.refl _ _) rfl
        · intro w9 k164
          have m165 := m99.extk k164
          intro u166
          intro u167
          intro u168
          intro u169
          intro u170
          show WL _ _ _ _ _ _ _
          have b171 := (((((b60.kp k61).kp k87).ch k90 (Nat.ne_of_lt (Nat.lt_of_lt_of_le p23 (Nat.le_trans (Nat.le_trans (Nat.le_trans (Nat.le_trans k27.size k35.size) k58.size) k61.size) p85)))).kp k98).kp k164)
          refine wl_loadN [(.int .i64 x_aN.Kind), (.int .i64 x_aN.Id), (.int .i64 x_aN.Role), (.slice a1 x_aN.Cn.length c2), (.slice a6 x_aN.Sn.length c7), (.int .i64 x_aN.Epoch), (.int .i64 x_aN.Seq), (.slice a11 x_aN.Body.length c12), (.slice a16 x_aN.Key.length c17), (.int .i64 x_aN.A.Host), (.int .i64 x_aN.A.Port), (.int .i64 x_aN.Now)] (want_none rfl) rfl rfl rfl rfl isAgg_58 sizeOf_58 b171 rfl ?_
          exact wl_fin (Ch.refl _ _) rfl
        · intro w9 k172
          have m173 := m99.extk k172
          intro u174
          rintro _ rfl
          intro u176
          intro u177
          intro u178
          show WL _ _ _ _ _ _ _
          refine wl_call (want_none rfl) (args := #[(.agg #[(.int .i64 x_aN.Kind), (.int .i64 x_aN.Id), (.int .i64 x_aN.Role), (.slice a1 x_aN.Cn.length c2), (.slice a6 x_aN.Sn.length c7), (.int .i64 x_aN.Epoch), (.int .i64 x_aN.Seq), (.slice a11 x_aN.Body.length c12), (.slice a16 x_aN.Key.length c17), (.int .i64 x_aN.A.Host), (.int .i64 x_aN.A.Port), (.int .i64 x_aN.Now)])]) rfl rfl (by kernel_rfl) (C_laws_toNote w9 (.agg #[(.int .i64 x_aN.Kind), (.int .i64 x_aN.Id), (.int .i64 x_aN.Role), (.slice a1 x_aN.Cn.length c2), (.slice a6 x_aN.Sn.length c7), (.int .i64 x_aN.Epoch), (.int .i64 x_aN.Seq), (.slice a11 x_aN.Body.length c12), (.slice a16 x_aN.Key.length c17), (.int .i64 x_aN.A.Host), (.int .i64 x_aN.A.Port), (.int .i64 x_aN.Now)]) x_aN (show R_58 w9 (.agg #[(.int .i64 x_aN.Kind), (.int .i64 x_aN.Id), (.int .i64 x_aN.Role), (.slice a1 x_aN.Cn.length c2), (.slice a6 x_aN.Sn.length c7), (.int .i64 x_aN.Epoch), (.int .i64 x_aN.Seq), (.slice a11 x_aN.Body.length c12), (.slice a16 x_aN.Key.length c17), (.int .i64 x_aN.A.Host), (.int .i64 x_aN.A.Port), (.int .i64 x_aN.Now)]) x_aN from ⟨_, _, _, _, _, _, _, _, rfl, (r3.from0 m173), (by omega), (r8.from0 m173), (by omega), (r13.from0 m173), (by omega), (r18.from0 m173), (by omega)⟩)) ?_
          rintro _ w10 ⟨k179, ⟨a180, c181, a185, c186, a190, c191, a195, c196, rfl, o182, s183, o187, s188, o192, s193, o197, s198, ap200⟩⟩
          have m201 := m173.extk k179
          exact wl_fin k179 ⟨_, _, _, _, _, _, _, _, rfl, (own_lo o182 k172.size), s183, (own_lo o187 k172.size), s188, (own_lo o192 k172.size), s193, (own_lo o197 k172.size), s198, ap200⟩
        · intro w9 k202
          have m203 := m99.extk k202
          rintro _ rfl
          rintro _ rfl
          rintro _ ⟨a206, c207, a211, c212, a216, c217, a221, c222, rfl, o208, s209, o213, s214, o218, s219, o223, s224, ap226⟩
          intro u227
          intro u228
          show WL _ _ _ _ _ _ _
          have o229 := (own_kp (own_kp o94 k98) k202)
          have o230 := (own_kp (own_kp o95 k98) k202)
          have o231 := (own_kp (own_kp o96 k98) k202)
          have o232 := (own_kp (own_kp o97 k98) k202)
          refine wl_call (want_none rfl) (args := #[(.agg #[(.int .i64 ((F_laws_toNote x_aN).Kind)), (.int .i64 ((F_laws_toNote x_aN).Id)), (.int .i64 ((F_laws_toNote x_aN).Role)), (.slice a62 ((F_laws_toNote x_aN).Cn).length c63), (.slice a67 ((F_laws_toNote x_aN).Sn).length c68), (.int .i64 ((F_laws_toNote x_aN).Epoch)), (.int .i64 ((F_laws_toNote x_aN).Seq)), (.slice a72 ((F_laws_toNote x_aN).Body).length c73), (.slice a77 ((F_laws_toNote x_aN).Key).length c78), (.int .i64 (((F_laws_toNote x_aN).A).Host)), (.int .i64 (((F_laws_toNote x_aN).A).Port)), (.int .i64 ((F_laws_toNote x_aN).Now))]), (.agg #[(.int .i64 ((F_laws_toNote x_aN).Kind)), (.int .i64 ((F_laws_toNote x_aN).Id)), (.int .i64 ((F_laws_toNote x_aN).Role)), (.slice a206 ((F_laws_toNote x_aN).Cn).length c207), (.slice a211 ((F_laws_toNote x_aN).Sn).length c212), (.int .i64 ((F_laws_toNote x_aN).Epoch)), (.int .i64 ((F_laws_toNote x_aN).Seq)), (.slice a216 ((F_laws_toNote x_aN).Body).length c217), (.slice a221 ((F_laws_toNote x_aN).Key).length c222), (.int .i64 (((F_laws_toNote x_aN).A).Host)), (.int .i64 (((F_laws_toNote x_aN).A).Port)), (.int .i64 ((F_laws_toNote x_aN).Now))])]) rfl rfl (by kernel_rfl) (C_laws_eqNote w9 (.agg #[(.int .i64 ((F_laws_toNote x_aN).Kind)), (.int .i64 ((F_laws_toNote x_aN).Id)), (.int .i64 ((F_laws_toNote x_aN).Role)), (.slice a62 ((F_laws_toNote x_aN).Cn).length c63), (.slice a67 ((F_laws_toNote x_aN).Sn).length c68), (.int .i64 ((F_laws_toNote x_aN).Epoch)), (.int .i64 ((F_laws_toNote x_aN).Seq)), (.slice a72 ((F_laws_toNote x_aN).Body).length c73), (.slice a77 ((F_laws_toNote x_aN).Key).length c78), (.int .i64 (((F_laws_toNote x_aN).A).Host)), (.int .i64 (((F_laws_toNote x_aN).A).Port)), (.int .i64 ((F_laws_toNote x_aN).Now))]) (F_laws_toNote x_aN) (show R_63 w9 (.agg #[(.int .i64 ((F_laws_toNote x_aN).Kind)), (.int .i64 ((F_laws_toNote x_aN).Id)), (.int .i64 ((F_laws_toNote x_aN).Role)), (.slice a62 ((F_laws_toNote x_aN).Cn).length c63), (.slice a67 ((F_laws_toNote x_aN).Sn).length c68), (.int .i64 ((F_laws_toNote x_aN).Epoch)), (.int .i64 ((F_laws_toNote x_aN).Seq)), (.slice a72 ((F_laws_toNote x_aN).Body).length c73), (.slice a77 ((F_laws_toNote x_aN).Key).length c78), (.int .i64 (((F_laws_toNote x_aN).A).Host)), (.int .i64 (((F_laws_toNote x_aN).A).Port)), (.int .i64 ((F_laws_toNote x_aN).Now))]) (F_laws_toNote x_aN) from ⟨_, _, _, _, _, _, _, _, rfl, (Rd.of_own o229), s65, (Rd.of_own o230), s70, (Rd.of_own o231), s75, (Rd.of_own o232), s80⟩) (.agg #[(.int .i64 ((F_laws_toNote x_aN).Kind)), (.int .i64 ((F_laws_toNote x_aN).Id)), (.int .i64 ((F_laws_toNote x_aN).Role)), (.slice a206 ((F_laws_toNote x_aN).Cn).length c207), (.slice a211 ((F_laws_toNote x_aN).Sn).length c212), (.int .i64 ((F_laws_toNote x_aN).Epoch)), (.int .i64 ((F_laws_toNote x_aN).Seq)), (.slice a216 ((F_laws_toNote x_aN).Body).length c217), (.slice a221 ((F_laws_toNote x_aN).Key).length c222), (.int .i64 (((F_laws_toNote x_aN).A).Host)), (.int .i64 (((F_laws_toNote x_aN).A).Port)), (.int .i64 ((F_laws_toNote x_aN).Now))]) (F_laws_toNote x_aN) (show R_63 w9 (.agg #[(.int .i64 ((F_laws_toNote x_aN).Kind)), (.int .i64 ((F_laws_toNote x_aN).Id)), (.int .i64 ((F_laws_toNote x_aN).Role)), (.slice a206 ((F_laws_toNote x_aN).Cn).length c207), (.slice a211 ((F_laws_toNote x_aN).Sn).length c212), (.int .i64 ((F_laws_toNote x_aN).Epoch)), (.int .i64 ((F_laws_toNote x_aN).Seq)), (.slice a216 ((F_laws_toNote x_aN).Body).length c217), (.slice a221 ((F_laws_toNote x_aN).Key).length c222), (.int .i64 (((F_laws_toNote x_aN).A).Host)), (.int .i64 (((F_laws_toNote x_aN).A).Port)), (.int .i64 ((F_laws_toNote x_aN).Now))]) (F_laws_toNote x_aN) from ⟨_, _, _, _, _, _, _, _, rfl, (Rd.of_own o208), s209, (Rd.of_own o213), s214, (Rd.of_own o218), s219, (Rd.of_own o223), s224⟩)) ?_
          rintro _ w10 ⟨k233, rfl⟩
          have m234 := m203.extk k233
          exact wl_fin k233 rfl
        · intro w9 k235
          have m236 := m99.extk k235
          rintro _ rfl
          rintro _ rfl
          rintro _ ⟨a239, c240, a244, c245, a249, c250, a254, c255, rfl, o241, s242, o246, s247, o251, s252, o256, s257, ap259⟩
          rintro _ rfl
          intro u260
          show WL _ _ _ _ _ _ _
          refine wl_pure (.bool (!(F_laws_eqNote (F_laws_toNote x_aN) (F_laws_toNote x_aN)))) (want_none rfl) rfl rfl (by kernel_rfl) ?_
          exact wl_fin (Ch.refl _ _) rfl
      · intro w9 k261
        have m262 := m99.extk k261
        rintro _ rfl
        rintro _ rfl
        rintro _ ⟨a265, c266, a270, c271, a275, c276, a280, c281, rfl, o267, s268, o272, s273, o277, s278, o282, s283, ap285⟩
        rintro _ rfl
        rintro _ rfl
        show WL _ _ _ _ _ _ _
        refine wl_nil ?_
        refine wq_then ?_
        rcases Bool.eq_false_or_eq_true (F_laws_eqNote (F_laws_toNote x_aN) (F_laws_toNote x_aN)) with h286 | h286
        · skip
          refine wc_false (congrArg (fun b => Value.bool (!b)) h286) ?_
          refine wc_skip ?_
          refine wq_then ?_
          refine wc_seq ?_
          refine wc_region ?_
          refine wl_mv (.bool true) (want_none rfl) rfl rfl (.inr rfl) rfl ?_
          refine wl_nil ?_
          refine wq_then ?_
          refine wc_ret ?_
          refine ret_1 (.inl rfl) (.bool true) rfl rfl ?_
          refine ⟨m262.keep0, ?_⟩
          have hF288 : F_laws_FnExactNoteOk x_aN = true := by simp only [F_laws_FnExactNoteOk, h30, h100, h286, cond_true, cond_false]
          rw [hF288]
          exact rfl
        · skip
          refine wc_true (congrArg (fun b => Value.bool (!b)) h286) ?_
          refine wc_seq ?_
          refine wc_region ?_
          refine wl_mv (.bool false) (want_none rfl) rfl rfl (.inr rfl) rfl ?_
          refine wl_nil ?_
          refine wq_then ?_
          refine wc_ret ?_
          refine wq_then_ret ?_
          refine ret_1 (.inl rfl) (.bool false) rfl rfl ?_
          refine ⟨m262.keep0, ?_⟩
          have hF290 : F_laws_FnExactNoteOk x_aN = false := by simp only [F_laws_FnExactNoteOk, h30, h100, h286, cond_true, cond_false]
          rw [hF290]
          exact rfl
    · skip
      refine wc_true (congrArg (fun b => Value.bool (!b)) h100) ?_
      refine wc_seq ?_
      refine wc_region ?_
      refine wl_mv (.bool false) (want_none rfl) rfl rfl (.inr rfl) rfl ?_
      refine wl_nil ?_
      refine wq_then ?_
      refine wc_ret ?_
      refine wq_then_ret ?_
      refine ret_1 (.inl rfl) (.bool false) rfl rfl ?_
      refine ⟨m99.keep0, ?_⟩
      have hF292 : F_laws_FnExactNoteOk x_aN = false := by simp only [F_laws_FnExactNoteOk, h30, h100, cond_true, cond_false]
      rw [hF292]
      exact rfl

def Q_131 (w : World) (v : Value) (x : (PCand)) : Prop := ∃ (a1 : Option Addr) (c1 : Nat), v = .agg #[.int .i64 x.A.Host, .int .i64 x.A.Port, .slice a1 x.Draw.length c1, .int .i64 x.Until] ∧ Rd w 1 (.slice a1 x.Draw.length c1) x.Draw.length (x.Draw.map bV) ∧ x.Draw.length ≤ 9223372036854775807
def F_laws_szCand (x_a : PCand) (x_left : Int) : (Int) := bif (decide ((F_laws_szByteS x_a.Draw x_left) < 0)) then ((-1)) else ((F_laws_szByteS x_a.Draw x_left))
theorem C_laws_szCand (w0 : World) (v_x_a : Value) (x_a : PCand) (r_x_a : Q_131 w0 v_x_a x_a) (x_left : Int) (pre0 : 0 ≤ x_left) (pre1 : x_left ≤ 1048576) : Fn Try.prog 116 #[v_x_a, (.int .i64 x_left)] w0 (fun v w' => Keep w0 w' ∧ O_3 w' w0.heap.size v (F_laws_szCand x_a x_left)) := by
  obtain ⟨a1, c2, rfl, r3, s4⟩ := r_x_a
  refine fn_of (n := 12) (l := [(.agg #[(.int .i64 x_a.A.Host), (.int .i64 x_a.A.Port), (.slice a1 x_a.Draw.length c2), (.int .i64 x_a.Until)]), (.int .i64 x_left), undef, undef, undef, undef, undef, undef, undef, undef, undef, undef]) Try.func116 rfl rfl (by kernel_rfl) rfl ?_
  refine wc_seq ?_
  refine wc_region ?_
  refine wl_box (want_none rfl) [(.int .i64 x_a.A.Host), (.int .i64 x_a.A.Port), (.slice a1 x_a.Draw.length c2), (.int .i64 x_a.Until)] rfl rfl rfl rfl ?_
  intro g6 w1 p7 p8 k9 b10
  have m11 := (Ch.base w0).extk k9
  refine wl_mv (.int .i64 0) (want_none rfl) rfl rfl (.inr rfl) rfl ?_
  refine wl_nil ?_
  refine wq_then ?_
  refine wc_seq ?_
  refine wc_region ?_
  refine wl_pure (.pointer (some ⟨g6, 2, none⟩)) (want_none rfl) rfl rfl (by kernel_rfl) ?_
  refine wl_load1 (.slice a1 x_a.Draw.length c2) (want_none rfl) rfl rfl rfl rfl isAgg_22 b10 rfl ?_
  refine wl_mv (.int .i64 x_left) (want_none rfl) rfl rfl (.inl rfl) rfl ?_
  refine wl_call (want_none rfl) (args := #[(.slice a1 x_a.Draw.length c2), (.int .i64 x_left)]) rfl rfl (by kernel_rfl) (C_laws_szByteS w1 (.slice a1 x_a.Draw.length c2) x_a.Draw (show Q_22 w1 (.slice a1 x_a.Draw.length c2) x_a.Draw from ⟨_, _, rfl, (r3.from0 m11), s4⟩) x_left (by omega) (by omega)) ?_
  rintro _ w2 ⟨k12, rfl⟩
  have m13 := m11.extk k12
  have q14 := laws_szByteS_le x_a.Draw x_left
  refine wl_mv (.int .i64 (F_laws_szByteS x_a.Draw x_left)) (want_none rfl) rfl rfl (.inr rfl) rfl ?_
  refine wl_nil ?_
  refine wq_then ?_
  refine wc_seq ?_
  refine wc_seq ?_
  refine wc_region ?_
  refine wl_mv (.int .i64 (F_laws_szByteS x_a.Draw x_left)) (want_none rfl) rfl rfl (.inl rfl) rfl ?_
  refine wl_pure (.bool (decide ((F_laws_szByteS x_a.Draw x_left) < 0))) (want_none rfl) rfl rfl (by kernel_rfl) ?_
  refine wl_nil ?_
  refine wq_then ?_
  rcases Bool.eq_false_or_eq_true (decide ((F_laws_szByteS x_a.Draw x_left) < 0)) with h15 | h15
  · have q16 := of_decide_eq_true h15
    refine wc_true (congrArg Value.bool h15) ?_
    refine wc_seq ?_
    refine wc_region ?_
    refine wl_mv (.int .i64 (-1)) (want_none rfl) rfl rfl (.inr rfl) rfl ?_
    refine wl_nil ?_
    refine wq_then ?_
    refine wc_ret ?_
    refine wq_then_ret ?_
    refine ret_1 (.inl rfl) (.int .i64 (-1)) rfl rfl ?_
    refine ⟨m13.keep0, ?_⟩
    have hF17 : F_laws_szCand x_a x_left = (-1) := by simp only [F_laws_szCand, h15, cond_true, cond_false]
    rw [hF17]
    exact rfl
  · have q18 := of_decide_eq_false h15
    refine wc_false (congrArg Value.bool h15) ?_
    refine wc_skip ?_
    refine wq_then ?_
    refine wc_seq ?_
    refine wc_region ?_
    refine wl_mv (.int .i64 (F_laws_szByteS x_a.Draw x_left)) (want_none rfl) rfl rfl (.inl rfl) rfl ?_
    refine wl_mv (.int .i64 (F_laws_szByteS x_a.Draw x_left)) (want_none rfl) rfl rfl (.inr rfl) rfl ?_
    refine wl_nil ?_
    refine wq_then ?_
    refine wc_ret ?_
    refine ret_1 (.inl rfl) (.int .i64 (F_laws_szByteS x_a.Draw x_left)) rfl rfl ?_
    refine ⟨m13.keep0, ?_⟩
    have hF19 : F_laws_szCand x_a x_left = (F_laws_szByteS x_a.Draw x_left) := by simp only [F_laws_szCand, h15, cond_true, cond_false]
    rw [hF19]
    exact rfl
theorem laws_szCand_le (x : PCand) (l : Int) : F_laws_szCand x l = -1 ∨ (F_laws_szCand x l = l - ((x.Draw.length : Int)) ∧ (0 ≤ F_laws_szCand x l ∨ l < 0 ∨ False)) := by
  have h0 := laws_szByteS_le x.Draw l
  simp only [F_laws_szCand, cond_eq_ite, decide_eq_true_eq]
  (repeat' split) <;> omega

theorem zero_109 : ∀ w, (zeroValue 109).run Try.prog w = .ok (.agg #[(.int .i64 0), (.int .i64 0), (.slice none 0 0), (.int .i64 0)]) w := fun w => by kernel_rfl
theorem isAgg_109 : ∀ w, (isAgg 109).run Try.prog w = .ok true w := fun w => by kernel_rfl
theorem sizeOf_109 : ∀ w, (sizeOf 109).run Try.prog w = .ok 4 w := fun w => by kernel_rfl
def R_131 (w : World) (v : Value) (x : (PCand)) : Prop := ∃ (a1 : Option Addr) (c1 : Nat), v = .agg #[.int .i64 x.A.Host, .int .i64 x.A.Port, .slice a1 x.Draw.length c1, .int .i64 x.Until] ∧ Rd w 1 (.slice a1 x.Draw.length c1) x.Draw.length (x.Draw.map bV) ∧ x.Draw.length ≤ 1073741824
def O_109 (w : World) (lo : Nat) (v : Value) (x : (PCand)) : Prop := ∃ (a1 : Option Addr) (c1 : Nat), v = .agg #[.int .i64 x.A.Host, .int .i64 x.A.Port, .slice a1 x.Draw.length c1, .int .i64 x.Until] ∧ w.ownsRow lo 5 1 (.slice a1 x.Draw.length c1) x.Draw.length (x.Draw.map bV) ∧ x.Draw.length ≤ 1073741824 ∧ Aps [(a1, c1)]
def F_laws_toCand (x_a : PCand) : (PCand) := { A := (F_laws_toAddr x_a.A), Draw := (cpB x_a.Draw), Until := x_a.Until : PCand }
theorem C_laws_toCand (w0 : World) (v_x_a : Value) (x_a : PCand) (r_x_a : R_131 w0 v_x_a x_a)  : Fn Try.prog 117 #[v_x_a] w0 (fun v w' => Keep w0 w' ∧ O_109 w' w0.heap.size v (F_laws_toCand x_a)) := by
  obtain ⟨a1, c2, rfl, r3, s4⟩ := r_x_a
  refine fn_of (n := 16) (l := [(.agg #[(.int .i64 x_a.A.Host), (.int .i64 x_a.A.Port), (.slice a1 x_a.Draw.length c2), (.int .i64 x_a.Until)]), undef, undef, undef, undef, undef, undef, undef, undef, undef, undef, undef, undef, undef, undef, undef]) Try.func117 rfl rfl (by kernel_rfl) rfl ?_
  refine wc_seq ?_
  refine wc_region ?_
  refine wl_box (want_none rfl) [(.int .i64 x_a.A.Host), (.int .i64 x_a.A.Port), (.slice a1 x_a.Draw.length c2), (.int .i64 x_a.Until)] rfl rfl rfl rfl ?_
  intro g6 w1 p7 p8 k9 b10
  have m11 := (Ch.base w0).extk k9
  refine wl_alloc (want_none rfl) (.agg #[(.int .i64 0), (.int .i64 0), (.slice none 0 0), (.int .i64 0)]) [(.int .i64 0), (.int .i64 0), (.slice none 0 0), (.int .i64 0)] zero_109 rfl rfl rfl rfl ?_
  intro g12 w2 p13 p14 k15 b16
  have m17 := m11.extk k15
  refine wl_nil ?_
  refine wq_then ?_
  refine wc_seq ?_
  refine wc_region ?_
  refine wl_alloc (want_none rfl) (.agg #[(.int .i64 0), (.int .i64 0), (.slice none 0 0), (.int .i64 0)]) [(.int .i64 0), (.int .i64 0), (.slice none 0 0), (.int .i64 0)] zero_109 rfl rfl rfl rfl ?_
  intro g18 w3 p19 p20 k21 b22
  have m23 := m17.extk k21
  refine wl_nil ?_
  refine wq_then ?_
  refine wc_seq ?_
  refine wc_region ?_
  refine wl_pure (.pointer (some ⟨g6, 0, none⟩)) (want_none rfl) rfl rfl (by kernel_rfl) ?_
  have b24 := ((b10.kp k15).kp k21)
  refine wl_loadN [(.int .i64 x_a.A.Host), (.int .i64 x_a.A.Port)] (want_none rfl) rfl rfl rfl rfl isAgg_56 sizeOf_56 b24 rfl ?_
  refine wl_call (want_none rfl) (args := #[(.agg #[(.int .i64 x_a.A.Host), (.int .i64 x_a.A.Port)])]) rfl rfl (by kernel_rfl) (C_laws_toAddr w3 (.agg #[(.int .i64 x_a.A.Host), (.int .i64 x_a.A.Port)]) x_a.A (show R_56 w3 (.agg #[(.int .i64 x_a.A.Host), (.int .i64 x_a.A.Port)]) x_a.A from rfl)) ?_
  rintro _ w4 ⟨k25, rfl⟩
  have m26 := m23.extk k25
  refine wl_pure (.pointer (some ⟨g18, 0, none⟩)) (want_none rfl) rfl rfl (by kernel_rfl) ?_
  have b27 := (b22.kp k25)
  refine wl_store (.agg #[(.int .i64 ((F_laws_toAddr x_a.A).Host)), (.int .i64 ((F_laws_toAddr x_a.A).Port))]) [(.int .i64 ((F_laws_toAddr x_a.A).Host)), (.int .i64 ((F_laws_toAddr x_a.A).Port))] [(.int .i64 ((F_laws_toAddr x_a.A).Host)), (.int .i64 ((F_laws_toAddr x_a.A).Port)), (.slice none 0 0), (.int .i64 0)] (want_none rfl) rfl rfl rfl rfl rfl (one_cons rfl (one_cons rfl one_nil)) sizeOf_61 b27 rfl rfl ?_
  intro w5 k28 b29 z30
  have m31 := m26.ext k28 (fun k hk => by subst hk; exact Nat.le_trans (Nat.le_trans k9.size k15.size) p19)
  refine wl_nil ?_
  refine wq_then ?_
  refine wc_seq ?_
  refine wc_region ?_
  refine wl_pure (.pointer (some ⟨g6, 2, none⟩)) (want_none rfl) rfl rfl (by kernel_rfl) ?_
  have b32 := ((b24.kp k25).ch k28 (Nat.ne_of_lt (Nat.lt_of_lt_of_le p8 (Nat.le_trans k15.size p19))))
  refine wl_load1 (.slice a1 x_a.Draw.length c2) (want_none rfl) rfl rfl rfl rfl isAgg_22 b32 rfl ?_
  refine wl_call (want_none rfl) (args := #[(.slice a1 x_a.Draw.length c2)]) rfl rfl (by kernel_rfl) (C_laws_toByteS w5 (.slice a1 x_a.Draw.length c2) x_a.Draw (show R_22 w5 (.slice a1 x_a.Draw.length c2) x_a.Draw from ⟨_, _, rfl, (r3.from0 m31), s4⟩)) ?_
  rintro _ w6 ⟨k33, ⟨a34, c35, rfl, o36, s37, ap39⟩⟩
  have m40 := m31.extk k33
  refine wl_pure (.pointer (some ⟨g18, 2, none⟩)) (want_none rfl) rfl rfl (by kernel_rfl) ?_
  have b41 := (b29.kp k33)
  refine wl_store (.slice a34 (cpB x_a.Draw).length c35) [(.slice a34 (cpB x_a.Draw).length c35)] [(.int .i64 ((F_laws_toAddr x_a.A).Host)), (.int .i64 ((F_laws_toAddr x_a.A).Port)), (.slice a34 (cpB x_a.Draw).length c35), (.int .i64 0)] (want_none rfl) rfl rfl rfl rfl rfl (one_cons rfl one_nil) sizeOf_22 b41 rfl rfl ?_
  intro w7 k42 b43 z44
  have m45 := m40.ext k42 (fun k hk => by subst hk; exact Nat.le_trans (Nat.le_trans k9.size k15.size) p19)
  refine wl_nil ?_
  refine wq_then ?_
  refine wc_seq ?_
  refine wc_region ?_
  refine wl_pure (.pointer (some ⟨g6, 3, none⟩)) (want_none rfl) rfl rfl (by kernel_rfl) ?_
  have b46 := ((b32.kp k33).ch k42 (Nat.ne_of_lt (Nat.lt_of_lt_of_le p8 (Nat.le_trans k15.size p19))))
  refine wl_load1 (.int .i64 x_a.Until) (want_none rfl) rfl rfl rfl rfl isAgg_3 b46 rfl ?_
  refine wl_pure (.pointer (some ⟨g18, 3, none⟩)) (want_none rfl) rfl rfl (by kernel_rfl) ?_
  refine wl_store (.int .i64 x_a.Until) [(.int .i64 x_a.Until)] [(.int .i64 ((F_laws_toAddr x_a.A).Host)), (.int .i64 ((F_laws_toAddr x_a.A).Port)), (.slice a34 (cpB x_a.Draw).length c35), (.int .i64 x_a.Until)] (want_none rfl) rfl rfl rfl rfl rfl (one_cons rfl one_nil) sizeOf_3 b43 rfl rfl ?_
  intro w8 k47 b48 z49
  have m50 := m45.ext k47 (fun k hk => by subst hk; exact Nat.le_trans (Nat.le_trans k9.size k15.size) p19)
  refine wl_nil ?_
  refine wq_then ?_
  refine wc_seq ?_
  refine wc_region ?_
  refine wl_loadN [(.int .i64 ((F_laws_toAddr x_a.A).Host)), (.int .i64 ((F_laws_toAddr x_a.A).Port)), (.slice a34 (cpB x_a.Draw).length c35), (.int .i64 x_a.Until)] (want_none rfl) rfl rfl rfl rfl isAgg_109 sizeOf_109 b48 rfl ?_
  have b51 := ((((((b16.kp k21).kp k25).ch k28 (Nat.ne_of_lt (Nat.lt_of_lt_of_le p14 (Nat.le_trans (Nat.le_refl _) p19)))).kp k33).ch k42 (Nat.ne_of_lt (Nat.lt_of_lt_of_le p14 (Nat.le_trans (Nat.le_refl _) p19)))).ch k47 (Nat.ne_of_lt (Nat.lt_of_lt_of_le p14 (Nat.le_trans (Nat.le_refl _) p19))))
  refine wl_store (.agg #[(.int .i64 ((F_laws_toAddr x_a.A).Host)), (.int .i64 ((F_laws_toAddr x_a.A).Port)), (.slice a34 (cpB x_a.Draw).length c35), (.int .i64 x_a.Until)]) [(.int .i64 ((F_laws_toAddr x_a.A).Host)), (.int .i64 ((F_laws_toAddr x_a.A).Port)), (.slice a34 (cpB x_a.Draw).length c35), (.int .i64 x_a.Until)] [(.int .i64 ((F_laws_toAddr x_a.A).Host)), (.int .i64 ((F_laws_toAddr x_a.A).Port)), (.slice a34 (cpB x_a.Draw).length c35), (.int .i64 x_a.Until)] (want_none rfl) rfl rfl rfl rfl rfl (one_cons rfl (one_cons rfl (one_cons rfl (one_cons rfl one_nil)))) sizeOf_109 b51 rfl rfl ?_
  intro w9 k52 b53 z54
  have m55 := m50.ext k52 (fun k hk => by subst hk; exact Nat.le_trans k9.size p13)
  refine wl_nil ?_
  refine wq_then ?_
  refine wc_ret ?_
  have o56 := (own_ch (own_ch (own_ch o36 k42 (fun g hg hlt hk => by have h1 := (own_lt o36 g hg).1; have h2 := Nat.lt_of_lt_of_le p20 (Nat.le_trans k25.size k28.size); omega)) k47 (fun g hg hlt hk => by have h1 := (own_lt o36 g hg).1; have h2 := Nat.lt_of_lt_of_le p20 (Nat.le_trans k25.size k28.size); omega)) k52 (fun g hg hlt hk => by have h1 := (own_lt o36 g hg).1; have h2 := Nat.lt_of_lt_of_le p14 (Nat.le_trans (Nat.le_trans k21.size k25.size) k28.size); omega))
  refine ret_1 (.inl rfl) (.agg #[(.int .i64 ((F_laws_toAddr x_a.A).Host)), (.int .i64 ((F_laws_toAddr x_a.A).Port)), (.slice a34 (cpB x_a.Draw).length c35), (.int .i64 x_a.Until)]) rfl (rv_c [(.int .i64 ((F_laws_toAddr x_a.A).Host)), (.int .i64 ((F_laws_toAddr x_a.A).Port)), (.slice a34 (cpB x_a.Draw).length c35), (.int .i64 x_a.Until)] rfl b53 isAgg_109 sizeOf_109) ?_
  refine ⟨m55.keep0, ?_⟩
  have hF57 : F_laws_toCand x_a = { A := (F_laws_toAddr x_a.A), Draw := (cpB x_a.Draw), Until := x_a.Until : PCand } := by rfl
  rw [hF57]
  exact ⟨_, _, rfl, (own_lo o56 (Nat.le_trans (Nat.le_trans (Nat.le_trans (Nat.le_trans k9.size k15.size) k21.size) k25.size) k28.size)), s37, ⟨trivial, trivial⟩⟩

def R_109 (w : World) (v : Value) (x : (PCand)) : Prop := ∃ (a1 : Option Addr) (c1 : Nat), v = .agg #[.int .i64 x.A.Host, .int .i64 x.A.Port, .slice a1 x.Draw.length c1, .int .i64 x.Until] ∧ Rd w 1 (.slice a1 x.Draw.length c1) x.Draw.length (x.Draw.map bV) ∧ x.Draw.length ≤ 1073741824
def F_laws_eqCand (x_a : PCand) (x_b : PCand) : (Bool) := bif (F_laws_eqAddr x_a.A x_b.A) then (bif (eqB x_a.Draw x_b.Draw) then (bif (decide (x_a.Until = x_b.Until)) then (true) else (false)) else (false)) else (false)
theorem C_laws_eqCand (w0 : World) (v_x_a : Value) (x_a : PCand) (r_x_a : R_109 w0 v_x_a x_a) (v_x_b : Value) (x_b : PCand) (r_x_b : R_109 w0 v_x_b x_b)  : Fn Try.prog 118 #[v_x_a, v_x_b] w0 (fun v w' => Keep w0 w' ∧ O_4 w' w0.heap.size v (F_laws_eqCand x_a x_b)) := by
  obtain ⟨a1, c2, rfl, r3, s4⟩ := r_x_a
  obtain ⟨a6, c7, rfl, r8, s9⟩ := r_x_b
  refine fn_of (n := 22) (l := [(.agg #[(.int .i64 x_a.A.Host), (.int .i64 x_a.A.Port), (.slice a1 x_a.Draw.length c2), (.int .i64 x_a.Until)]), (.agg #[(.int .i64 x_b.A.Host), (.int .i64 x_b.A.Port), (.slice a6 x_b.Draw.length c7), (.int .i64 x_b.Until)]), undef, undef, undef, undef, undef, undef, undef, undef, undef, undef, undef, undef, undef, undef, undef, undef, undef, undef, undef, undef]) Try.func118 rfl rfl (by kernel_rfl) rfl ?_
  refine wc_seq ?_
  refine wc_region ?_
  refine wl_box (want_none rfl) [(.int .i64 x_a.A.Host), (.int .i64 x_a.A.Port), (.slice a1 x_a.Draw.length c2), (.int .i64 x_a.Until)] rfl rfl rfl rfl ?_
  intro g11 w1 p12 p13 k14 b15
  have m16 := (Ch.base w0).extk k14
  refine wl_box (want_none rfl) [(.int .i64 x_b.A.Host), (.int .i64 x_b.A.Port), (.slice a6 x_b.Draw.length c7), (.int .i64 x_b.Until)] rfl rfl rfl rfl ?_
  intro g17 w2 p18 p19 k20 b21
  have m22 := m16.extk k20
  refine wl_mv (.bool false) (want_none rfl) rfl rfl (.inr rfl) rfl ?_
  refine wl_nil ?_
  refine wq_then ?_
  refine wc_seq ?_
  refine wc_seq ?_
  refine wc_region ?_
  refine wl_pure (.pointer (some ⟨g11, 0, none⟩)) (want_none rfl) rfl rfl (by kernel_rfl) ?_
  have b23 := (b15.kp k20)
  refine wl_loadN [(.int .i64 x_a.A.Host), (.int .i64 x_a.A.Port)] (want_none rfl) rfl rfl rfl rfl isAgg_61 sizeOf_61 b23 rfl ?_
  refine wl_pure (.pointer (some ⟨g17, 0, none⟩)) (want_none rfl) rfl rfl (by kernel_rfl) ?_
  refine wl_loadN [(.int .i64 x_b.A.Host), (.int .i64 x_b.A.Port)] (want_none rfl) rfl rfl rfl rfl isAgg_61 sizeOf_61 b21 rfl ?_
  refine wl_call (want_none rfl) (args := #[(.agg #[(.int .i64 x_a.A.Host), (.int .i64 x_a.A.Port)]), (.agg #[(.int .i64 x_b.A.Host), (.int .i64 x_b.A.Port)])]) rfl rfl (by kernel_rfl) (C_laws_eqAddr w2 (.agg #[(.int .i64 x_a.A.Host), (.int .i64 x_a.A.Port)]) x_a.A (show R_61 w2 (.agg #[(.int .i64 x_a.A.Host), (.int .i64 x_a.A.Port)]) x_a.A from rfl) (.agg #[(.int .i64 x_b.A.Host), (.int .i64 x_b.A.Port)]) x_b.A (show R_61 w2 (.agg #[(.int .i64 x_b.A.Host), (.int .i64 x_b.A.Port)]) x_b.A from rfl)) ?_
  rintro _ w3 ⟨k24, rfl⟩
  have m25 := m22.extk k24
  refine wl_pure (.bool (!(F_laws_eqAddr x_a.A x_b.A))) (want_none rfl) rfl rfl (by kernel_rfl) ?_
  refine wl_nil ?_
  refine wq_then ?_
  rcases Bool.eq_false_or_eq_true (F_laws_eqAddr x_a.A x_b.A) with h26 | h26
  · skip
    refine wc_false (congrArg (fun b => Value.bool (!b)) h26) ?_
    refine wc_skip ?_
    refine wq_then ?_
    refine wc_seq ?_
    refine wc_seq ?_
    refine wc_region ?_
    refine wl_pure (.pointer (some ⟨g11, 2, none⟩)) (want_none rfl) rfl rfl (by kernel_rfl) ?_
    have b28 := (b23.kp k24)
    refine wl_load1 (.slice a1 x_a.Draw.length c2) (want_none rfl) rfl rfl rfl rfl isAgg_22 b28 rfl ?_
    refine wl_pure (.pointer (some ⟨g17, 2, none⟩)) (want_none rfl) rfl rfl (by kernel_rfl) ?_
    have b29 := (b21.kp k24)
    refine wl_load1 (.slice a6 x_b.Draw.length c7) (want_none rfl) rfl rfl rfl rfl isAgg_22 b29 rfl ?_
    refine wl_call (want_none rfl) (args := #[(.slice a1 x_a.Draw.length c2), (.slice a6 x_b.Draw.length c7)]) rfl rfl (by kernel_rfl) (C_laws_eqByteS w3 (.slice a1 x_a.Draw.length c2) x_a.Draw (show R_22 w3 (.slice a1 x_a.Draw.length c2) x_a.Draw from ⟨_, _, rfl, (r3.from0 m25), s4⟩) (.slice a6 x_b.Draw.length c7) x_b.Draw (show R_22 w3 (.slice a6 x_b.Draw.length c7) x_b.Draw from ⟨_, _, rfl, (r8.from0 m25), s9⟩)) ?_
    rintro _ w4 ⟨k30, rfl⟩
    have m31 := m25.extk k30
    refine wl_pure (.bool (!(eqB x_a.Draw x_b.Draw))) (want_none rfl) rfl rfl (by kernel_rfl) ?_
    refine wl_nil ?_
    refine wq_then ?_
    rcases Bool.eq_false_or_eq_true (eqB x_a.Draw x_b.Draw) with h32 | h32
    · skip
      refine wc_false (congrArg (fun b => Value.bool (!b)) h32) ?_
      refine wc_skip ?_
      refine wq_then ?_
      refine wc_seq ?_
      refine wc_seq ?_
      refine wc_region ?_
      refine wl_pure (.pointer (some ⟨g11, 3, none⟩)) (want_none rfl) rfl rfl (by kernel_rfl) ?_
      have b34 := (b28.kp k30)
      refine wl_load1 (.int .i64 x_a.Until) (want_none rfl) rfl rfl rfl rfl isAgg_3 b34 rfl ?_
      refine wl_pure (.pointer (some ⟨g17, 3, none⟩)) (want_none rfl) rfl rfl (by kernel_rfl) ?_
      have b35 := (b29.kp k30)
      refine wl_load1 (.int .i64 x_b.Until) (want_none rfl) rfl rfl rfl rfl isAgg_3 b35 rfl ?_
      refine wl_pure (.bool (!(decide (x_a.Until = x_b.Until)))) (want_none rfl) rfl rfl (by kernel_rfl) ?_
      refine wl_nil ?_
      refine wq_then ?_
      rcases Bool.eq_false_or_eq_true (decide (x_a.Until = x_b.Until)) with h36 | h36
      · have q37 := of_decide_eq_true h36
        refine wc_false (congrArg (fun b => Value.bool (!b)) h36) ?_
        refine wc_skip ?_
        refine wq_then ?_
        refine wc_seq ?_
        refine wc_region ?_
        refine wl_mv (.bool true) (want_none rfl) rfl rfl (.inr rfl) rfl ?_
        refine wl_nil ?_
        refine wq_then ?_
        refine wc_ret ?_
        refine ret_1 (.inl rfl) (.bool true) rfl rfl ?_
        refine ⟨m31.keep0, ?_⟩
        have hF38 : F_laws_eqCand x_a x_b = true := by simp only [F_laws_eqCand, h26, h32, h36, cond_true, cond_false]
        rw [hF38]
        exact rfl
      · have q39 := of_decide_eq_false h36
        refine wc_true (congrArg (fun b => Value.bool (!b)) h36) ?_
        refine wc_seq ?_
        refine wc_region ?_
        refine wl_mv (.bool false) (want_none rfl) rfl rfl (.inr rfl) rfl ?_
        refine wl_nil ?_
        refine wq_then ?_
        refine wc_ret ?_
        refine wq_then_ret ?_
        refine ret_1 (.inl rfl) (.bool false) rfl rfl ?_
        refine ⟨m31.keep0, ?_⟩
        have hF40 : F_laws_eqCand x_a x_b = false := by simp only [F_laws_eqCand, h26, h32, h36, cond_true, cond_false]
        rw [hF40]
        exact rfl
    · skip
      refine wc_true (congrArg (fun b => Value.bool (!b)) h32) ?_
      refine wc_seq ?_
      refine wc_region ?_
      refine wl_mv (.bool false) (want_none rfl) rfl rfl (.inr rfl) rfl ?_
      refine wl_nil ?_
      refine wq_then ?_
      refine wc_ret ?_
      refine wq_then_ret ?_
      refine ret_1 (.inl rfl) (.bool false) rfl rfl ?_
      refine ⟨m31.keep0, ?_⟩
      have hF42 : F_laws_eqCand x_a x_b = false := by simp only [F_laws_eqCand, h26, h32, cond_true, cond_false]
      rw [hF42]
      exact rfl
  · skip
    refine wc_true (congrArg (fun b => Value.bool (!b)) h26) ?_
    refine wc_seq ?_
    refine wc_region ?_
    refine wl_mv (.bool false) (want_none rfl) rfl rfl (.inr rfl) rfl ?_
    refine wl_nil ?_
    refine wq_then ?_
    refine wc_ret ?_
    refine wq_then_ret ?_
    refine ret_1 (.inl rfl) (.bool false) rfl rfl ?_
    refine ⟨m25.keep0, ?_⟩
    have hF44 : F_laws_eqCand x_a x_b = false := by simp only [F_laws_eqCand, h26, cond_true, cond_false]
    rw [hF44]
    exact rfl

theorem zero_114 : ∀ w, (zeroValue 114).run Try.prog w = .ok (.agg #[(.int .i64 0), (.int .i64 0), (.int .i64 0), (.int .i64 0)]) w := fun w => by kernel_rfl
theorem isAgg_114 : ∀ w, (isAgg 114).run Try.prog w = .ok true w := fun w => by kernel_rfl
theorem sizeOf_114 : ∀ w, (sizeOf 114).run Try.prog w = .ok 4 w := fun w => by kernel_rfl
def R_117 (w : World) (v : Value) (x : (PCredit)) : Prop := v = .agg #[.int .i64 x.A.Host, .int .i64 x.A.Port, .int .i64 x.Got, .int .i64 x.Sent]
def O_114 (w : World) (lo : Nat) (v : Value) (x : (PCredit)) : Prop := v = .agg #[.int .i64 x.A.Host, .int .i64 x.A.Port, .int .i64 x.Got, .int .i64 x.Sent]
def F_laws_toCredit (x_a : PCredit) : (PCredit) := { A := (F_laws_toAddr x_a.A), Got := x_a.Got, Sent := x_a.Sent : PCredit }
theorem C_laws_toCredit (w0 : World) (v_x_a : Value) (x_a : PCredit) (r_x_a : R_117 w0 v_x_a x_a)  : Fn Try.prog 96 #[v_x_a] w0 (fun v w' => Keep w0 w' ∧ O_114 w' w0.heap.size v (F_laws_toCredit x_a)) := by
  obtain rfl := r_x_a
  refine fn_of (n := 15) (l := [(.agg #[(.int .i64 x_a.A.Host), (.int .i64 x_a.A.Port), (.int .i64 x_a.Got), (.int .i64 x_a.Sent)]), undef, undef, undef, undef, undef, undef, undef, undef, undef, undef, undef, undef, undef, undef]) Try.func96 rfl rfl (by kernel_rfl) rfl ?_
  refine wc_seq ?_
  refine wc_region ?_
  refine wl_box (want_none rfl) [(.int .i64 x_a.A.Host), (.int .i64 x_a.A.Port), (.int .i64 x_a.Got), (.int .i64 x_a.Sent)] rfl rfl rfl rfl ?_
  intro g1 w1 p2 p3 k4 b5
  have m6 := (Ch.base w0).extk k4
  refine wl_alloc (want_none rfl) (.agg #[(.int .i64 0), (.int .i64 0), (.int .i64 0), (.int .i64 0)]) [(.int .i64 0), (.int .i64 0), (.int .i64 0), (.int .i64 0)] zero_114 rfl rfl rfl rfl ?_
  intro g7 w2 p8 p9 k10 b11
  have m12 := m6.extk k10
  refine wl_nil ?_
  refine wq_then ?_
  refine wc_seq ?_
  refine wc_region ?_
  refine wl_alloc (want_none rfl) (.agg #[(.int .i64 0), (.int .i64 0), (.int .i64 0), (.int .i64 0)]) [(.int .i64 0), (.int .i64 0), (.int .i64 0), (.int .i64 0)] zero_114 rfl rfl rfl rfl ?_
  intro g13 w3 p14 p15 k16 b17
  have m18 := m12.extk k16
  refine wl_nil ?_
  refine wq_then ?_
  refine wc_seq ?_
  refine wc_region ?_
  refine wl_pure (.pointer (some ⟨g1, 0, none⟩)) (want_none rfl) rfl rfl (by kernel_rfl) ?_
  have b19 := ((b5.kp k10).kp k16)
  refine wl_loadN [(.int .i64 x_a.A.Host), (.int .i64 x_a.A.Port)] (want_none rfl) rfl rfl rfl rfl isAgg_56 sizeOf_56 b19 rfl ?_
  refine wl_call (want_none rfl) (args := #[(.agg #[(.int .i64 x_a.A.Host), (.int .i64 x_a.A.Port)])]) rfl rfl (by kernel_rfl) (C_laws_toAddr w3 (.agg #[(.int .i64 x_a.A.Host), (.int .i64 x_a.A.Port)]) x_a.A (show R_56 w3 (.agg #[(.int .i64 x_a.A.Host), (.int .i64 x_a.A.Port)]) x_a.A from rfl)) ?_
  rintro _ w4 ⟨k20, rfl⟩
  have m21 := m18.extk k20
  refine wl_pure (.pointer (some ⟨g13, 0, none⟩)) (want_none rfl) rfl rfl (by kernel_rfl) ?_
  have b22 := (b17.kp k20)
  refine wl_store (.agg #[(.int .i64 ((F_laws_toAddr x_a.A).Host)), (.int .i64 ((F_laws_toAddr x_a.A).Port))]) [(.int .i64 ((F_laws_toAddr x_a.A).Host)), (.int .i64 ((F_laws_toAddr x_a.A).Port))] [(.int .i64 ((F_laws_toAddr x_a.A).Host)), (.int .i64 ((F_laws_toAddr x_a.A).Port)), (.int .i64 0), (.int .i64 0)] (want_none rfl) rfl rfl rfl rfl rfl (one_cons rfl (one_cons rfl one_nil)) sizeOf_61 b22 rfl rfl ?_
  intro w5 k23 b24 z25
  have m26 := m21.ext k23 (fun k hk => by subst hk; exact Nat.le_trans (Nat.le_trans k4.size k10.size) p14)
  refine wl_nil ?_
  refine wq_then ?_
  refine wc_seq ?_
  refine wc_region ?_
  refine wl_pure (.pointer (some ⟨g1, 2, none⟩)) (want_none rfl) rfl rfl (by kernel_rfl) ?_
  have b27 := ((b19.kp k20).ch k23 (Nat.ne_of_lt (Nat.lt_of_lt_of_le p3 (Nat.le_trans k10.size p14))))
  refine wl_load1 (.int .i64 x_a.Got) (want_none rfl) rfl rfl rfl rfl isAgg_3 b27 rfl ?_
  refine wl_pure (.pointer (some ⟨g13, 2, none⟩)) (want_none rfl) rfl rfl (by kernel_rfl) ?_
  refine wl_store (.int .i64 x_a.Got) [(.int .i64 x_a.Got)] [(.int .i64 ((F_laws_toAddr x_a.A).Host)), (.int .i64 ((F_laws_toAddr x_a.A).Port)), (.int .i64 x_a.Got), (.int .i64 0)] (want_none rfl) rfl rfl rfl rfl rfl (one_cons rfl one_nil) sizeOf_3 b24 rfl rfl ?_
  intro w6 k28 b29 z30
  have m31 := m26.ext k28 (fun k hk => by subst hk; exact Nat.le_trans (Nat.le_trans k4.size k10.size) p14)
  refine wl_nil ?_
  refine wq_then ?_
  refine wc_seq ?_
  refine wc_region ?_
  refine wl_pure (.pointer (some ⟨g1, 3, none⟩)) (want_none rfl) rfl rfl (by kernel_rfl) ?_
  have b32 := (b27.ch k28 (Nat.ne_of_lt (Nat.lt_of_lt_of_le p3 (Nat.le_trans k10.size p14))))
  refine wl_load1 (.int .i64 x_a.Sent) (want_none rfl) rfl rfl rfl rfl isAgg_3 b32 rfl ?_
  refine wl_pure (.pointer (some ⟨g13, 3, none⟩)) (want_none rfl) rfl rfl (by kernel_rfl) ?_
  refine wl_store (.int .i64 x_a.Sent) [(.int .i64 x_a.Sent)] [(.int .i64 ((F_laws_toAddr x_a.A).Host)), (.int .i64 ((F_laws_toAddr x_a.A).Port)), (.int .i64 x_a.Got), (.int .i64 x_a.Sent)] (want_none rfl) rfl rfl rfl rfl rfl (one_cons rfl one_nil) sizeOf_3 b29 rfl rfl ?_
  intro w7 k33 b34 z35
  have m36 := m31.ext k33 (fun k hk => by subst hk; exact Nat.le_trans (Nat.le_trans k4.size k10.size) p14)
  refine wl_nil ?_
  refine wq_then ?_
  refine wc_seq ?_
  refine wc_region ?_
  refine wl_loadN [(.int .i64 ((F_laws_toAddr x_a.A).Host)), (.int .i64 ((F_laws_toAddr x_a.A).Port)), (.int .i64 x_a.Got), (.int .i64 x_a.Sent)] (want_none rfl) rfl rfl rfl rfl isAgg_114 sizeOf_114 b34 rfl ?_
  have b37 := (((((b11.kp k16).kp k20).ch k23 (Nat.ne_of_lt (Nat.lt_of_lt_of_le p9 (Nat.le_trans (Nat.le_refl _) p14)))).ch k28 (Nat.ne_of_lt (Nat.lt_of_lt_of_le p9 (Nat.le_trans (Nat.le_refl _) p14)))).ch k33 (Nat.ne_of_lt (Nat.lt_of_lt_of_le p9 (Nat.le_trans (Nat.le_refl _) p14))))
  refine wl_store (.agg #[(.int .i64 ((F_laws_toAddr x_a.A).Host)), (.int .i64 ((F_laws_toAddr x_a.A).Port)), (.int .i64 x_a.Got), (.int .i64 x_a.Sent)]) [(.int .i64 ((F_laws_toAddr x_a.A).Host)), (.int .i64 ((F_laws_toAddr x_a.A).Port)), (.int .i64 x_a.Got), (.int .i64 x_a.Sent)] [(.int .i64 ((F_laws_toAddr x_a.A).Host)), (.int .i64 ((F_laws_toAddr x_a.A).Port)), (.int .i64 x_a.Got), (.int .i64 x_a.Sent)] (want_none rfl) rfl rfl rfl rfl rfl (one_cons rfl (one_cons rfl (one_cons rfl (one_cons rfl one_nil)))) sizeOf_114 b37 rfl rfl ?_
  intro w8 k38 b39 z40
  have m41 := m36.ext k38 (fun k hk => by subst hk; exact Nat.le_trans k4.size p8)
  refine wl_nil ?_
  refine wq_then ?_
  refine wc_ret ?_
  refine ret_1 (.inl rfl) (.agg #[(.int .i64 ((F_laws_toAddr x_a.A).Host)), (.int .i64 ((F_laws_toAddr x_a.A).Port)), (.int .i64 x_a.Got), (.int .i64 x_a.Sent)]) rfl (rv_c [(.int .i64 ((F_laws_toAddr x_a.A).Host)), (.int .i64 ((F_laws_toAddr x_a.A).Port)), (.int .i64 x_a.Got), (.int .i64 x_a.Sent)] rfl b39 isAgg_114 sizeOf_114) ?_
  refine ⟨m41.keep0, ?_⟩
  have hF42 : F_laws_toCredit x_a = { A := (F_laws_toAddr x_a.A), Got := x_a.Got, Sent := x_a.Sent : PCredit } := by rfl
  rw [hF42]
  exact rfl

def R_114 (w : World) (v : Value) (x : (PCredit)) : Prop := v = .agg #[.int .i64 x.A.Host, .int .i64 x.A.Port, .int .i64 x.Got, .int .i64 x.Sent]
def F_laws_eqCredit (x_a : PCredit) (x_b : PCredit) : (Bool) := bif (F_laws_eqAddr x_a.A x_b.A) then (bif (decide (x_a.Got = x_b.Got)) then (bif (decide (x_a.Sent = x_b.Sent)) then (true) else (false)) else (false)) else (false)
theorem C_laws_eqCredit (w0 : World) (v_x_a : Value) (x_a : PCredit) (r_x_a : R_114 w0 v_x_a x_a) (v_x_b : Value) (x_b : PCredit) (r_x_b : R_114 w0 v_x_b x_b)  : Fn Try.prog 100 #[v_x_a, v_x_b] w0 (fun v w' => Keep w0 w' ∧ O_4 w' w0.heap.size v (F_laws_eqCredit x_a x_b)) := by
  obtain rfl := r_x_a
  obtain rfl := r_x_b
  refine fn_of (n := 21) (l := [(.agg #[(.int .i64 x_a.A.Host), (.int .i64 x_a.A.Port), (.int .i64 x_a.Got), (.int .i64 x_a.Sent)]), (.agg #[(.int .i64 x_b.A.Host), (.int .i64 x_b.A.Port), (.int .i64 x_b.Got), (.int .i64 x_b.Sent)]), undef, undef, undef, undef, undef, undef, undef, undef, undef, undef, undef, undef, undef, undef, undef, undef, undef, undef, undef]) Try.func100 rfl rfl (by kernel_rfl) rfl ?_
  refine wc_seq ?_
  refine wc_region ?_
  refine wl_box (want_none rfl) [(.int .i64 x_a.A.Host), (.int .i64 x_a.A.Port), (.int .i64 x_a.Got), (.int .i64 x_a.Sent)] rfl rfl rfl rfl ?_
  intro g1 w1 p2 p3 k4 b5
  have m6 := (Ch.base w0).extk k4
  refine wl_box (want_none rfl) [(.int .i64 x_b.A.Host), (.int .i64 x_b.A.Port), (.int .i64 x_b.Got), (.int .i64 x_b.Sent)] rfl rfl rfl rfl ?_
  intro g7 w2 p8 p9 k10 b11
  have m12 := m6.extk k10
  refine wl_mv (.bool false) (want_none rfl) rfl rfl (.inr rfl) rfl ?_
  refine wl_nil ?_
  refine wq_then ?_
  refine wc_seq ?_
  refine wc_seq ?_
  refine wc_region ?_
  refine wl_pure (.pointer (some ⟨g1, 0, none⟩)) (want_none rfl) rfl rfl (by kernel_rfl) ?_
  have b13 := (b5.kp k10)
  refine wl_loadN [(.int .i64 x_a.A.Host), (.int .i64 x_a.A.Port)] (want_none rfl) rfl rfl rfl rfl isAgg_61 sizeOf_61 b13 rfl ?_
  refine wl_pure (.pointer (some ⟨g7, 0, none⟩)) (want_none rfl) rfl rfl (by kernel_rfl) ?_
  refine wl_loadN [(.int .i64 x_b.A.Host), (.int .i64 x_b.A.Port)] (want_none rfl) rfl rfl rfl rfl isAgg_61 sizeOf_61 b11 rfl ?_
  refine wl_call (want_none rfl) (args := #[(.agg #[(.int .i64 x_a.A.Host), (.int .i64 x_a.A.Port)]), (.agg #[(.int .i64 x_b.A.Host), (.int .i64 x_b.A.Port)])]) rfl rfl (by kernel_rfl) (C_laws_eqAddr w2 (.agg #[(.int .i64 x_a.A.Host), (.int .i64 x_a.A.Port)]) x_a.A (show R_61 w2 (.agg #[(.int .i64 x_a.A.Host), (.int .i64 x_a.A.Port)]) x_a.A from rfl) (.agg #[(.int .i64 x_b.A.Host), (.int .i64 x_b.A.Port)]) x_b.A (show R_61 w2 (.agg #[(.int .i64 x_b.A.Host), (.int .i64 x_b.A.Port)]) x_b.A from rfl)) ?_
  rintro _ w3 ⟨k14, rfl⟩
  have m15 := m12.extk k14
  refine wl_pure (.bool (!(F_laws_eqAddr x_a.A x_b.A))) (want_none rfl) rfl rfl (by kernel_rfl) ?_
  refine wl_nil ?_
  refine wq_then ?_
  rcases Bool.eq_false_or_eq_true (F_laws_eqAddr x_a.A x_b.A) with h16 | h16
  · skip
    refine wc_false (congrArg (fun b => Value.bool (!b)) h16) ?_
    refine wc_skip ?_
    refine wq_then ?_
    refine wc_seq ?_
    refine wc_seq ?_
    refine wc_region ?_
    refine wl_pure (.pointer (some ⟨g1, 2, none⟩)) (want_none rfl) rfl rfl (by kernel_rfl) ?_
    have b18 := (b13.kp k14)
    refine wl_load1 (.int .i64 x_a.Got) (want_none rfl) rfl rfl rfl rfl isAgg_3 b18 rfl ?_
    refine wl_pure (.pointer (some ⟨g7, 2, none⟩)) (want_none rfl) rfl rfl (by kernel_rfl) ?_
    have b19 := (b11.kp k14)
    refine wl_load1 (.int .i64 x_b.Got) (want_none rfl) rfl rfl rfl rfl isAgg_3 b19 rfl ?_
    refine wl_pure (.bool (!(decide (x_a.Got = x_b.Got)))) (want_none rfl) rfl rfl (by kernel_rfl) ?_
    refine wl_nil ?_
    refine wq_then ?_
    rcases Bool.eq_false_or_eq_true (decide (x_a.Got = x_b.Got)) with h20 | h20
    · have q21 := of_decide_eq_true h20
      refine wc_false (congrArg (fun b => Value.bool (!b)) h20) ?_
      refine wc_skip ?_
      refine wq_then ?_
      refine wc_seq ?_
      refine wc_seq ?_
      refine wc_region ?_
      refine wl_pure (.pointer (some ⟨g1, 3, none⟩)) (want_none rfl) rfl rfl (by kernel_rfl) ?_
      refine wl_load1 (.int .i64 x_a.Sent) (want_none rfl) rfl rfl rfl rfl isAgg_3 b18 rfl ?_
      refine wl_pure (.pointer (some ⟨g7, 3, none⟩)) (want_none rfl) rfl rfl (by kernel_rfl) ?_
      refine wl_load1 (.int .i64 x_b.Sent) (want_none rfl) rfl rfl rfl rfl isAgg_3 b19 rfl ?_
      refine wl_pure (.bool (!(decide (x_a.Sent = x_b.Sent)))) (want_none rfl) rfl rfl (by kernel_rfl) ?_
      refine wl_nil ?_
      refine wq_then ?_
      rcases Bool.eq_false_or_eq_true (decide (x_a.Sent = x_b.Sent)) with h22 | h22
      · have q23 := of_decide_eq_true h22
        refine wc_false (congrArg (fun b => Value.bool (!b)) h22) ?_
        refine wc_skip ?_
        refine wq_then ?_
        refine wc_seq ?_
        refine wc_region ?_
        refine wl_mv (.bool true) (want_none rfl) rfl rfl (.inr rfl) rfl ?_
        refine wl_nil ?_
        refine wq_then ?_
        refine wc_ret ?_
        refine ret_1 (.inl rfl) (.bool true) rfl rfl ?_
        refine ⟨m15.keep0, ?_⟩
        have hF24 : F_laws_eqCredit x_a x_b = true := by simp only [F_laws_eqCredit, h16, h20, h22, cond_true, cond_false]
        rw [hF24]
        exact rfl
      · have q25 := of_decide_eq_false h22
        refine wc_true (congrArg (fun b => Value.bool (!b)) h22) ?_
        refine wc_seq ?_
        refine wc_region ?_
        refine wl_mv (.bool false) (want_none rfl) rfl rfl (.inr rfl) rfl ?_
        refine wl_nil ?_
        refine wq_then ?_
        refine wc_ret ?_
        refine wq_then_ret ?_
        refine ret_1 (.inl rfl) (.bool false) rfl rfl ?_
        refine ⟨m15.keep0, ?_⟩
        have hF26 : F_laws_eqCredit x_a x_b = false := by simp only [F_laws_eqCredit, h16, h20, h22, cond_true, cond_false]
        rw [hF26]
        exact rfl
    · have q27 := of_decide_eq_false h20
      refine wc_true (congrArg (fun b => Value.bool (!b)) h20) ?_
      refine wc_seq ?_
      refine wc_region ?_
      refine wl_mv (.bool false) (want_none rfl) rfl rfl (.inr rfl) rfl ?_
      refine wl_nil ?_
      refine wq_then ?_
      refine wc_ret ?_
      refine wq_then_ret ?_
      refine ret_1 (.inl rfl) (.bool false) rfl rfl ?_
      refine ⟨m15.keep0, ?_⟩
      have hF28 : F_laws_eqCredit x_a x_b = false := by simp only [F_laws_eqCredit, h16, h20, cond_true, cond_false]
      rw [hF28]
      exact rfl
  · skip
    refine wc_true (congrArg (fun b => Value.bool (!b)) h16) ?_
    refine wc_seq ?_
    refine wc_region ?_
    refine wl_mv (.bool false) (want_none rfl) rfl rfl (.inr rfl) rfl ?_
    refine wl_nil ?_
    refine wq_then ?_
    refine wc_ret ?_
    refine wq_then_ret ?_
    refine ret_1 (.inl rfl) (.bool false) rfl rfl ?_
    refine ⟨m15.keep0, ?_⟩
    have hF30 : F_laws_eqCredit x_a x_b = false := by simp only [F_laws_eqCredit, h16, cond_true, cond_false]
    rw [hF30]
    exact rfl
end Go.Proofs.Ytodlalolknldmaa.K
