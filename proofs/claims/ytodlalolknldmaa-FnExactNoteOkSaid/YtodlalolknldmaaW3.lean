import Derived.Test.YtodlalolknldmaaCore
import Derived.Test.YtodlalolknldmaaProg
import Derived.Test.YtodlalolknldmaaHeld
import Derived.Test.YtodlalolknldmaaW2
namespace Go.Proofs.Ytodlalolknldmaa.K
open Go.RowKit
set_option linter.unusedVariables false
set_option linter.unusedSimpArgs false
set_option maxRecDepth 100000
def F_impl_copyEp (x_e : PEp) : (PEp) := { N := x_e.N, Key := (F_impl_clone x_e.Key), Seq := x_e.Seq, Win := (F_impl_copyWin x_e.Win) : PEp }
theorem C_impl_copyEp (w0 : World) (v_x_e : Value) (x_e : PEp) (r_x_e : R_27 w0 v_x_e x_e)  : Fn Try.prog 115 #[v_x_e] w0 (fun v w' => Keep w0 w' ∧ O_27 w' w0.heap.size v (F_impl_copyEp x_e)) := by
  obtain ⟨a1, c2, a6, c7, rfl, r3, s4, r8, s9⟩ := r_x_e
  refine fn_of (n := 14) (l := [(.agg #[(.int .i64 x_e.N), (.slice a1 x_e.Key.length c2), (.int .i64 x_e.Seq), (.int .i64 x_e.Win.Top), (.slice a6 x_e.Win.Bits.length c7)]), undef, undef, undef, undef, undef, undef, undef, undef, undef, undef, undef, undef, undef]) Try.func115 rfl rfl (by kernel_rfl) rfl ?_
  refine wc_seq ?_
  refine wc_region ?_
  refine wl_box (want_none rfl) [(.int .i64 x_e.N), (.slice a1 x_e.Key.length c2), (.int .i64 x_e.Seq), (.int .i64 x_e.Win.Top), (.slice a6 x_e.Win.Bits.length c7)] rfl rfl rfl rfl ?_
  intro g11 w1 p12 p13 k14 b15
  have m16 := (Ch.base w0).extk k14
  refine wl_alloc (want_none rfl) (.agg #[(.int .i64 0), (.slice none 0 0), (.int .i64 0), (.int .i64 0), (.slice none 0 0)]) [(.int .i64 0), (.slice none 0 0), (.int .i64 0), (.int .i64 0), (.slice none 0 0)] zero_27 rfl rfl rfl rfl ?_
  intro g17 w2 p18 p19 k20 b21
  have m22 := m16.extk k20
  refine wl_nil ?_
  refine wq_then ?_
  refine wc_seq ?_
  refine wc_draw ([(3, [], [], (fun _ v _ => v = (.pointer (some ⟨g11, 0, none⟩)))), (4, [], [0], (fun _ v _ => v = (.int .i64 x_e.N))), (5, [], [], (fun _ v _ => v = (.pointer (some ⟨g11, 1, none⟩)))), (6, [], [2], (fun _ v _ => v = (.slice a1 x_e.Key.length c2))), (7, [], [2, 3], (fun _ v w => ∃ (a1 : Option Addr) (c1 : Nat), v = .slice a1 (F_impl_clone x_e.Key).length c1 ∧ w.ownsRow (w2.heap.size) 5 1 (.slice a1 (F_impl_clone x_e.Key).length c1) (F_impl_clone x_e.Key).length ((F_impl_clone x_e.Key).map bV) ∧ (F_impl_clone x_e.Key).length ≤ 1073741824 ∧ Aps [(a1, c1)])), (8, [], [], (fun _ v _ => v = (.pointer (some ⟨g11, 2, none⟩)))), (9, [], [5], (fun _ v _ => v = (.int .i64 x_e.Seq))), (10, [], [], (fun _ v _ => v = (.pointer (some ⟨g11, 3, none⟩)))), (11, [], [7], (fun _ v _ => v = (.agg #[(.int .i64 x_e.Win.Top), (.slice a6 x_e.Win.Bits.length c7)]))), (12, [7], [2, 3, 4, 7, 8], (fun e v w => ∃ (a1 : Option Addr) (c1 : Nat), v = .agg #[.int .i64 ((F_impl_copyWin x_e.Win).Top), .slice a1 ((F_impl_copyWin x_e.Win).Bits).length c1] ∧ w.ownsRow (w2.heap.size) 3 1 (.slice a1 ((F_impl_copyWin x_e.Win).Bits).length c1) ((F_impl_copyWin x_e.Win).Bits).length (((F_impl_copyWin x_e.Win).Bits).map iV) ∧ ((F_impl_copyWin x_e.Win).Bits).length ≤ 1073741824 ∧ Aps [(a1, c1)] ∧ Ap (sp (e 7)) (a1, c1))), (13, [7, 12], [0, 1, 2, 3, 4, 5, 6, 7, 8, 9], (fun e v _ => v = (.agg #[(.int .i64 x_e.N), (e 7), (.int .i64 x_e.Seq), (.int .i64 ((F_impl_copyWin x_e.Win).Top)), (cellAt (e 12) 1)])))] : GV) mixed rfl (by kernel_rfl) (by kernel_rfl) ?_ ?_ ?_
  · exact ⟨(fun _ _ _ _ h _ => h), (fun _ _ _ _ _ h => h), ⟨(fun _ _ _ _ h _ => h), (fun _ _ _ _ _ h => h), ⟨(fun _ _ _ _ h _ => h), (fun _ _ _ _ _ h => h), ⟨(fun _ _ _ _ h _ => h), (fun _ _ _ _ _ h => h), ⟨(fun e v w w1 h hk => by obtain ⟨a0x, c0x, he, o0x, l0x, hap⟩ := h; exact ⟨a0x, c0x, he, own_kp o0x hk, l0x, hap⟩), (fun _ _ _ _ _ h => h), ⟨(fun _ _ _ _ h _ => h), (fun _ _ _ _ _ h => h), ⟨(fun _ _ _ _ h _ => h), (fun _ _ _ _ _ h => h), ⟨(fun _ _ _ _ h _ => h), (fun _ _ _ _ _ h => h), ⟨(fun _ _ _ _ h _ => h), (fun _ _ _ _ _ h => h), ⟨(fun e v w w1 h hk => by obtain ⟨a0x, c0x, he, o0x, l0x, hap, hx⟩ := h; exact ⟨a0x, c0x, he, own_kp o0x hk, l0x, hap, hx⟩), (fun e1 e2 v w hx h => by have h7x := hx 7 (by simp); simp only [h7x] at h; exact h), ⟨(fun _ _ _ _ h _ => h), (fun e1 e2 v w hx h => by have h7x := hx 7 (by simp); have h12x := hx 12 (by simp); simp only [h7x, h12x] at h; exact h), trivial⟩⟩⟩⟩⟩⟩⟩⟩⟩⟩⟩
  · refine ⟨?_, ⟨?_, ⟨?_, ⟨?_, ⟨?_, ⟨?_, ⟨?_, ⟨?_, ⟨?_, ⟨?_, ⟨?_, trivial⟩⟩⟩⟩⟩⟩⟩⟩⟩⟩⟩
    · intro w3 k59
      have m60 := m22.extk k59
      intro u61
      intro u62
      intro u63
      intro u64
      intro u65
      intro u66
      intro u67
      intro u68
      intro u69
      intro u70
      intro u71
      show WL _ _ _ _ _ _ _
      refine wl_pure (.pointer (some ⟨g11, 0, none⟩)) (want_none rfl) rfl rfl (by kernel_rfl) ?_
      exact wl_fin (Ch.refl _ _) rfl
    · intro w3 k72
      have m73 := m22.extk k72
      rintro _ rfl
      intro u74
      intro u75
      intro u76
      intro u77
      intro u78
      intro u79
      intro u80
      intro u81
      intro u82
      intro u83
      show WL _ _ _ _ _ _ _
      have b84 := ((b15.kp k20).kp k72)
      refine wl_load1 (.int .i64 x_e.N) (want_none rfl) rfl rfl rfl rfl isAgg_3 b84 rfl ?_
      exact wl_fin (Ch.refl _ _) rfl
    · intro w3 k85
      have m86 := m22.extk k85
      intro u87
      intro u88
      intro u89
      intro u90
      intro u91
      intro u92
      intro u93
      intro u94
      intro u95
      intro u96
      intro u97
      show WL _ _ _ _ _ _ _
      refine wl_pure (.pointer (some ⟨g11, 1, none⟩)) (want_none rfl) rfl rfl (by kernel_rfl) ?_
      exact wl_fin (Ch.refl _ _) rfl
    · intro w3 k98
      have m99 := m22.extk k98
      intro u100
      intro u101
      rintro _ rfl
      intro u102
      intro u103
      intro u104
      intro u105
      intro u106
      intro u107
      intro u108
      intro u109
      show WL _ _ _ _ _ _ _
      have b110 := ((b15.kp k20).kp k98)
      refine wl_load1 (.slice a1 x_e.Key.length c2) (want_none rfl) rfl rfl rfl rfl isAgg_22 b110 rfl ?_
      exact wl_fin (Ch.refl _ _) rfl
    · intro w3 k111
      have m112 := m22.extk k111
      intro u113
      intro u114
      rintro _ rfl
      rintro _ rfl
      intro u116
      intro u117
      intro u118
      intro u119
      intro u120
      intro u121
      intro u122
      show WL _ _ _ _ _ _ _
      refine wl_call (want_none rfl) (args := #[(.slice a1 x_e.Key.length c2)]) rfl rfl (by kernel_rfl) (C_impl_clone w3 (.slice a1 x_e.Key.length c2) x_e.Key (show R_22 w3 (.slice a1 x_e.Key.length c2) x_e.Key from ⟨_, _, rfl, (r3.from0 m112), s4⟩)) ?_
      rintro _ w4 ⟨k123, ⟨a124, c125, rfl, o126, s127, ap129⟩⟩
      have m130 := m112.extk k123
      exact wl_fin k123 ⟨_, _, rfl, (own_lo o126 k111.size), s127, ap129⟩
    · intro w3 k131
      have m132 := m22.extk k131
      intro u133
      intro u134
      intro u135
      intro u136
      intro u137
      intro u138
      intro u139
      intro u140
      intro u141
      intro u142
      intro u143
      show WL _ _ _ _ _ _ _
      refine wl_pure (.pointer (some ⟨g11, 2, none⟩)) (want_none rfl) rfl rfl (by kernel_rfl) ?_
      exact wl_fin (Ch.refl _ _) rfl
    · intro w3 k144
      have m145 := m22.extk k144
      intro u146
      intro u147
      intro u148
      intro u149
      intro u150
      rintro _ rfl
      intro u151
      intro u152
      intro u153
      intro u154
      intro u155
      show WL _ _ _ _ _ _ _
      have b156 := ((b15.kp k20).kp k144)
      refine wl_load1 (.int .i64 x_e.Seq) (want_none rfl) rfl rfl rfl rfl isAgg_3 b156 rfl ?_
      exact wl_fin (Ch.refl _ _) rfl
    · intro w3 k157
      have m158 := m22.extk k157
      intro u159
      intro u160
      intro u161
      intro u162
      intro u163
      intro u164
      intro u165
      intro u166
      intro u167
      intro u168
      intro u169
      show WL _ _ _ _ _ _ _
      refine wl_pure (.pointer (some ⟨g11, 3, none⟩)) (want_none rfl) rfl rfl (by kernel_rfl) ?_
      exact wl_fin (Ch.refl _ _) rfl
    · intro w3 k170
      have m171 := m22.extk k170
      intro u172
      intro u173
      intro u174
      intro u175
      intro u176
      intro u177
      intro u178
      rintro _ rfl
      intro u179
      intro u180
      intro u181
      show WL _ _ _ _ _ _ _
      have b182 := ((b15.kp k20).kp k170)
      refine wl_loadN [(.int .i64 x_e.Win.Top), (.slice a6 x_e.Win.Bits.length c7)] (want_none rfl) rfl rfl rfl rfl isAgg_25 sizeOf_25 b182 rfl ?_
      exact wl_fin (Ch.refl _ _) rfl
    · intro w3 k183
      have m184 := m22.extk k183
      intro u185
      intro u186
      rintro _ rfl
      rintro _ rfl
      rintro _ ⟨a188, c189, rfl, o190, s191, ap193⟩
      intro u194
      intro u195
      rintro _ rfl
      rintro _ rfl
      intro u197
      intro u198
      show WL _ _ _ _ _ _ _
      refine wl_call (want_none rfl) (args := #[(.agg #[(.int .i64 x_e.Win.Top), (.slice a6 x_e.Win.Bits.length c7)])]) rfl rfl (by kernel_rfl) (C_impl_copyWin w3 (.agg #[(.int .i64 x_e.Win.Top), (.slice a6 x_e.Win.Bits.length c7)]) x_e.Win (show R_25 w3 (.agg #[(.int .i64 x_e.Win.Top), (.slice a6 x_e.Win.Bits.length c7)]) x_e.Win from ⟨_, _, rfl, (r8.from0 m184), s9⟩)) ?_
      rintro _ w4 ⟨k199, ⟨a200, c201, rfl, o202, s203, ap205⟩⟩
      have m206 := m184.extk k199
      exact wl_fin k199 ⟨_, _, rfl, (own_lo o202 k183.size), s203, ap205, (Ap.lt o190 o202 (Nat.le_refl _))⟩
    · intro w3 k207
      have m208 := m22.extk k207
      rintro _ rfl
      rintro _ rfl
      rintro _ rfl
      rintro _ rfl
      rintro _ ⟨a211, c212, rfl, o213, s214, ap216⟩
      rintro _ rfl
      rintro _ rfl
      rintro _ rfl
      rintro _ rfl
      rintro _ ⟨a219, c220, rfl, o221, s222, ap224, hx225⟩
      intro u226
      show WL _ _ _ _ _ _ _
      refine wl_pure (.agg #[(.int .i64 x_e.N), (.slice a211 (F_impl_clone x_e.Key).length c212), (.int .i64 x_e.Seq), (.int .i64 ((F_impl_copyWin x_e.Win).Top)), (.slice a219 ((F_impl_copyWin x_e.Win).Bits).length c220)]) (want_none rfl) rfl rfl (by kernel_rfl) ?_
      exact wl_fin (Ch.refl _ _) rfl
  · intro w3 k227
    have m228 := m22.extk k227
    rintro _ rfl
    rintro _ rfl
    rintro _ rfl
    rintro _ rfl
    rintro _ ⟨a231, c232, rfl, o233, s234, ap236⟩
    rintro _ rfl
    rintro _ rfl
    rintro _ rfl
    rintro _ rfl
    rintro _ ⟨a239, c240, rfl, o241, s242, ap244, hx245⟩
    rintro _ rfl
    show WL _ _ _ _ _ _ _
    have b246 := (b21.kp k227)
    refine wl_store (.agg #[(.int .i64 x_e.N), (.slice a231 (F_impl_clone x_e.Key).length c232), (.int .i64 x_e.Seq), (.int .i64 ((F_impl_copyWin x_e.Win).Top)), (.slice a239 ((F_impl_copyWin x_e.Win).Bits).length c240)]) [(.int .i64 x_e.N), (.slice a231 (F_impl_clone x_e.Key).length c232), (.int .i64 x_e.Seq), (.int .i64 ((F_impl_copyWin x_e.Win).Top)), (.slice a239 ((F_impl_copyWin x_e.Win).Bits).length c240)] [(.int .i64 x_e.N), (.slice a231 (F_impl_clone x_e.Key).length c232), (.int .i64 x_e.Seq), (.int .i64 ((F_impl_copyWin x_e.Win).Top)), (.slice a239 ((F_impl_copyWin x_e.Win).Bits).length c240)] (want_none rfl) rfl rfl rfl rfl rfl (one_cons rfl (one_cons rfl (one_cons rfl (one_cons rfl (one_cons rfl one_nil))))) sizeOf_27 b246 rfl rfl ?_
    intro w4 k247 b248 z249
    have m250 := m228.ext k247 (fun k hk => by subst hk; exact Nat.le_trans k14.size p18)
    refine wl_nil ?_
    refine wq_then ?_
    refine wc_ret ?_
    have o251 := (own_ch o233 k247 (fun g hg hlt hk => by have h1 := (own_lt o233 g hg).1; have h2 := Nat.lt_of_lt_of_le p19 (Nat.le_refl _); omega))
    have o252 := (own_ch o241 k247 (fun g hg hlt hk => by have h1 := (own_lt o241 g hg).1; have h2 := Nat.lt_of_lt_of_le p19 (Nat.le_refl _); omega))
    refine ret_1 (.inl rfl) (.agg #[(.int .i64 x_e.N), (.slice a231 (F_impl_clone x_e.Key).length c232), (.int .i64 x_e.Seq), (.int .i64 ((F_impl_copyWin x_e.Win).Top)), (.slice a239 ((F_impl_copyWin x_e.Win).Bits).length c240)]) rfl (rv_c [(.int .i64 x_e.N), (.slice a231 (F_impl_clone x_e.Key).length c232), (.int .i64 x_e.Seq), (.int .i64 ((F_impl_copyWin x_e.Win).Top)), (.slice a239 ((F_impl_copyWin x_e.Win).Bits).length c240)] rfl b248 isAgg_27 sizeOf_27) ?_
    refine ⟨m250.keep0, ?_⟩
    have hF253 : F_impl_copyEp x_e = { N := x_e.N, Key := (F_impl_clone x_e.Key), Seq := x_e.Seq, Win := (F_impl_copyWin x_e.Win) : PEp } := by rfl
    rw [hF253]
    exact ⟨_, _, _, _, rfl, (own_lo o251 (Nat.le_trans k14.size k20.size)), s234, (own_lo o252 (Nat.le_trans k14.size k20.size)), s242, ⟨⟨hx245, trivial⟩, ⟨trivial, trivial⟩⟩⟩

def F_impl_copyChan (x_c : PChan) : (PChan) := { Role := x_c.Role, Sn := (F_impl_clone x_c.Sn), Cur := (F_impl_copyEp x_c.Cur), Old := (F_impl_copyEp x_c.Old), HasOld := x_c.HasOld, Until := x_c.Until, Next := (F_impl_clone x_c.Next) : PChan }
theorem C_impl_copyChan (w0 : World) (v_x_c : Value) (x_c : PChan) (r_x_c : R_29 w0 v_x_c x_c)  : Fn Try.prog 82 #[v_x_c] w0 (fun v w' => Keep w0 w' ∧ O_29 w' w0.heap.size v (F_impl_copyChan x_c)) := by
  obtain ⟨a1, c2, a6, c7, a11, c12, a16, c17, a21, c22, a26, c27, rfl, r3, s4, r8, s9, r13, s14, r18, s19, r23, s24, r28, s29⟩ := r_x_c
  refine fn_of (n := 20) (l := [(.agg #[(.int .i64 x_c.Role), (.slice a1 x_c.Sn.length c2), (.int .i64 x_c.Cur.N), (.slice a6 x_c.Cur.Key.length c7), (.int .i64 x_c.Cur.Seq), (.int .i64 x_c.Cur.Win.Top), (.slice a11 x_c.Cur.Win.Bits.length c12), (.int .i64 x_c.Old.N), (.slice a16 x_c.Old.Key.length c17), (.int .i64 x_c.Old.Seq), (.int .i64 x_c.Old.Win.Top), (.slice a21 x_c.Old.Win.Bits.length c22), (.bool x_c.HasOld), (.int .i64 x_c.Until), (.slice a26 x_c.Next.length c27)]), undef, undef, undef, undef, undef, undef, undef, undef, undef, undef, undef, undef, undef, undef, undef, undef, undef, undef, undef]) Try.func82 rfl rfl (by kernel_rfl) rfl ?_
  refine wc_seq ?_
  refine wc_region ?_
  refine wl_box (want_none rfl) [(.int .i64 x_c.Role), (.slice a1 x_c.Sn.length c2), (.int .i64 x_c.Cur.N), (.slice a6 x_c.Cur.Key.length c7), (.int .i64 x_c.Cur.Seq), (.int .i64 x_c.Cur.Win.Top), (.slice a11 x_c.Cur.Win.Bits.length c12), (.int .i64 x_c.Old.N), (.slice a16 x_c.Old.Key.length c17), (.int .i64 x_c.Old.Seq), (.int .i64 x_c.Old.Win.Top), (.slice a21 x_c.Old.Win.Bits.length c22), (.bool x_c.HasOld), (.int .i64 x_c.Until), (.slice a26 x_c.Next.length c27)] rfl rfl rfl rfl ?_
  intro g31 w1 p32 p33 k34 b35
  have m36 := (Ch.base w0).extk k34
  refine wl_alloc (want_none rfl) (.agg #[(.int .i64 0), (.slice none 0 0), (.int .i64 0), (.slice none 0 0), (.int .i64 0), (.int .i64 0), (.slice none 0 0), (.int .i64 0), (.slice none 0 0), (.int .i64 0), (.int .i64 0), (.slice none 0 0), (.bool false), (.int .i64 0), (.slice none 0 0)]) [(.int .i64 0), (.slice none 0 0), (.int .i64 0), (.slice none 0 0), (.int .i64 0), (.int .i64 0), (.slice none 0 0), (.int .i64 0), (.slice none 0 0), (.int .i64 0), (.int .i64 0), (.slice none 0 0), (.bool false), (.int .i64 0), (.slice none 0 0)] zero_29 rfl rfl rfl rfl ?_
  intro g37 w2 p38 p39 k40 b41
  have m42 := m36.extk k40
  refine wl_nil ?_
  refine wq_then ?_
  refine wc_seq ?_
  refine wc_draw ([(3, [], [], (fun _ v _ => v = (.pointer (some ⟨g31, 1, none⟩)))), (4, [], [0], (fun _ v _ => v = (.slice a1 x_c.Sn.length c2))), (5, [], [0, 1], (fun _ v w => ∃ (a1 : Option Addr) (c1 : Nat), v = .slice a1 (F_impl_clone x_c.Sn).length c1 ∧ w.ownsRow (w2.heap.size) 5 1 (.slice a1 (F_impl_clone x_c.Sn).length c1) (F_impl_clone x_c.Sn).length ((F_impl_clone x_c.Sn).map bV) ∧ (F_impl_clone x_c.Sn).length ≤ 1073741824 ∧ Aps [(a1, c1)])), (6, [], [], (fun _ v _ => v = (.pointer (some ⟨g31, 14, none⟩)))), (7, [], [3], (fun _ v _ => v = (.slice a26 x_c.Next.length c27))), (8, [5], [0, 1, 2, 3, 4], (fun e v w => ∃ (a1 : Option Addr) (c1 : Nat), v = .slice a1 (F_impl_clone x_c.Next).length c1 ∧ w.ownsRow (w2.heap.size) 5 1 (.slice a1 (F_impl_clone x_c.Next).length c1) (F_impl_clone x_c.Next).length ((F_impl_clone x_c.Next).map bV) ∧ (F_impl_clone x_c.Next).length ≤ 1073741824 ∧ Aps [(a1, c1)] ∧ Ap (sp (e 5)) (a1, c1))), (9, [], [0, 1, 2, 3, 4], (fun _ v _ => v = (.pointer (some ⟨g31, 1, none⟩))))] : GV) mixed rfl (by kernel_rfl) (by kernel_rfl) ?_ ?_ ?_
  · exact ⟨(fun _ _ _ _ h _ => h), (fun _ _ _ _ _ h => h), ⟨(fun _ _ _ _ h _ => h), (fun _ _ _ _ _ h => h), ⟨(fun e v w w1 h hk => by obtain ⟨a0x, c0x, he, o0x, l0x, hap⟩ := h; exact ⟨a0x, c0x, he, own_kp o0x hk, l0x, hap⟩), (fun _ _ _ _ _ h => h), ⟨(fun _ _ _ _ h _ => h), (fun _ _ _ _ _ h => h), ⟨(fun _ _ _ _ h _ => h), (fun _ _ _ _ _ h => h), ⟨(fun e v w w1 h hk => by obtain ⟨a0x, c0x, he, o0x, l0x, hap, hx⟩ := h; exact ⟨a0x, c0x, he, own_kp o0x hk, l0x, hap, hx⟩), (fun e1 e2 v w hx h => by have h5x := hx 5 (by simp); simp only [h5x] at h; exact h), ⟨(fun _ _ _ _ h _ => h), (fun _ _ _ _ _ h => h), trivial⟩⟩⟩⟩⟩⟩⟩
  · refine ⟨?_, ⟨?_, ⟨?_, ⟨?_, ⟨?_, ⟨?_, ⟨?_, trivial⟩⟩⟩⟩⟩⟩⟩
    · intro w3 k83
      have m84 := m42.extk k83
      intro u85
      intro u86
      intro u87
      intro u88
      intro u89
      intro u90
      intro u91
      show WL _ _ _ _ _ _ _
      refine wl_pure (.pointer (some ⟨g31, 1, none⟩)) (want_none rfl) rfl rfl (by kernel_rfl) ?_
      exact wl_fin (Ch.refl _ _) rfl
    · intro w3 k92
      have m93 := m42.extk k92
      rintro _ rfl
      intro u94
      intro u95
      intro u96
      intro u97
      intro u98
      intro u99
      show WL _ _ _ _ _ _ _
      have b100 := ((b35.kp k40).kp k92)
      refine wl_load1 (.slice a1 x_c.Sn.length c2) (want_none rfl) rfl rfl rfl rfl isAgg_22 b100 rfl ?_
      exact wl_fin (Ch.refl _ _) rfl
    · intro w3 k101
      have m102 := m42.extk k101
      rintro _ rfl
      rintro _ rfl
      intro u104
      intro u105
      intro u106
      intro u107
      intro u108
      show WL _ _ _ _ _ _ _
      refine wl_call (want_none rfl) (args := #[(.slice a1 x_c.Sn.length c2)]) rfl rfl (by kernel_rfl) (C_impl_clone w3 (.slice a1 x_c.Sn.length c2) x_c.Sn (show R_22 w3 (.slice a1 x_c.Sn.length c2) x_c.Sn from ⟨_, _, rfl, (r3.from0 m102), s4⟩)) ?_
      rintro _ w4 ⟨k109, ⟨a110, c111, rfl, o112, s113, ap115⟩⟩
      have m116 := m102.extk k109
      exact wl_fin k109 ⟨_, _, rfl, (own_lo o112 k101.size), s113, ap115⟩
    · intro w3 k117
      have m118 := m42.extk k117
      intro u119
      intro u120
      intro u121
      intro u122
      intro u123
      intro u124
      intro u125
      show WL _ _ _ _ _ _ _
      refine wl_pure (.pointer (some ⟨g31, 14, none⟩)) (want_none rfl) rfl rfl (by kernel_rfl) ?_
      exact wl_fin (Ch.refl _ _) rfl
    · intro w3 k126
      have m127 := m42.extk k126
      intro u128
      intro u129
      intro u130
      rintro _ rfl
      intro u131
      intro u132
      intro u133
      show WL _ _ _ _ _ _ _
      have b134 := ((b35.kp k40).kp k126)
      refine wl_load1 (.slice a26 x_c.Next.length c27) (want_none rfl) rfl rfl rfl rfl isAgg_22 b134 rfl ?_
      exact wl_fin (Ch.refl _ _) rfl
    · intro w3 k135
      have m136 := m42.extk k135
      rintro _ rfl
      rintro _ rfl
      rintro _ ⟨a138, c139, rfl, o140, s141, ap143⟩
      rintro _ rfl
      rintro _ rfl
      intro u145
      intro u146
      show WL _ _ _ _ _ _ _
      refine wl_call (want_none rfl) (args := #[(.slice a26 x_c.Next.length c27)]) rfl rfl (by kernel_rfl) (C_impl_clone w3 (.slice a26 x_c.Next.length c27) x_c.Next (show R_22 w3 (.slice a26 x_c.Next.length c27) x_c.Next from ⟨_, _, rfl, (r28.from0 m136), s29⟩)) ?_
      rintro _ w4 ⟨k147, ⟨a148, c149, rfl, o150, s151, ap153⟩⟩
      have m154 := m136.extk k147
      exact wl_fin k147 ⟨_, _, rfl, (own_lo o150 k135.size), s151, ap153, (Ap.lt o140 o150 (Nat.le_refl _))⟩
    · intro w3 k155
      have m156 := m42.extk k155
      rintro _ rfl
      rintro _ rfl
      rintro _ ⟨a158, c159, rfl, o160, s161, ap163⟩
      rintro _ rfl
      rintro _ rfl
      intro u165
      intro u166
      show WL _ _ _ _ _ _ _
      refine wl_pure (.pointer (some ⟨g31, 1, none⟩)) (want_none rfl) rfl rfl (by kernel_rfl) ?_
      exact wl_fin (Ch.refl _ _) rfl
  · intro w3 k167
    have m168 := m42.extk k167
    rintro _ rfl
    rintro _ rfl
    rintro _ ⟨a170, c171, rfl, o172, s173, ap175⟩
    rintro _ rfl
    rintro _ rfl
    rintro _ ⟨a177, c178, rfl, o179, s180, ap182, hx183⟩
    rintro _ rfl
    show WL _ _ _ _ _ _ _
    have b184 := ((b35.kp k40).kp k167)
    refine wl_store (.slice a170 (F_impl_clone x_c.Sn).length c171) [(.slice a170 (F_impl_clone x_c.Sn).length c171)] [(.int .i64 x_c.Role), (.slice a170 (F_impl_clone x_c.Sn).length c171), (.int .i64 x_c.Cur.N), (.slice a6 x_c.Cur.Key.length c7), (.int .i64 x_c.Cur.Seq), (.int .i64 x_c.Cur.Win.Top), (.slice a11 x_c.Cur.Win.Bits.length c12), (.int .i64 x_c.Old.N), (.slice a16 x_c.Old.Key.length c17), (.int .i64 x_c.Old.Seq), (.int .i64 x_c.Old.Win.Top), (.slice a21 x_c.Old.Win.Bits.length c22), (.bool x_c.HasOld), (.int .i64 x_c.Until), (.slice a26 x_c.Next.length c27)] (want_none rfl) rfl rfl rfl rfl rfl (one_cons rfl one_nil) sizeOf_22 b184 rfl rfl ?_
    intro w4 k185 b186 z187
    have m188 := m168.ext k185 (fun k hk => by subst hk; exact Nat.le_trans (Nat.le_refl _) p32)
    refine wl_pure (.pointer (some ⟨g31, 14, none⟩)) (want_none rfl) rfl rfl (by kernel_rfl) ?_
    refine wl_store (.slice a177 (F_impl_clone x_c.Next).length c178) [(.slice a177 (F_impl_clone x_c.Next).length c178)] [(.int .i64 x_c.Role), (.slice a170 (F_impl_clone x_c.Sn).length c171), (.int .i64 x_c.Cur.N), (.slice a6 x_c.Cur.Key.length c7), (.int .i64 x_c.Cur.Seq), (.int .i64 x_c.Cur.Win.Top), (.slice a11 x_c.Cur.Win.Bits.length c12), (.int .i64 x_c.Old.N), (.slice a16 x_c.Old.Key.length c17), (.int .i64 x_c.Old.Seq), (.int .i64 x_c.Old.Win.Top), (.slice a21 x_c.Old.Win.Bits.length c22), (.bool x_c.HasOld), (.int .i64 x_c.Until), (.slice a177 (F_impl_clone x_c.Next).length c178)] (want_none rfl) rfl rfl rfl rfl rfl (one_cons rfl one_nil) sizeOf_22 b186 rfl rfl ?_
    intro w5 k189 b190 z191
    have m192 := m188.ext k189 (fun k hk => by subst hk; exact Nat.le_trans (Nat.le_refl _) p32)
    refine wl_nil ?_
    refine wq_then ?_
    refine wc_seq ?_
    refine wc_draw ([(11, [], [], (fun _ v _ => v = (.pointer (some ⟨g31, 2, none⟩)))), (12, [], [0], (fun _ v _ => v = (.agg #[(.int .i64 x_c.Cur.N), (.slice a6 x_c.Cur.Key.length c7), (.int .i64 x_c.Cur.Seq), (.int .i64 x_c.Cur.Win.Top), (.slice a11 x_c.Cur.Win.Bits.length c12)]))), (13, [], [0, 1], (fun _ v w => ∃ (a1 : Option Addr) (c1 : Nat) (a2 : Option Addr) (c2 : Nat), v = .agg #[.int .i64 ((F_impl_copyEp x_c.Cur).N), .slice a1 ((F_impl_copyEp x_c.Cur).Key).length c1, .int .i64 ((F_impl_copyEp x_c.Cur).Seq), .int .i64 (((F_impl_copyEp x_c.Cur).Win).Top), .slice a2 (((F_impl_copyEp x_c.Cur).Win).Bits).length c2] ∧ w.ownsRow (w5.heap.size) 5 1 (.slice a1 ((F_impl_copyEp x_c.Cur).Key).length c1) ((F_impl_copyEp x_c.Cur).Key).length (((F_impl_copyEp x_c.Cur).Key).map bV) ∧ ((F_impl_copyEp x_c.Cur).Key).length ≤ 1073741824 ∧ w.ownsRow (w5.heap.size) 3 1 (.slice a2 (((F_impl_copyEp x_c.Cur).Win).Bits).length c2) (((F_impl_copyEp x_c.Cur).Win).Bits).length ((((F_impl_copyEp x_c.Cur).Win).Bits).map iV) ∧ (((F_impl_copyEp x_c.Cur).Win).Bits).length ≤ 1073741824 ∧ Aps [(a1, c1), (a2, c2)])), (14, [], [], (fun _ v _ => v = (.pointer (some ⟨g31, 7, none⟩)))), (15, [], [3], (fun _ v _ => v = (.agg #[(.int .i64 x_c.Old.N), (.slice a16 x_c.Old.Key.length c17), (.int .i64 x_c.Old.Seq), (.int .i64 x_c.Old.Win.Top), (.slice a21 x_c.Old.Win.Bits.length c22)]))), (16, [13], [0, 1, 2, 3, 4], (fun e v w => ∃ (a1 : Option Addr) (c1 : Nat) (a2 : Option Addr) (c2 : Nat), v = .agg #[.int .i64 ((F_impl_copyEp x_c.Old).N), .slice a1 ((F_impl_copyEp x_c.Old).Key).length c1, .int .i64 ((F_impl_copyEp x_c.Old).Seq), .int .i64 (((F_impl_copyEp x_c.Old).Win).Top), .slice a2 (((F_impl_copyEp x_c.Old).Win).Bits).length c2] ∧ w.ownsRow (w5.heap.size) 5 1 (.slice a1 ((F_impl_copyEp x_c.Old).Key).length c1) ((F_impl_copyEp x_c.Old).Key).length (((F_impl_copyEp x_c.Old).Key).map bV) ∧ ((F_impl_copyEp x_c.Old).Key).length ≤ 1073741824 ∧ w.ownsRow (w5.heap.size) 3 1 (.slice a2 (((F_impl_copyEp x_c.Old).Win).Bits).length c2) (((F_impl_copyEp x_c.Old).Win).Bits).length ((((F_impl_copyEp x_c.Old).Win).Bits).map iV) ∧ (((F_impl_copyEp x_c.Old).Win).Bits).length ≤ 1073741824 ∧ Aps [(a1, c1), (a2, c2)] ∧ Ap (sp (cellAt (e 13) 1)) (a1, c1) ∧ Ap (sp (cellAt (e 13) 1)) (a2, c2) ∧ Ap (sp (cellAt (e 13) 4)) (a1, c1) ∧ Ap (sp (cellAt (e 13) 4)) (a2, c2))), (17, [], [0, 1, 2, 3, 4], (fun _ v _ => v = (.pointer (some ⟨g31, 2, none⟩))))] : GV) mixed rfl (by kernel_rfl) (by kernel_rfl) ?_ ?_ ?_
    · exact ⟨(fun _ _ _ _ h _ => h), (fun _ _ _ _ _ h => h), ⟨(fun _ _ _ _ h _ => h), (fun _ _ _ _ _ h => h), ⟨(fun e v w w1 h hk => by obtain ⟨a0x, c0x, a1x, c1x, he, o0x, l0x, o1x, l1x, hap⟩ := h; exact ⟨a0x, c0x, a1x, c1x, he, own_kp o0x hk, l0x, own_kp o1x hk, l1x, hap⟩), (fun _ _ _ _ _ h => h), ⟨(fun _ _ _ _ h _ => h), (fun _ _ _ _ _ h => h), ⟨(fun _ _ _ _ h _ => h), (fun _ _ _ _ _ h => h), ⟨(fun e v w w1 h hk => by obtain ⟨a0x, c0x, a1x, c1x, he, o0x, l0x, o1x, l1x, hap, hx⟩ := h; exact ⟨a0x, c0x, a1x, c1x, he, own_kp o0x hk, l0x, own_kp o1x hk, l1x, hap, hx⟩), (fun e1 e2 v w hx h => by have h13x := hx 13 (by simp); simp only [h13x] at h; exact h), ⟨(fun _ _ _ _ h _ => h), (fun _ _ _ _ _ h => h), trivial⟩⟩⟩⟩⟩⟩⟩
    · refine ⟨?_, ⟨?_, ⟨?_, ⟨?_, ⟨?_, ⟨?_, ⟨?_, trivial⟩⟩⟩⟩⟩⟩⟩
      · intro w6 k251
        have m252 := m192.extk k251
        intro u253
        intro u254
        intro u255
        intro u256
        intro u257
        intro u258
        intro u259
        show WL _ _ _ _ _ _ _
        refine wl_pure (.pointer (some ⟨g31, 2, none⟩)) (want_none rfl) rfl rfl (by kernel_rfl) ?_
        exact wl_fin (Ch.refl _ _) rfl
      · intro w6 k260
        have m261 := m192.extk k260
        rintro _ rfl
        intro u262
        intro u263
        intro u264
        intro u265
        intro u266
        intro u267
        show WL _ _ _ _ _ _ _
        have b268 := (b190.kp k260)
        refine wl_loadN [(.int .i64 x_c.Cur.N), (.slice a6 x_c.Cur.Key.length c7), (.int .i64 x_c.Cur.Seq), (.int .i64 x_c.Cur.Win.Top), (.slice a11 x_c.Cur.Win.Bits.length c12)] (want_none rfl) rfl rfl rfl rfl isAgg_27 sizeOf_27 b268 rfl ?_
        exact wl_fin (Ch.refl _ _) rfl
      · intro w6 k269
        have m270 := m192.extk k269
        rintro _ rfl
        rintro _ rfl
        intro u272
        intro u273
        intro u274
        intro u275
        intro u276
        show WL _ _ _ _ _ _ _
        refine wl_call (want_none rfl) (args := #[(.agg #[(.int .i64 x_c.Cur.N), (.slice a6 x_c.Cur.Key.length c7), (.int .i64 x_c.Cur.Seq), (.int .i64 x_c.Cur.Win.Top), (.slice a11 x_c.Cur.Win.Bits.length c12)])]) rfl rfl (by kernel_rfl) (C_impl_copyEp w6 (.agg #[(.int .i64 x_c.Cur.N), (.slice a6 x_c.Cur.Key.length c7), (.int .i64 x_c.Cur.Seq), (.int .i64 x_c.Cur.Win.Top), (.slice a11 x_c.Cur.Win.Bits.length c12)]) x_c.Cur (show R_27 w6 (.agg #[(.int .i64 x_c.Cur.N), (.slice a6 x_c.Cur.Key.length c7), (.int .i64 x_c.Cur.Seq), (.int .i64 x_c.Cur.Win.Top), (.slice a11 x_c.Cur.Win.Bits.length c12)]) x_c.Cur from ⟨_, _, _, _, rfl, (r8.from0 m270), s9, (r13.from0 m270), s14⟩)) ?_
        rintro _ w7 ⟨k277, ⟨a278, c279, a283, c284, rfl, o280, s281, o285, s286, ap288⟩⟩
        have m289 := m270.extk k277
        exact wl_fin k277 ⟨_, _, _, _, rfl, (own_lo o280 k269.size), s281, (own_lo o285 k269.size), s286, ap288⟩
      · intro w6 k290
        have m291 := m192.extk k290
        intro u292
        intro u293
        intro u294
        intro u295
        intro u296
        intro u297
        intro u298
        show WL _ _ _ _ _ _ _
        refine wl_pure (.pointer (some ⟨g31, 7, none⟩)) (want_none rfl) rfl rfl (by kernel_rfl) ?_
        exact wl_fin (Ch.refl _ _) rfl
      · intro w6 k299
        have m300 := m192.extk k299
        intro u301
        intro u302
        intro u303
        rintro _ rfl
        intro u304
        intro u305
        intro u306
        show WL _ _ _ _ _ _ _
        have b307 := (b190.kp k299)
        refine wl_loadN [(.int .i64 x_c.Old.N), (.slice a16 x_c.Old.Key.length c17), (.int .i64 x_c.Old.Seq), (.int .i64 x_c.Old.Win.Top), (.slice a21 x_c.Old.Win.Bits.length c22)] (want_none rfl) rfl rfl rfl rfl isAgg_27 sizeOf_27 b307 rfl ?_
        exact wl_fin (Ch.refl _ _) rfl
      · intro w6 k308
        have m309 := m192.extk k308
        rintro _ rfl
        rintro _ rfl
        rintro _ ⟨a311, c312, a316, c317, rfl, o313, s314, o318, s319, ap321⟩
        rintro _ rfl
        rintro _ rfl
        intro u323
        intro u324
        show WL _ _ _ _ _ _ _
        refine wl_call (want_none rfl) (args := #[(.agg #[(.int .i64 x_c.Old.N), (.slice a16 x_c.Old.Key.length c17), (.int .i64 x_c.Old.Seq), (.int .i64 x_c.Old.Win.Top), (.slice a21 x_c.Old.Win.Bits.length c22)])]) rfl rfl (by kernel_rfl) (C_impl_copyEp w6 (.agg #[(.int .i64 x_c.Old.N), (.slice a16 x_c.Old.Key.length c17), (.int .i64 x_c.Old.Seq), (.int .i64 x_c.Old.Win.Top), (.slice a21 x_c.Old.Win.Bits.length c22)]) x_c.Old (show R_27 w6 (.agg #[(.int .i64 x_c.Old.N), (.slice a16 x_c.Old.Key.length c17), (.int .i64 x_c.Old.Seq), (.int .i64 x_c.Old.Win.Top), (.slice a21 x_c.Old.Win.Bits.length c22)]) x_c.Old from ⟨_, _, _, _, rfl, (r18.from0 m309), s19, (r23.from0 m309), s24⟩)) ?_
        rintro _ w7 ⟨k325, ⟨a326, c327, a331, c332, rfl, o328, s329, o333, s334, ap336⟩⟩
        have m337 := m309.extk k325
        exact wl_fin k325 ⟨_, _, _, _, rfl, (own_lo o328 k308.size), s329, (own_lo o333 k308.size), s334, ap336, ⟨(Ap.lt o313 o328 (Nat.le_refl _)), (Ap.lt o313 o333 (Nat.le_refl _)), (Ap.lt o318 o328 (Nat.le_refl _)), (Ap.lt o318 o333 (Nat.le_refl _))⟩⟩
      · intro w6 k338
        have m339 := m192.extk k338
        rintro _ rfl
        rintro _ rfl
        rintro _ ⟨a341, c342, a346, c347, rfl, o343, s344, o348, s349, ap351⟩
        rintro _ rfl
        rintro _ rfl
        intro u353
        intro u354
        show WL _ _ _ _ _ _ _
        refine wl_pure (.pointer (some ⟨g31, 2, none⟩)) (want_none rfl) rfl rfl (by kernel_rfl) ?_
        exact wl_fin (Ch.refl _ _) rfl
    · intro w6 k355
      have m356 := m192.extk k355
      rintro _ rfl
      rintro _ rfl
      rintro _ ⟨a358, c359, a363, c364, rfl, o360, s361, o365, s366, ap368⟩
      rintro _ rfl
      rintro _ rfl
      rintro _ ⟨a370, c371, a375, c376, rfl, o372, s373, o377, s378, ap380, hx381⟩
      rintro _ rfl
      show WL _ _ _ _ _ _ _
      have b382 := (b190.kp k355)
      refine wl_store (.agg #[(.int .i64 ((F_impl_copyEp x_c.Cur).N)), (.slice a358 ((F_impl_copyEp x_c.Cur).Key).length c359), (.int .i64 ((F_impl_copyEp x_c.Cur).Seq)), (.int .i64 (((F_impl_copyEp x_c.Cur).Win).Top)), (.slice a363 (((F_impl_copyEp x_c.Cur).Win).Bits).length c364)]) [(.int .i64 ((F_impl_copyEp x_c.Cur).N)), (.slice a358 ((F_impl_copyEp x_c.Cur).Key).length c359), (.int .i64 ((F_impl_copyEp x_c.Cur).Seq)), (.int .i64 (((F_impl_copyEp x_c.Cur).Win).Top)), (.slice a363 (((F_impl_copyEp x_c.Cur).Win).Bits).length c364)] [(.int .i64 x_c.Role), (.slice a170 (F_impl_clone x_c.Sn).length c171), (.int .i64 ((F_impl_copyEp x_c.Cur).N)), (.slice a358 ((F_impl_copyEp x_c.Cur).Key).length c359), (.int .i64 ((F_impl_copyEp x_c.Cur).Seq)), (.int .i64 (((F_impl_copyEp x_c.Cur).Win).Top)), (.slice a363 (((F_impl_copyEp x_c.Cur).Win).Bits).length c364), (.int .i64 x_c.Old.N), (.slice a16 x_c.Old.Key.length c17), (.int .i64 x_c.Old.Seq), (.int .i64 x_c.Old.Win.Top), (.slice a21 x_c.Old.Win.Bits.length c22), (.bool x_c.HasOld), (.int .i64 x_c.Until), (.slice a177 (F_impl_clone x_c.Next).length c178)] (want_none rfl) rfl rfl rfl rfl rfl (one_cons rfl (one_cons rfl (one_cons rfl (one_cons rfl (one_cons rfl one_nil))))) sizeOf_27 b382 rfl rfl ?_
      intro w7 k383 b384 z385
      have m386 := m356.ext k383 (fun k hk => by subst hk; exact Nat.le_trans (Nat.le_refl _) p32)
      refine wl_pure (.pointer (some ⟨g31, 7, none⟩)) (want_none rfl) rfl rfl (by kernel_rfl) ?_
      refine wl_store (.agg #[(.int .i64 ((F_impl_copyEp x_c.Old).N)), (.slice a370 ((F_impl_copyEp x_c.Old).Key).length c371), (.int .i64 ((F_impl_copyEp x_c.Old).Seq)), (.int .i64 (((F_impl_copyEp x_c.Old).Win).Top)), (.slice a375 (((F_impl_copyEp x_c.Old).Win).Bits).length c376)]) [(.int .i64 ((F_impl_copyEp x_c.Old).N)), (.slice a370 ((F_impl_copyEp x_c.Old).Key).length c371), (.int .i64 ((F_impl_copyEp x_c.Old).Seq)), (.int .i64 (((F_impl_copyEp x_c.Old).Win).Top)), (.slice a375 (((F_impl_copyEp x_c.Old).Win).Bits).length c376)] [(.int .i64 x_c.Role), (.slice a170 (F_impl_clone x_c.Sn).length c171), (.int .i64 ((F_impl_copyEp x_c.Cur).N)), (.slice a358 ((F_impl_copyEp x_c.Cur).Key).length c359), (.int .i64 ((F_impl_copyEp x_c.Cur).Seq)), (.int .i64 (((F_impl_copyEp x_c.Cur).Win).Top)), (.slice a363 (((F_impl_copyEp x_c.Cur).Win).Bits).length c364), (.int .i64 ((F_impl_copyEp x_c.Old).N)), (.slice a370 ((F_impl_copyEp x_c.Old).Key).length c371), (.int .i64 ((F_impl_copyEp x_c.Old).Seq)), (.int .i64 (((F_impl_copyEp x_c.Old).Win).Top)), (.slice a375 (((F_impl_copyEp x_c.Old).Win).Bits).length c376), (.bool x_c.HasOld), (.int .i64 x_c.Until), (.slice a177 (F_impl_clone x_c.Next).length c178)] (want_none rfl) rfl rfl rfl rfl rfl (one_cons rfl (one_cons rfl (one_cons rfl (one_cons rfl (one_cons rfl one_nil))))) sizeOf_27 b384 rfl rfl ?_
      intro w8 k387 b388 z389
      have m390 := m386.ext k387 (fun k hk => by subst hk; exact Nat.le_trans (Nat.le_refl _) p32)
      refine wl_nil ?_
      refine wq_then ?_
      refine wc_seq ?_
      refine wc_region ?_
      refine wl_loadN [(.int .i64 x_c.Role), (.slice a170 (F_impl_clone x_c.Sn).length c171), (.int .i64 ((F_impl_copyEp x_c.Cur).N)), (.slice a358 ((F_impl_copyEp x_c.Cur).Key).length c359), (.int .i64 ((F_impl_copyEp x_c.Cur).Seq)), (.int .i64 (((F_impl_copyEp x_c.Cur).Win).Top)), (.slice a363 (((F_impl_copyEp x_c.Cur).Win).Bits).length c364), (.int .i64 ((F_impl_copyEp x_c.Old).N)), (.slice a370 ((F_impl_copyEp x_c.Old).Key).length c371), (.int .i64 ((F_impl_copyEp x_c.Old).Seq)), (.int .i64 (((F_impl_copyEp x_c.Old).Win).Top)), (.slice a375 (((F_impl_copyEp x_c.Old).Win).Bits).length c376), (.bool x_c.HasOld), (.int .i64 x_c.Until), (.slice a177 (F_impl_clone x_c.Next).length c178)] (want_none rfl) rfl rfl rfl rfl isAgg_29 sizeOf_29 b388 rfl ?_
      have b391 := ((((((b41.kp k167).ch k185 (Ne.symm (Nat.ne_of_lt (Nat.lt_of_lt_of_le p33 (Nat.le_trans (Nat.le_refl _) p38))))).ch k189 (Ne.symm (Nat.ne_of_lt (Nat.lt_of_lt_of_le p33 (Nat.le_trans (Nat.le_refl _) p38))))).kp k355).ch k383 (Ne.symm (Nat.ne_of_lt (Nat.lt_of_lt_of_le p33 (Nat.le_trans (Nat.le_refl _) p38))))).ch k387 (Ne.symm (Nat.ne_of_lt (Nat.lt_of_lt_of_le p33 (Nat.le_trans (Nat.le_refl _) p38)))))
      refine wl_store (.agg #[(.int .i64 x_c.Role), (.slice a170 (F_impl_clone x_c.Sn).length c171), (.int .i64 ((F_impl_copyEp x_c.Cur).N)), (.slice a358 ((F_impl_copyEp x_c.Cur).Key).length c359), (.int .i64 ((F_impl_copyEp x_c.Cur).Seq)), (.int .i64 (((F_impl_copyEp x_c.Cur).Win).Top)), (.slice a363 (((F_impl_copyEp x_c.Cur).Win).Bits).length c364), (.int .i64 ((F_impl_copyEp x_c.Old).N)), (.slice a370 ((F_impl_copyEp x_c.Old).Key).length c371), (.int .i64 ((F_impl_copyEp x_c.Old).Seq)), (.int .i64 (((F_impl_copyEp x_c.Old).Win).Top)), (.slice a375 (((F_impl_copyEp x_c.Old).Win).Bits).length c376), (.bool x_c.HasOld), (.int .i64 x_c.Until), (.slice a177 (F_impl_clone x_c.Next).length c178)]) [(.int .i64 x_c.Role), (.slice a170 (F_impl_clone x_c.Sn).length c171), (.int .i64 ((F_impl_copyEp x_c.Cur).N)), (.slice a358 ((F_impl_copyEp x_c.Cur).Key).length c359), (.int .i64 ((F_impl_copyEp x_c.Cur).Seq)), (.int .i64 (((F_impl_copyEp x_c.Cur).Win).Top)), (.slice a363 (((F_impl_copyEp x_c.Cur).Win).Bits).length c364), (.int .i64 ((F_impl_copyEp x_c.Old).N)), (.slice a370 ((F_impl_copyEp x_c.Old).Key).length c371), (.int .i64 ((F_impl_copyEp x_c.Old).Seq)), (.int .i64 (((F_impl_copyEp x_c.Old).Win).Top)), (.slice a375 (((F_impl_copyEp x_c.Old).Win).Bits).length c376), (.bool x_c.HasOld), (.int .i64 x_c.Until), (.slice a177 (F_impl_clone x_c.Next).length c178)] [(.int .i64 x_c.Role), (.slice a170 (F_impl_clone x_c.Sn).length c171), (.int .i64 ((F_impl_copyEp x_c.Cur).N)), (.slice a358 ((F_impl_copyEp x_c.Cur).Key).length c359), (.int .i64 ((F_impl_copyEp x_c.Cur).Seq)), (.int .i64 (((F_impl_copyEp x_c.Cur).Win).Top)), (.slice a363 (((F_impl_copyEp x_c.Cur).Win).Bits).length c364), (.int .i64 ((F_impl_copyEp x_c.Old).N)), (.slice a370 ((F_impl_copyEp x_c.Old).Key).length c371), (.int .i64 ((F_impl_copyEp x_c.Old).Seq)), (.int .i64 (((F_impl_copyEp x_c.Old).Win).Top)), (.slice a375 (((F_impl_copyEp x_c.Old).Win).Bits).length c376), (.bool x_c.HasOld), (.int .i64 x_c.Until), (.slice a177 (F_impl_clone x_c.Next).length c178)] (want_none rfl) rfl rfl rfl rfl rfl (one_cons rfl (one_cons rfl (one_cons rfl (one_cons rfl (one_cons rfl (one_cons rfl (one_cons rfl (one_cons rfl (one_cons rfl (one_cons rfl (one_cons rfl (one_cons rfl (one_cons rfl (one_cons rfl (one_cons rfl one_nil))))))))))))))) sizeOf_29 b391 rfl rfl ?_
      intro w9 k392 b393 z394
      have m395 := m390.ext k392 (fun k hk => by subst hk; exact Nat.le_trans k34.size p38)
      refine wl_nil ?_
      refine wq_then ?_
      refine wc_ret ?_
      have o396 := (own_ch (own_ch (own_ch (own_kp (own_ch (own_ch o172 k185 (fun g hg hlt hk => by have h1 := (own_lt o172 g hg).1; have h2 := Nat.lt_of_lt_of_le p33 k40.size; omega)) k189 (fun g hg hlt hk => by have h1 := (own_lt o172 g hg).1; have h2 := Nat.lt_of_lt_of_le p33 k40.size; omega)) k355) k383 (fun g hg hlt hk => by have h1 := (own_lt o172 g hg).1; have h2 := Nat.lt_of_lt_of_le p33 k40.size; omega)) k387 (fun g hg hlt hk => by have h1 := (own_lt o172 g hg).1; have h2 := Nat.lt_of_lt_of_le p33 k40.size; omega)) k392 (fun g hg hlt hk => by have h1 := (own_lt o172 g hg).1; have h2 := Nat.lt_of_lt_of_le p39 (Nat.le_refl _); omega))
      have o397 := (own_ch (own_ch (own_ch o360 k383 (fun g hg hlt hk => by have h1 := (own_lt o360 g hg).1; have h2 := Nat.lt_of_lt_of_le p33 (Nat.le_trans (Nat.le_trans (Nat.le_trans k40.size k167.size) k185.size) k189.size); omega)) k387 (fun g hg hlt hk => by have h1 := (own_lt o360 g hg).1; have h2 := Nat.lt_of_lt_of_le p33 (Nat.le_trans (Nat.le_trans (Nat.le_trans k40.size k167.size) k185.size) k189.size); omega)) k392 (fun g hg hlt hk => by have h1 := (own_lt o360 g hg).1; have h2 := Nat.lt_of_lt_of_le p39 (Nat.le_trans (Nat.le_trans k167.size k185.size) k189.size); omega))
      have o398 := (own_ch (own_ch (own_ch o365 k383 (fun g hg hlt hk => by have h1 := (own_lt o365 g hg).1; have h2 := Nat.lt_of_lt_of_le p33 (Nat.le_trans (Nat.le_trans (Nat.le_trans k40.size k167.size) k185.size) k189.size); omega)) k387 (fun g hg hlt hk => by have h1 := (own_lt o365 g hg).1; have h2 := Nat.lt_of_lt_of_le p33 (Nat.le_trans (Nat.le_trans (Nat.le_trans k40.size k167.size) k185.size) k189.size); omega)) k392 (fun g hg hlt hk => by have h1 := (own_lt o365 g hg).1; have h2 := Nat.lt_of_lt_of_le p39 (Nat.le_trans (Nat.le_trans k167.size k185.size) k189.size); omega))
      have o399 := (own_ch (own_ch (own_ch o372 k383 (fun g hg hlt hk => by have h1 := (own_lt o372 g hg).1; have h2 := Nat.lt_of_lt_of_le p33 (Nat.le_trans (Nat.le_trans (Nat.le_trans k40.size k167.size) k185.size) k189.size); omega)) k387 (fun g hg hlt hk => by have h1 := (own_lt o372 g hg).1; have h2 := Nat.lt_of_lt_of_le p33 (Nat.le_trans (Nat.le_trans (Nat.le_trans k40.size k167.size) k185.size) k189.size); omega)) k392 (fun g hg hlt hk => by have h1 := (own_lt o372 g hg).1; have h2 := Nat.lt_of_lt_of_le p39 (Nat.le_trans (Nat.le_trans k167.size k185.size) k189.size); omega))
      have o400 := (own_ch (own_ch (own_ch o377 k383 (fun g hg hlt hk => by have h1 := (own_lt o377 g hg).1; have h2 := Nat.lt_of_lt_of_le p33 (Nat.le_trans (Nat.le_trans (Nat.le_trans k40.size k167.size) k185.size) k189.size); omega)) k387 (fun g hg hlt hk => by have h1 := (own_lt o377 g hg).1; have h2 := Nat.lt_of_lt_of_le p33 (Nat.le_trans (Nat.le_trans (Nat.le_trans k40.size k167.size) k185.size) k189.size); omega)) k392 (fun g hg hlt hk => by have h1 := (own_lt o377 g hg).1; have h2 := Nat.lt_of_lt_of_le p39 (Nat.le_trans (Nat.le_trans k167.size k185.size) k189.size); omega))
      have o401 := (own_ch (own_ch (own_ch (own_kp (own_ch (own_ch o179 k185 (fun g hg hlt hk => by have h1 := (own_lt o179 g hg).1; have h2 := Nat.lt_of_lt_of_le p33 k40.size; omega)) k189 (fun g hg hlt hk => by have h1 := (own_lt o179 g hg).1; have h2 := Nat.lt_of_lt_of_le p33 k40.size; omega)) k355) k383 (fun g hg hlt hk => by have h1 := (own_lt o179 g hg).1; have h2 := Nat.lt_of_lt_of_le p33 k40.size; omega)) k387 (fun g hg hlt hk => by have h1 := (own_lt o179 g hg).1; have h2 := Nat.lt_of_lt_of_le p33 k40.size; omega)) k392 (fun g hg hlt hk => by have h1 := (own_lt o179 g hg).1; have h2 := Nat.lt_of_lt_of_le p39 (Nat.le_refl _); omega))
      refine ret_1 (.inl rfl) (.agg #[(.int .i64 x_c.Role), (.slice a170 (F_impl_clone x_c.Sn).length c171), (.int .i64 ((F_impl_copyEp x_c.Cur).N)), (.slice a358 ((F_impl_copyEp x_c.Cur).Key).length c359), (.int .i64 ((F_impl_copyEp x_c.Cur).Seq)), (.int .i64 (((F_impl_copyEp x_c.Cur).Win).Top)), (.slice a363 (((F_impl_copyEp x_c.Cur).Win).Bits).length c364), (.int .i64 ((F_impl_copyEp x_c.Old).N)), (.slice a370 ((F_impl_copyEp x_c.Old).Key).length c371), (.int .i64 ((F_impl_copyEp x_c.Old).Seq)), (.int .i64 (((F_impl_copyEp x_c.Old).Win).Top)), (.slice a375 (((F_impl_copyEp x_c.Old).Win).Bits).length c376), (.bool x_c.HasOld), (.int .i64 x_c.Until), (.slice a177 (F_impl_clone x_c.Next).length c178)]) rfl (rv_c [(.int .i64 x_c.Role), (.slice a170 (F_impl_clone x_c.Sn).length c171), (.int .i64 ((F_impl_copyEp x_c.Cur).N)), (.slice a358 ((F_impl_copyEp x_c.Cur).Key).length c359), (.int .i64 ((F_impl_copyEp x_c.Cur).Seq)), (.int .i64 (((F_impl_copyEp x_c.Cur).Win).Top)), (.slice a363 (((F_impl_copyEp x_c.Cur).Win).Bits).length c364), (.int .i64 ((F_impl_copyEp x_c.Old).N)), (.slice a370 ((F_impl_copyEp x_c.Old).Key).length c371), (.int .i64 ((F_impl_copyEp x_c.Old).Seq)), (.int .i64 (((F_impl_copyEp x_c.Old).Win).Top)), (.slice a375 (((F_impl_copyEp x_c.Old).Win).Bits).length c376), (.bool x_c.HasOld), (.int .i64 x_c.Until), (.slice a177 (F_impl_clone x_c.Next).length c178)] rfl b393 isAgg_29 sizeOf_29) ?_
      refine ⟨m395.keep0, ?_⟩
      have hF402 : F_impl_copyChan x_c = { Role := x_c.Role, Sn := (F_impl_clone x_c.Sn), Cur := (F_impl_copyEp x_c.Cur), Old := (F_impl_copyEp x_c.Old), HasOld := x_c.HasOld, Until := x_c.Until, Next := (F_impl_clone x_c.Next) : PChan } := by rfl
      rw [hF402]
      exact ⟨_, _, _, _, _, _, _, _, _, _, _, _, rfl, (own_lo o396 (Nat.le_trans k34.size k40.size)), s173, (own_lo o397 (Nat.le_trans (Nat.le_trans (Nat.le_trans (Nat.le_trans k34.size k40.size) k167.size) k185.size) k189.size)), s361, (own_lo o398 (Nat.le_trans (Nat.le_trans (Nat.le_trans (Nat.le_trans k34.size k40.size) k167.size) k185.size) k189.size)), s366, (own_lo o399 (Nat.le_trans (Nat.le_trans (Nat.le_trans (Nat.le_trans k34.size k40.size) k167.size) k185.size) k189.size)), s373, (own_lo o400 (Nat.le_trans (Nat.le_trans (Nat.le_trans (Nat.le_trans k34.size k40.size) k167.size) k185.size) k189.size)), s378, (own_lo o401 (Nat.le_trans k34.size k40.size)), s180, ⟨⟨(Ap.lt o172 o360 (Nat.le_trans k185.size k189.size)), ⟨(Ap.lt o172 o365 (Nat.le_trans k185.size k189.size)), ⟨(Ap.lt o172 o372 (Nat.le_trans k185.size k189.size)), ⟨(Ap.lt o172 o377 (Nat.le_trans k185.size k189.size)), ⟨hx183, trivial⟩⟩⟩⟩⟩, ⟨⟨(ap368.1.1), ⟨(hx381.1), ⟨(hx381.2.1), ⟨(Ap.lt o179 o360 (Nat.le_trans k185.size k189.size)).symm, trivial⟩⟩⟩⟩, ⟨⟨(hx381.2.2.1), ⟨(hx381.2.2.2), ⟨(Ap.lt o179 o365 (Nat.le_trans k185.size k189.size)).symm, trivial⟩⟩⟩, ⟨⟨(ap380.1.1), ⟨(Ap.lt o179 o372 (Nat.le_trans k185.size k189.size)).symm, trivial⟩⟩, ⟨⟨(Ap.lt o179 o377 (Nat.le_trans k185.size k189.size)).symm, trivial⟩, ⟨trivial, trivial⟩⟩⟩⟩⟩⟩⟩

def Q_58 (w : World) (v : Value) (x : (PNote)) : Prop := ∃ (a1 : Option Addr) (c1 : Nat) (a2 : Option Addr) (c2 : Nat) (a3 : Option Addr) (c3 : Nat) (a4 : Option Addr) (c4 : Nat), v = .agg #[.int .i64 x.Kind, .int .i64 x.Id, .int .i64 x.Role, .slice a1 x.Cn.length c1, .slice a2 x.Sn.length c2, .int .i64 x.Epoch, .int .i64 x.Seq, .slice a3 x.Body.length c3, .slice a4 x.Key.length c4, .int .i64 x.A.Host, .int .i64 x.A.Port, .int .i64 x.Now] ∧ Rd w 1 (.slice a1 x.Cn.length c1) x.Cn.length (x.Cn.map bV) ∧ x.Cn.length ≤ 9223372036854775807 ∧ Rd w 1 (.slice a2 x.Sn.length c2) x.Sn.length (x.Sn.map bV) ∧ x.Sn.length ≤ 9223372036854775807 ∧ Rd w 1 (.slice a3 x.Body.length c3) x.Body.length (x.Body.map bV) ∧ x.Body.length ≤ 9223372036854775807 ∧ Rd w 1 (.slice a4 x.Key.length c4) x.Key.length (x.Key.map bV) ∧ x.Key.length ≤ 9223372036854775807
def F_laws_szNote (x_a : PNote) (x_left : Int) : (Int) := bif (decide ((F_laws_szByteS x_a.Cn x_left) < 0)) then ((-1)) else (bif (decide ((F_laws_szByteS x_a.Sn (F_laws_szByteS x_a.Cn x_left)) < 0)) then ((-1)) else (bif (decide ((F_laws_szByteS x_a.Body (F_laws_szByteS x_a.Sn (F_laws_szByteS x_a.Cn x_left))) < 0)) then ((-1)) else (bif (decide ((F_laws_szByteS x_a.Key (F_laws_szByteS x_a.Body (F_laws_szByteS x_a.Sn (F_laws_szByteS x_a.Cn x_left)))) < 0)) then ((-1)) else ((F_laws_szByteS x_a.Key (F_laws_szByteS x_a.Body (F_laws_szByteS x_a.Sn (F_laws_szByteS x_a.Cn x_left))))))))
theorem C_laws_szNote (w0 : World) (v_x_a : Value) (x_a : PNote) (r_x_a : Q_58 w0 v_x_a x_a) (x_left : Int) (pre0 : 0 ≤ x_left) (pre1 : x_left ≤ 1048576) : Fn Try.prog 39 #[v_x_a, (.int .i64 x_left)] w0 (fun v w' => Keep w0 w' ∧ O_3 w' w0.heap.size v (F_laws_szNote x_a x_left)) := by
  obtain ⟨a1, c2, a6, c7, a11, c12, a16, c17, rfl, r3, s4, r8, s9, r13, s14, r18, s19⟩ := r_x_a
  refine fn_of (n := 30) (l := [(.agg #[(.int .i64 x_a.Kind), (.int .i64 x_a.Id), (.int .i64 x_a.Role), (.slice a1 x_a.Cn.length c2), (.slice a6 x_a.Sn.length c7), (.int .i64 x_a.Epoch), (.int .i64 x_a.Seq), (.slice a11 x_a.Body.length c12), (.slice a16 x_a.Key.length c17), (.int .i64 x_a.A.Host), (.int .i64 x_a.A.Port), (.int .i64 x_a.Now)]), (.int .i64 x_left), undef, undef, undef, undef, undef, undef, undef, undef, undef, undef, undef, undef, undef, undef, undef, undef, undef, undef, undef, undef, undef, undef, undef, undef, undef, undef, undef, undef]) Try.func39 rfl rfl (by kernel_rfl) rfl ?_
  refine wc_seq ?_
  refine wc_region ?_
  refine wl_box (want_none rfl) [(.int .i64 x_a.Kind), (.int .i64 x_a.Id), (.int .i64 x_a.Role), (.slice a1 x_a.Cn.length c2), (.slice a6 x_a.Sn.length c7), (.int .i64 x_a.Epoch), (.int .i64 x_a.Seq), (.slice a11 x_a.Body.length c12), (.slice a16 x_a.Key.length c17), (.int .i64 x_a.A.Host), (.int .i64 x_a.A.Port), (.int .i64 x_a.Now)] rfl rfl rfl rfl ?_
  intro g21 w1 p22 p23 k24 b25
  have m26 := (Ch.base w0).extk k24
  refine wl_mv (.int .i64 0) (want_none rfl) rfl rfl (.inr rfl) rfl ?_
  refine wl_nil ?_
  refine wq_then ?_
  refine wc_seq ?_
  refine wc_region ?_
  refine wl_pure (.pointer (some ⟨g21, 3, none⟩)) (want_none rfl) rfl rfl (by kernel_rfl) ?_
  refine wl_load1 (.slice a1 x_a.Cn.length c2) (want_none rfl) rfl rfl rfl rfl isAgg_22 b25 rfl ?_
  refine wl_mv (.int .i64 x_left) (want_none rfl) rfl rfl (.inl rfl) rfl ?_
  refine wl_call (want_none rfl) (args := #[(.slice a1 x_a.Cn.length c2), (.int .i64 x_left)]) rfl rfl (by kernel_rfl) (C_laws_szByteS w1 (.slice a1 x_a.Cn.length c2) x_a.Cn (show Q_22 w1 (.slice a1 x_a.Cn.length c2) x_a.Cn from ⟨_, _, rfl, (r3.from0 m26), s4⟩) x_left (by omega) (by omega)) ?_
  rintro _ w2 ⟨k27, rfl⟩
  have m28 := m26.extk k27
  have q29 := laws_szByteS_le x_a.Cn x_left
  refine wl_mv (.int .i64 (F_laws_szByteS x_a.Cn x_left)) (want_none rfl) rfl rfl (.inr rfl) rfl ?_
  refine wl_nil ?_
  refine wq_then ?_
  refine wc_seq ?_
  refine wc_seq ?_
  refine wc_region ?_
  refine wl_mv (.int .i64 (F_laws_szByteS x_a.Cn x_left)) (want_none rfl) rfl rfl (.inl rfl) rfl ?_
  refine wl_pure (.bool (decide ((F_laws_szByteS x_a.Cn x_left) < 0))) (want_none rfl) rfl rfl (by kernel_rfl) ?_
  refine wl_nil ?_
  refine wq_then ?_
  rcases Bool.eq_false_or_eq_true (decide ((F_laws_szByteS x_a.Cn x_left) < 0)) with h30 | h30
  · have q31 := of_decide_eq_true h30
    refine wc_true (congrArg Value.bool h30) ?_
    refine wc_seq ?_
    refine wc_region ?_
    refine wl_mv (.int .i64 (-1)) (want_none rfl) rfl rfl (.inr rfl) rfl ?_
    refine wl_nil ?_
    refine wq_then ?_
    refine wc_ret ?_
    refine wq_then_ret ?_
    refine ret_1 (.inl rfl) (.int .i64 (-1)) rfl rfl ?_
    refine ⟨m28.keep0, ?_⟩
    have hF32 : F_laws_szNote x_a x_left = (-1) := by simp only [F_laws_szNote, h30, cond_true, cond_false]
    rw [hF32]
    exact rfl
  · have q33 := of_decide_eq_false h30
    refine wc_false (congrArg Value.bool h30) ?_
    refine wc_skip ?_
    refine wq_then ?_
    refine wc_seq ?_
    refine wc_region ?_
    refine wl_pure (.pointer (some ⟨g21, 4, none⟩)) (want_none rfl) rfl rfl (by kernel_rfl) ?_
    have b34 := (b25.kp k27)
    refine wl_load1 (.slice a6 x_a.Sn.length c7) (want_none rfl) rfl rfl rfl rfl isAgg_22 b34 rfl ?_
    refine wl_mv (.int .i64 (F_laws_szByteS x_a.Cn x_left)) (want_none rfl) rfl rfl (.inl rfl) rfl ?_
    refine wl_call (want_none rfl) (args := #[(.slice a6 x_a.Sn.length c7), (.int .i64 (F_laws_szByteS x_a.Cn x_left))]) rfl rfl (by kernel_rfl) (C_laws_szByteS w2 (.slice a6 x_a.Sn.length c7) x_a.Sn (show Q_22 w2 (.slice a6 x_a.Sn.length c7) x_a.Sn from ⟨_, _, rfl, (r8.from0 m28), s9⟩) (F_laws_szByteS x_a.Cn x_left) (by omega) (by omega)) ?_
    rintro _ w3 ⟨k35, rfl⟩
    have m36 := m28.extk k35
    have q37 := laws_szByteS_le x_a.Sn (F_laws_szByteS x_a.Cn x_left)
    refine wl_mv (.int .i64 (F_laws_szByteS x_a.Sn (F_laws_szByteS x_a.Cn x_left))) (want_none rfl) rfl rfl (.inr rfl) rfl ?_
    refine wl_nil ?_
    refine wq_then ?_
    refine wc_seq ?_
    refine wc_seq ?_
    refine wc_region ?_
    refine wl_mv (.int .i64 (F_laws_szByteS x_a.Sn (F_laws_szByteS x_a.Cn x_left))) (want_none rfl) rfl rfl (.inl rfl) rfl ?_
    refine wl_pure (.bool (decide ((F_laws_szByteS x_a.Sn (F_laws_szByteS x_a.Cn x_left)) < 0))) (want_none rfl) rfl rfl (by kernel_rfl) ?_
    refine wl_nil ?_
    refine wq_then ?_
    rcases Bool.eq_false_or_eq_true (decide ((F_laws_szByteS x_a.Sn (F_laws_szByteS x_a.Cn x_left)) < 0)) with h38 | h38
    · have q39 := of_decide_eq_true h38
      refine wc_true (congrArg Value.bool h38) ?_
      refine wc_seq ?_
      refine wc_region ?_
      refine wl_mv (.int .i64 (-1)) (want_none rfl) rfl rfl (.inr rfl) rfl ?_
      refine wl_nil ?_
      refine wq_then ?_
      refine wc_ret ?_
      refine wq_then_ret ?_
      refine ret_1 (.inl rfl) (.int .i64 (-1)) rfl rfl ?_
      refine ⟨m36.keep0, ?_⟩
      have hF40 : F_laws_szNote x_a x_left = (-1) := by simp only [F_laws_szNote, h30, h38, cond_true, cond_false]
      rw [hF40]
      exact rfl
    · have q41 := of_decide_eq_false h38
      refine wc_false (congrArg Value.bool h38) ?_
      refine wc_skip ?_
      refine wq_then ?_
      refine wc_seq ?_
      refine wc_region ?_
      refine wl_pure (.pointer (some ⟨g21, 7, none⟩)) (want_none rfl) rfl rfl (by kernel_rfl) ?_
      have b42 := (b34.kp k35)
      refine wl_load1 (.slice a11 x_a.Body.length c12) (want_none rfl) rfl rfl rfl rfl isAgg_22 b42 rfl ?_
      refine wl_mv (.int .i64 (F_laws_szByteS x_a.Sn (F_laws_szByteS x_a.Cn x_left))) (want_none rfl) rfl rfl (.inl rfl) rfl ?_
      refine wl_call (want_none rfl) (args := #[(.slice a11 x_a.Body.length c12), (.int .i64 (F_laws_szByteS x_a.Sn (F_laws_szByteS x_a.Cn x_left)))]) rfl rfl (by kernel_rfl) (C_laws_szByteS w3 (.slice a11 x_a.Body.length c12) x_a.Body (show Q_22 w3 (.slice a11 x_a.Body.length c12) x_a.Body from ⟨_, _, rfl, (r13.from0 m36), s14⟩) (F_laws_szByteS x_a.Sn (F_laws_szByteS x_a.Cn x_left)) (by omega) (by omega)) ?_
      rintro _ w4 ⟨k43, rfl⟩
      have m44 := m36.extk k43
      have q45 := laws_szByteS_le x_a.Body (F_laws_szByteS x_a.Sn (F_laws_szByteS x_a.Cn x_left))
      refine wl_mv (.int .i64 (F_laws_szByteS x_a.Body (F_laws_szByteS x_a.Sn (F_laws_szByteS x_a.Cn x_left)))) (want_none rfl) rfl rfl (.inr rfl) rfl ?_
      refine wl_nil ?_
      refine wq_then ?_
      refine wc_seq ?_
      refine wc_seq ?_
      refine wc_region ?_
      refine wl_mv (.int .i64 (F_laws_szByteS x_a.Body (F_laws_szByteS x_a.Sn (F_laws_szByteS x_a.Cn x_left)))) (want_none rfl) rfl rfl (.inl rfl) rfl ?_
      refine wl_pure (.bool (decide ((F_laws_szByteS x_a.Body (F_laws_szByteS x_a.Sn (F_laws_szByteS x_a.Cn x_left))) < 0))) (want_none rfl) rfl rfl (by kernel_rfl) ?_
      refine wl_nil ?_
      refine wq_then ?_
      rcases Bool.eq_false_or_eq_true (decide ((F_laws_szByteS x_a.Body (F_laws_szByteS x_a.Sn (F_laws_szByteS x_a.Cn x_left))) < 0)) with h46 | h46
      · have q47 := of_decide_eq_true h46
        refine wc_true (congrArg Value.bool h46) ?_
        refine wc_seq ?_
        refine wc_region ?_
        refine wl_mv (.int .i64 (-1)) (want_none rfl) rfl rfl (.inr rfl) rfl ?_
        refine wl_nil ?_
        refine wq_then ?_
        refine wc_ret ?_
        refine wq_then_ret ?_
        refine ret_1 (.inl rfl) (.int .i64 (-1)) rfl rfl ?_
        refine ⟨m44.keep0, ?_⟩
        have hF48 : F_laws_szNote x_a x_left = (-1) := by simp only [F_laws_szNote, h30, h38, h46, cond_true, cond_false]
        rw [hF48]
        exact rfl
      · have q49 := of_decide_eq_false h46
        refine wc_false (congrArg Value.bool h46) ?_
        refine wc_skip ?_
        refine wq_then ?_
        refine wc_seq ?_
        refine wc_region ?_
        refine wl_pure (.pointer (some ⟨g21, 8, none⟩)) (want_none rfl) rfl rfl (by kernel_rfl) ?_
        have b50 := (b42.kp k43)
        refine wl_load1 (.slice a16 x_a.Key.length c17) (want_none rfl) rfl rfl rfl rfl isAgg_22 b50 rfl ?_
        refine wl_mv (.int .i64 (F_laws_szByteS x_a.Body (F_laws_szByteS x_a.Sn (F_laws_szByteS x_a.Cn x_left)))) (want_none rfl) rfl rfl (.inl rfl) rfl ?_
        refine wl_call (want_none rfl) (args := #[(.slice a16 x_a.Key.length c17), (.int .i64 (F_laws_szByteS x_a.Body (F_laws_szByteS x_a.Sn (F_laws_szByteS x_a.Cn x_left))))]) rfl rfl (by kernel_rfl) (C_laws_szByteS w4 (.slice a16 x_a.Key.length c17) x_a.Key (show Q_22 w4 (.slice a16 x_a.Key.length c17) x_a.Key from ⟨_, _, rfl, (r18.from0 m44), s19⟩) (F_laws_szByteS x_a.Body (F_laws_szByteS x_a.Sn (F_laws_szByteS x_a.Cn x_left))) (by omega) (by omega)) ?_
        rintro _ w5 ⟨k51, rfl⟩
        have m52 := m44.extk k51
        have q53 := laws_szByteS_le x_a.Key (F_laws_szByteS x_a.Body (F_laws_szByteS x_a.Sn (F_laws_szByteS x_a.Cn x_left)))
        refine wl_mv (.int .i64 (F_laws_szByteS x_a.Key (F_laws_szByteS x_a.Body (F_laws_szByteS x_a.Sn (F_laws_szByteS x_a.Cn x_left))))) (want_none rfl) rfl rfl (.inr rfl) rfl ?_
        refine wl_nil ?_
        refine wq_then ?_
        refine wc_seq ?_
        refine wc_seq ?_
        refine wc_region ?_
        refine wl_mv (.int .i64 (F_laws_szByteS x_a.Key (F_laws_szByteS x_a.Body (F_laws_szByteS x_a.Sn (F_laws_szByteS x_a.Cn x_left))))) (want_none rfl) rfl rfl (.inl rfl) rfl ?_
        refine wl_pure (.bool (decide ((F_laws_szByteS x_a.Key (F_laws_szByteS x_a.Body (F_laws_szByteS x_a.Sn (F_laws_szByteS x_a.Cn x_left)))) < 0))) (want_none rfl) rfl rfl (by kernel_rfl) ?_
        refine wl_nil ?_
        refine wq_then ?_
        rcases Bool.eq_false_or_eq_true (decide ((F_laws_szByteS x_a.Key (F_laws_szByteS x_a.Body (F_laws_szByteS x_a.Sn (F_laws_szByteS x_a.Cn x_left)))) < 0)) with h54 | h54
        · have q55 := of_decide_eq_true h54
          refine wc_true (congrArg Value.bool h54) ?_
          refine wc_seq ?_
          refine wc_region ?_
          refine wl_mv (.int .i64 (-1)) (want_none rfl) rfl rfl (.inr rfl) rfl ?_
          refine wl_nil ?_
          refine wq_then ?_
          refine wc_ret ?_
          refine wq_then_ret ?_
          refine ret_1 (.inl rfl) (.int .i64 (-1)) rfl rfl ?_
          refine ⟨m52.keep0, ?_⟩
          have hF56 : F_laws_szNote x_a x_left = (-1) := by simp only [F_laws_szNote, h30, h38, h46, h54, cond_true, cond_false]
          rw [hF56]
          exact rfl
        · have q57 := of_decide_eq_false h54
          refine wc_false (congrArg Value.bool h54) ?_
          refine wc_skip ?_
          refine wq_then ?_
          refine wc_seq ?_
          refine wc_region ?_
          refine wl_mv (.int .i64 (F_laws_szByteS x_a.Key (F_laws_szByteS x_a.Body (F_laws_szByteS x_a.Sn (F_laws_szByteS x_a.Cn x_left))))) (want_none rfl) rfl rfl (.inl rfl) rfl ?_
          refine wl_mv (.int .i64 (F_laws_szByteS x_a.Key (F_laws_szByteS x_a.Body (F_laws_szByteS x_a.Sn (F_laws_szByteS x_a.Cn x_left))))) (want_none rfl) rfl rfl (.inr rfl) rfl ?_
          refine wl_nil ?_
          refine wq_then ?_
          refine wc_ret ?_
          refine ret_1 (.inl rfl) (.int .i64 (F_laws_szByteS x_a.Key (F_laws_szByteS x_a.Body (F_laws_szByteS x_a.Sn (F_laws_szByteS x_a.Cn x_left))))) rfl rfl ?_
          refine ⟨m52.keep0, ?_⟩
          have hF58 : F_laws_szNote x_a x_left = (F_laws_szByteS x_a.Key (F_laws_szByteS x_a.Body (F_laws_szByteS x_a.Sn (F_laws_szByteS x_a.Cn x_left)))) := by simp only [F_laws_szNote, h30, h38, h46, h54, cond_true, cond_false]
          rw [hF58]
          exact rfl
theorem laws_szNote_le (x : PNote) (l : Int) : F_laws_szNote x l = -1 ∨ (F_laws_szNote x l = l - ((x.Cn.length : Int) + (x.Sn.length : Int) + (x.Body.length : Int) + (x.Key.length : Int)) ∧ (0 ≤ F_laws_szNote x l ∨ l < 0 ∨ False)) := by
  have h0 := laws_szByteS_le x.Cn l
  have h1 := laws_szByteS_le x.Sn (F_laws_szByteS x.Cn l)
  have h2 := laws_szByteS_le x.Body (F_laws_szByteS x.Sn (F_laws_szByteS x.Cn l))
  have h3 := laws_szByteS_le x.Key (F_laws_szByteS x.Body (F_laws_szByteS x.Sn (F_laws_szByteS x.Cn l)))
  simp only [F_laws_szNote, cond_eq_ite, decide_eq_true_eq]
  (repeat' split) <;> omega

theorem zero_61 : ∀ w, (zeroValue 61).run Try.prog w = .ok (.agg #[(.int .i64 0), (.int .i64 0)]) w := fun w => by kernel_rfl
theorem isAgg_61 : ∀ w, (isAgg 61).run Try.prog w = .ok true w := fun w => by kernel_rfl
theorem sizeOf_61 : ∀ w, (sizeOf 61).run Try.prog w = .ok 2 w := fun w => by kernel_rfl
def R_56 (w : World) (v : Value) (x : (PAddr)) : Prop := v = .agg #[.int .i64 x.Host, .int .i64 x.Port]
def O_61 (w : World) (lo : Nat) (v : Value) (x : (PAddr)) : Prop := v = .agg #[.int .i64 x.Host, .int .i64 x.Port]
def F_laws_toAddr (x_a : PAddr) : (PAddr) := x_a
theorem C_laws_toAddr (w0 : World) (v_x_a : Value) (x_a : PAddr) (r_x_a : R_56 w0 v_x_a x_a)  : Fn Try.prog 54 #[v_x_a] w0 (fun v w' => Keep w0 w' ∧ O_61 w' w0.heap.size v (F_laws_toAddr x_a)) := by
  obtain rfl := r_x_a
  refine fn_of (n := 11) (l := [(.agg #[(.int .i64 x_a.Host), (.int .i64 x_a.Port)]), undef, undef, undef, undef, undef, undef, undef, undef, undef, undef]) Try.func54 rfl rfl (by kernel_rfl) rfl ?_
  refine wc_seq ?_
  refine wc_region ?_
  refine wl_box (want_none rfl) [(.int .i64 x_a.Host), (.int .i64 x_a.Port)] rfl rfl rfl rfl ?_
  intro g1 w1 p2 p3 k4 b5
  have m6 := (Ch.base w0).extk k4
  refine wl_alloc (want_none rfl) (.agg #[(.int .i64 0), (.int .i64 0)]) [(.int .i64 0), (.int .i64 0)] zero_61 rfl rfl rfl rfl ?_
  intro g7 w2 p8 p9 k10 b11
  have m12 := m6.extk k10
  refine wl_nil ?_
  refine wq_then ?_
  refine wc_seq ?_
  refine wc_region ?_
  refine wl_alloc (want_none rfl) (.agg #[(.int .i64 0), (.int .i64 0)]) [(.int .i64 0), (.int .i64 0)] zero_61 rfl rfl rfl rfl ?_
  intro g13 w3 p14 p15 k16 b17
  have m18 := m12.extk k16
  refine wl_nil ?_
  refine wq_then ?_
  refine wc_seq ?_
  refine wc_region ?_
  refine wl_pure (.pointer (some ⟨g1, 0, none⟩)) (want_none rfl) rfl rfl (by kernel_rfl) ?_
  have b19 := ((b5.kp k10).kp k16)
  refine wl_load1 (.int .i64 x_a.Host) (want_none rfl) rfl rfl rfl rfl isAgg_3 b19 rfl ?_
  refine wl_pure (.pointer (some ⟨g13, 0, none⟩)) (want_none rfl) rfl rfl (by kernel_rfl) ?_
  refine wl_store (.int .i64 x_a.Host) [(.int .i64 x_a.Host)] [(.int .i64 x_a.Host), (.int .i64 0)] (want_none rfl) rfl rfl rfl rfl rfl (one_cons rfl one_nil) sizeOf_3 b17 rfl rfl ?_
  intro w4 k20 b21 z22
  have m23 := m18.ext k20 (fun k hk => by subst hk; exact Nat.le_trans (Nat.le_trans k4.size k10.size) p14)
  refine wl_nil ?_
  refine wq_then ?_
  refine wc_seq ?_
  refine wc_region ?_
  refine wl_pure (.pointer (some ⟨g1, 1, none⟩)) (want_none rfl) rfl rfl (by kernel_rfl) ?_
  have b24 := (b19.ch k20 (Nat.ne_of_lt (Nat.lt_of_lt_of_le p3 (Nat.le_trans k10.size p14))))
  refine wl_load1 (.int .i64 x_a.Port) (want_none rfl) rfl rfl rfl rfl isAgg_3 b24 rfl ?_
  refine wl_pure (.pointer (some ⟨g13, 1, none⟩)) (want_none rfl) rfl rfl (by kernel_rfl) ?_
  refine wl_store (.int .i64 x_a.Port) [(.int .i64 x_a.Port)] [(.int .i64 x_a.Host), (.int .i64 x_a.Port)] (want_none rfl) rfl rfl rfl rfl rfl (one_cons rfl one_nil) sizeOf_3 b21 rfl rfl ?_
  intro w5 k25 b26 z27
  have m28 := m23.ext k25 (fun k hk => by subst hk; exact Nat.le_trans (Nat.le_trans k4.size k10.size) p14)
  refine wl_nil ?_
  refine wq_then ?_
  refine wc_seq ?_
  refine wc_region ?_
  refine wl_loadN [(.int .i64 x_a.Host), (.int .i64 x_a.Port)] (want_none rfl) rfl rfl rfl rfl isAgg_61 sizeOf_61 b26 rfl ?_
  have b29 := (((b11.kp k16).ch k20 (Nat.ne_of_lt (Nat.lt_of_lt_of_le p9 (Nat.le_trans (Nat.le_refl _) p14)))).ch k25 (Nat.ne_of_lt (Nat.lt_of_lt_of_le p9 (Nat.le_trans (Nat.le_refl _) p14))))
  refine wl_store (.agg #[(.int .i64 x_a.Host), (.int .i64 x_a.Port)]) [(.int .i64 x_a.Host), (.int .i64 x_a.Port)] [(.int .i64 x_a.Host), (.int .i64 x_a.Port)] (want_none rfl) rfl rfl rfl rfl rfl (one_cons rfl (one_cons rfl one_nil)) sizeOf_61 b29 rfl rfl ?_
  intro w6 k30 b31 z32
  have m33 := m28.ext k30 (fun k hk => by subst hk; exact Nat.le_trans k4.size p8)
  refine wl_nil ?_
  refine wq_then ?_
  refine wc_ret ?_
  refine ret_1 (.inl rfl) (.agg #[(.int .i64 x_a.Host), (.int .i64 x_a.Port)]) rfl (rv_c [(.int .i64 x_a.Host), (.int .i64 x_a.Port)] rfl b31 isAgg_61 sizeOf_61) ?_
  refine ⟨m33.keep0, ?_⟩
  have hF34 : F_laws_toAddr x_a = x_a := by rfl
  rw [hF34]
  exact rfl

theorem zero_63 : ∀ w, (zeroValue 63).run Try.prog w = .ok (.agg #[(.int .i64 0), (.int .i64 0), (.int .i64 0), (.slice none 0 0), (.slice none 0 0), (.int .i64 0), (.int .i64 0), (.slice none 0 0), (.slice none 0 0), (.int .i64 0), (.int .i64 0), (.int .i64 0)]) w := fun w => by kernel_rfl
theorem isAgg_56 : ∀ w, (isAgg 56).run Try.prog w = .ok true w := fun w => by kernel_rfl
theorem sizeOf_56 : ∀ w, (sizeOf 56).run Try.prog w = .ok 2 w := fun w => by kernel_rfl
theorem isAgg_63 : ∀ w, (isAgg 63).run Try.prog w = .ok true w := fun w => by kernel_rfl
theorem sizeOf_63 : ∀ w, (sizeOf 63).run Try.prog w = .ok 12 w := fun w => by kernel_rfl
def R_58 (w : World) (v : Value) (x : (PNote)) : Prop := ∃ (a1 : Option Addr) (c1 : Nat) (a2 : Option Addr) (c2 : Nat) (a3 : Option Addr) (c3 : Nat) (a4 : Option Addr) (c4 : Nat), v = .agg #[.int .i64 x.Kind, .int .i64 x.Id, .int .i64 x.Role, .slice a1 x.Cn.length c1, .slice a2 x.Sn.length c2, .int .i64 x.Epoch, .int .i64 x.Seq, .slice a3 x.Body.length c3, .slice a4 x.Key.length c4, .int .i64 x.A.Host, .int .i64 x.A.Port, .int .i64 x.Now] ∧ Rd w 1 (.slice a1 x.Cn.length c1) x.Cn.length (x.Cn.map bV) ∧ x.Cn.length ≤ 1073741824 ∧ Rd w 1 (.slice a2 x.Sn.length c2) x.Sn.length (x.Sn.map bV) ∧ x.Sn.length ≤ 1073741824 ∧ Rd w 1 (.slice a3 x.Body.length c3) x.Body.length (x.Body.map bV) ∧ x.Body.length ≤ 1073741824 ∧ Rd w 1 (.slice a4 x.Key.length c4) x.Key.length (x.Key.map bV) ∧ x.Key.length ≤ 1073741824
def O_63 (w : World) (lo : Nat) (v : Value) (x : (PNote)) : Prop := ∃ (a1 : Option Addr) (c1 : Nat) (a2 : Option Addr) (c2 : Nat) (a3 : Option Addr) (c3 : Nat) (a4 : Option Addr) (c4 : Nat), v = .agg #[.int .i64 x.Kind, .int .i64 x.Id, .int .i64 x.Role, .slice a1 x.Cn.length c1, .slice a2 x.Sn.length c2, .int .i64 x.Epoch, .int .i64 x.Seq, .slice a3 x.Body.length c3, .slice a4 x.Key.length c4, .int .i64 x.A.Host, .int .i64 x.A.Port, .int .i64 x.Now] ∧ w.ownsRow lo 5 1 (.slice a1 x.Cn.length c1) x.Cn.length (x.Cn.map bV) ∧ x.Cn.length ≤ 1073741824 ∧ w.ownsRow lo 5 1 (.slice a2 x.Sn.length c2) x.Sn.length (x.Sn.map bV) ∧ x.Sn.length ≤ 1073741824 ∧ w.ownsRow lo 5 1 (.slice a3 x.Body.length c3) x.Body.length (x.Body.map bV) ∧ x.Body.length ≤ 1073741824 ∧ w.ownsRow lo 5 1 (.slice a4 x.Key.length c4) x.Key.length (x.Key.map bV) ∧ x.Key.length ≤ 1073741824 ∧ Aps [(a1, c1), (a2, c2), (a3, c3), (a4, c4)]
def F_laws_toNote (x_a : PNote) : (PNote) := { Kind := x_a.Kind, Id := x_a.Id, Role := x_a.Role, Cn := (cpB x_a.Cn), Sn := (cpB x_a.Sn), Epoch := x_a.Epoch, Seq := x_a.Seq, Body := (cpB x_a.Body), Key := (cpB x_a.Key), A := (F_laws_toAddr x_a.A), Now := x_a.Now : PNote }
theorem C_laws_toNote (w0 : World) (v_x_a : Value) (x_a : PNote) (r_x_a : R_58 w0 v_x_a x_a)  : Fn Try.prog 41 #[v_x_a] w0 (fun v w' => Keep w0 w' ∧ O_63 w' w0.heap.size v (F_laws_toNote x_a)) := by
  obtain ⟨a1, c2, a6, c7, a11, c12, a16, c17, rfl, r3, s4, r8, s9, r13, s14, r18, s19⟩ := r_x_a
  refine fn_of (n := 43) (l := [(.agg #[(.int .i64 x_a.Kind), (.int .i64 x_a.Id), (.int .i64 x_a.Role), (.slice a1 x_a.Cn.length c2), (.slice a6 x_a.Sn.length c7), (.int .i64 x_a.Epoch), (.int .i64 x_a.Seq), (.slice a11 x_a.Body.length c12), (.slice a16 x_a.Key.length c17), (.int .i64 x_a.A.Host), (.int .i64 x_a.A.Port), (.int .i64 x_a.Now)]), undef, undef, undef, undef, undef, undef, undef, undef, undef, undef, undef, undef, undef, undef, undef, undef, undef, undef, undef, undef, undef, undef, undef, undef, undef, undef, undef, undef, undef, undef, undef, undef, undef, undef, undef, undef, undef, undef, undef, undef, undef, undef]) Try.func41 rfl rfl (by kernel_rfl) rfl ?_
  refine wc_seq ?_
  refine wc_region ?_
  refine wl_box (want_none rfl) [(.int .i64 x_a.Kind), (.int .i64 x_a.Id), (.int .i64 x_a.Role), (.slice a1 x_a.Cn.length c2), (.slice a6 x_a.Sn.length c7), (.int .i64 x_a.Epoch), (.int .i64 x_a.Seq), (.slice a11 x_a.Body.length c12), (.slice a16 x_a.Key.length c17), (.int .i64 x_a.A.Host), (.int .i64 x_a.A.Port), (.int .i64 x_a.Now)] rfl rfl rfl rfl ?_
  intro g21 w1 p22 p23 k24 b25
  have m26 := (Ch.base w0).extk k24
  refine wl_alloc (want_none rfl) (.agg #[(.int .i64 0), (.int .i64 0), (.int .i64 0), (.slice none 0 0), (.slice none 0 0), (.int .i64 0), (.int .i64 0), (.slice none 0 0), (.slice none 0 0), (.int .i64 0), (.int .i64 0), (.int .i64 0)]) [(.int .i64 0), (.int .i64 0), (.int .i64 0), (.slice none 0 0), (.slice none 0 0), (.int .i64 0), (.int .i64 0), (.slice none 0 0), (.slice none 0 0), (.int .i64 0), (.int .i64 0), (.int .i64 0)] zero_63 rfl rfl rfl rfl ?_
  intro g27 w2 p28 p29 k30 b31
  have m32 := m26.extk k30
  refine wl_nil ?_
  refine wq_then ?_
  refine wc_seq ?_
  refine wc_region ?_
  refine wl_alloc (want_none rfl) (.agg #[(.int .i64 0), (.int .i64 0), (.int .i64 0), (.slice none 0 0), (.slice none 0 0), (.int .i64 0), (.int .i64 0), (.slice none 0 0), (.slice none 0 0), (.int .i64 0), (.int .i64 0), (.int .i64 0)]) [(.int .i64 0), (.int .i64 0), (.int .i64 0), (.slice none 0 0), (.slice none 0 0), (.int .i64 0), (.int .i64 0), (.slice none 0 0), (.slice none 0 0), (.int .i64 0), (.int .i64 0), (.int .i64 0)] zero_63 rfl rfl rfl rfl ?_
  intro g33 w3 p34 p35 k36 b37
  have m38 := m32.extk k36
  refine wl_nil ?_
  refine wq_then ?_
  refine wc_seq ?_
  refine wc_region ?_
  refine wl_pure (.pointer (some ⟨g21, 0, none⟩)) (want_none rfl) rfl rfl (by kernel_rfl) ?_
  have b39 := ((b25.kp k30).kp k36)
  refine wl_load1 (.int .i64 x_a.Kind) (want_none rfl) rfl rfl rfl rfl isAgg_3 b39 rfl ?_
  refine wl_pure (.pointer (some ⟨g33, 0, none⟩)) (want_none rfl) rfl rfl (by kernel_rfl) ?_
  refine wl_store (.int .i64 x_a.Kind) [(.int .i64 x_a.Kind)] [(.int .i64 x_a.Kind), (.int .i64 0), (.int .i64 0), (.slice none 0 0), (.slice none 0 0), (.int .i64 0), (.int .i64 0), (.slice none 0 0), (.slice none 0 0), (.int .i64 0), (.int .i64 0), (.int .i64 0)] (want_none rfl) rfl rfl rfl rfl rfl (one_cons rfl one_nil) sizeOf_3 b37 rfl rfl ?_
  intro w4 k40 b41 z42
  have m43 := m38.ext k40 (fun k hk => by subst hk; exact Nat.le_trans (Nat.le_trans k24.size k30.size) p34)
  refine wl_nil ?_
  refine wq_then ?_
  refine wc_seq ?_
  refine wc_region ?_
  refine wl_pure (.pointer (some ⟨g21, 1, none⟩)) (want_none rfl) rfl rfl (by kernel_rfl) ?_
  have b44 := (b39.ch k40 (Nat.ne_of_lt (Nat.lt_of_lt_of_le p23 (Nat.le_trans k30.size p34))))
  refine wl_load1 (.int .i64 x_a.Id) (want_none rfl) rfl rfl rfl rfl isAgg_3 b44 rfl ?_
  refine wl_pure (.pointer (some ⟨g33, 1, none⟩)) (want_none rfl) rfl rfl (by kernel_rfl) ?_
  refine wl_store (.int .i64 x_a.Id) [(.int .i64 x_a.Id)] [(.int .i64 x_a.Kind), (.int .i64 x_a.Id), (.int .i64 0), (.slice none 0 0), (.slice none 0 0), (.int .i64 0), (.int .i64 0), (.slice none 0 0), (.slice none 0 0), (.int .i64 0), (.int .i64 0), (.int .i64 0)] (want_none rfl) rfl rfl rfl rfl rfl (one_cons rfl one_nil) sizeOf_3 b41 rfl rfl ?_
  intro w5 k45 b46 z47
  have m48 := m43.ext k45 (fun k hk => by subst hk; exact Nat.le_trans (Nat.le_trans k24.size k30.size) p34)
  refine wl_nil ?_
  refine wq_then ?_
  refine wc_seq ?_
  refine wc_region ?_
  refine wl_pure (.pointer (some ⟨g21, 2, none⟩)) (want_none rfl) rfl rfl (by kernel_rfl) ?_
  have b49 := (b44.ch k45 (Nat.ne_of_lt (Nat.lt_of_lt_of_le p23 (Nat.le_trans k30.size p34))))
  refine wl_load1 (.int .i64 x_a.Role) (want_none rfl) rfl rfl rfl rfl isAgg_3 b49 rfl ?_
  refine wl_pure (.pointer (some ⟨g33, 2, none⟩)) (want_none rfl) rfl rfl (by kernel_rfl) ?_
  refine wl_store (.int .i64 x_a.Role) [(.int .i64 x_a.Role)] [(.int .i64 x_a.Kind), (.int .i64 x_a.Id), (.int .i64 x_a.Role), (.slice none 0 0), (.slice none 0 0), (.int .i64 0), (.int .i64 0), (.slice none 0 0), (.slice none 0 0), (.int .i64 0), (.int .i64 0), (.int .i64 0)] (want_none rfl) rfl rfl rfl rfl rfl (one_cons rfl one_nil) sizeOf_3 b46 rfl rfl ?_
  intro w6 k50 b51 z52
  have m53 := m48.ext k50 (fun k hk => by subst hk; exact Nat.le_trans (Nat.le_trans k24.size k30.size) p34)
  refine wl_nil ?_
  refine wq_then ?_
  refine wc_seq ?_
  refine wc_region ?_
  refine wl_pure (.pointer (some ⟨g21, 3, none⟩)) (want_none rfl) rfl rfl (by kernel_rfl) ?_
  have b54 := (b49.ch k50 (Nat.ne_of_lt (Nat.lt_of_lt_of_le p23 (Nat.le_trans k30.size p34))))
  refine wl_load1 (.slice a1 x_a.Cn.length c2) (want_none rfl) rfl rfl rfl rfl isAgg_22 b54 rfl ?_
  refine wl_call (want_none rfl) (args := #[(.slice a1 x_a.Cn.length c2)]) rfl rfl (by kernel_rfl) (C_laws_toByteS w6 (.slice a1 x_a.Cn.length c2) x_a.Cn (show R_22 w6 (.slice a1 x_a.Cn.length c2) x_a.Cn from ⟨_, _, rfl, (r3.from0 m53), s4⟩)) ?_
  rintro _ w7 ⟨k55, ⟨a56, c57, rfl, o58, s59, ap61⟩⟩
  have m62 := m53.extk k55
  refine wl_pure (.pointer (some ⟨g33, 3, none⟩)) (want_none rfl) rfl rfl (by kernel_rfl) ?_
  have b63 := (b51.kp k55)
  refine wl_store (.slice a56 (cpB x_a.Cn).length c57) [(.slice a56 (cpB x_a.Cn).length c57)] [(.int .i64 x_a.Kind), (.int .i64 x_a.Id), (.int .i64 x_a.Role), (.slice a56 (cpB x_a.Cn).length c57), (.slice none 0 0), (.int .i64 0), (.int .i64 0), (.slice none 0 0), (.slice none 0 0), (.int .i64 0), (.int .i64 0), (.int .i64 0)] (want_none rfl) rfl rfl rfl rfl rfl (one_cons rfl one_nil) sizeOf_22 b63 rfl rfl ?_
  intro w8 k64 b65 z66
  have m67 := m62.ext k64 (fun k hk => by subst hk; exact Nat.le_trans (Nat.le_trans k24.size k30.size) p34)
  refine wl_nil ?_
  refine wq_then ?_
  refine wc_seq ?_
  refine wc_region ?_
  refine wl_pure (.pointer (some ⟨g21, 4, none⟩)) (want_none rfl) rfl rfl (by kernel_rfl) ?_
  have b68 := ((b54.kp k55).ch k64 (Nat.ne_of_lt (Nat.lt_of_lt_of_le p23 (Nat.le_trans k30.size p34))))
  refine wl_load1 (.slice a6 x_a.Sn.length c7) (want_none rfl) rfl rfl rfl rfl isAgg_22 b68 rfl ?_
  refine wl_call (want_none rfl) (args := #[(.slice a6 x_a.Sn.length c7)]) rfl rfl (by kernel_rfl) (C_laws_toByteS w8 (.slice a6 x_a.Sn.length c7) x_a.Sn (show R_22 w8 (.slice a6 x_a.Sn.length c7) x_a.Sn from ⟨_, _, rfl, (r8.from0 m67), s9⟩)) ?_
  rintro _ w9 ⟨k69, ⟨a70, c71, rfl, o72, s73, ap75⟩⟩
  have m76 := m67.extk k69
  refine wl_pure (.pointer (some ⟨g33, 4, none⟩)) (want_none rfl) rfl rfl (by kernel_rfl) ?_
  have b77 := (b65.kp k69)
  refine wl_store (.slice a70 (cpB x_a.Sn).length c71) [(.slice a70 (cpB x_a.Sn).length c71)] [(.int .i64 x_a.Kind), (.int .i64 x_a.Id), (.int .i64 x_a.Role), (.slice a56 (cpB x_a.Cn).length c57), (.slice a70 (cpB x_a.Sn).length c71), (.int .i64 0), (.int .i64 0), (.slice none 0 0), (.slice none 0 0), (.int .i64 0), (.int .i64 0), (.int .i64 0)] (want_none rfl) rfl rfl rfl rfl rfl (one_cons rfl one_nil) sizeOf_22 b77 rfl rfl ?_
  intro w10 k78 b79 z80
  have m81 := m76.ext k78 (fun k hk => by subst hk; exact Nat.le_trans (Nat.le_trans k24.size k30.size) p34)
  refine wl_nil ?_
  refine wq_then ?_
  refine wc_seq ?_
  refine wc_region ?_
  refine wl_pure (.pointer (some ⟨g21, 5, none⟩)) (want_none rfl) rfl rfl (by kernel_rfl) ?_
  have b82 := ((b68.kp k69).ch k78 (Nat.ne_of_lt (Nat.lt_of_lt_of_le p23 (Nat.le_trans k30.size p34))))
  refine wl_load1 (.int .i64 x_a.Epoch) (want_none rfl) rfl rfl rfl rfl isAgg_3 b82 rfl ?_
  refine wl_pure (.pointer (some ⟨g33, 5, none⟩)) (want_none rfl) rfl rfl (by kernel_rfl) ?_
  refine wl_store (.int .i64 x_a.Epoch) [(.int .i64 x_a.Epoch)] [(.int .i64 x_a.Kind), (.int .i64 x_a.Id), (.int .i64 x_a.Role), (.slice a56 (cpB x_a.Cn).length c57), (.slice a70 (cpB x_a.Sn).length c71), (.int .i64 x_a.Epoch), (.int .i64 0), (.slice none 0 0), (.slice none 0 0), (.int .i64 0), (.int .i64 0), (.int .i64 0)] (want_none rfl) rfl rfl rfl rfl rfl (one_cons rfl one_nil) sizeOf_3 b79 rfl rfl ?_
  intro w11 k83 b84 z85
  have m86 := m81.ext k83 (fun k hk => by subst hk; exact Nat.le_trans (Nat.le_trans k24.size k30.size) p34)
  refine wl_nil ?_
  refine wq_then ?_
  refine wc_seq ?_
  refine wc_region ?_
  refine wl_pure (.pointer (some ⟨g21, 6, none⟩)) (want_none rfl) rfl rfl (by kernel_rfl) ?_
  have b87 := (b82.ch k83 (Nat.ne_of_lt (Nat.lt_of_lt_of_le p23 (Nat.le_trans k30.size p34))))
  refine wl_load1 (.int .i64 x_a.Seq) (want_none rfl) rfl rfl rfl rfl isAgg_3 b87 rfl ?_
  refine wl_pure (.pointer (some ⟨g33, 6, none⟩)) (want_none rfl) rfl rfl (by kernel_rfl) ?_
  refine wl_store (.int .i64 x_a.Seq) [(.int .i64 x_a.Seq)] [(.int .i64 x_a.Kind), (.int .i64 x_a.Id), (.int .i64 x_a.Role), (.slice a56 (cpB x_a.Cn).length c57), (.slice a70 (cpB x_a.Sn).length c71), (.int .i64 x_a.Epoch), (.int .i64 x_a.Seq), (.slice none 0 0), (.slice none 0 0), (.int .i64 0), (.int .i64 0), (.int .i64 0)] (want_none rfl) rfl rfl rfl rfl rfl (one_cons rfl one_nil) sizeOf_3 b84 rfl rfl ?_
  intro w12 k88 b89 z90
  have m91 := m86.ext k88 (fun k hk => by subst hk; exact Nat.le_trans (Nat.le_trans k24.size k30.size) p34)
  refine wl_nil ?_
  refine wq_then ?_
  refine wc_seq ?_
  refine wc_region ?_
  refine wl_pure (.pointer (some ⟨g21, 7, none⟩)) (want_none rfl) rfl rfl (by kernel_rfl) ?_
  have b92 := (b87.ch k88 (Nat.ne_of_lt (Nat.lt_of_lt_of_le p23 (Nat.le_trans k30.size p34))))
  refine wl_load1 (.slice a11 x_a.Body.length c12) (want_none rfl) rfl rfl rfl rfl isAgg_22 b92 rfl ?_
  refine wl_call (want_none rfl) (args := #[(.slice a11 x_a.Body.length c12)]) rfl rfl (by kernel_rfl) (C_laws_toByteS w12 (.slice a11 x_a.Body.length c12) x_a.Body (show R_22 w12 (.slice a11 x_a.Body.length c12) x_a.Body from ⟨_, _, rfl, (r13.from0 m91), s14⟩)) ?_
  rintro _ w13 ⟨k93, ⟨a94, c95, rfl, o96, s97, ap99⟩⟩
  have m100 := m91.extk k93
  refine wl_pure (.pointer (some ⟨g33, 7, none⟩)) (want_none rfl) rfl rfl (by kernel_rfl) ?_
  have b101 := (b89.kp k93)
  refine wl_store (.slice a94 (cpB x_a.Body).length c95) [(.slice a94 (cpB x_a.Body).length c95)] [(.int .i64 x_a.Kind), (.int .i64 x_a.Id), (.int .i64 x_a.Role), (.slice a56 (cpB x_a.Cn).length c57), (.slice a70 (cpB x_a.Sn).length c71), (.int .i64 x_a.Epoch), (.int .i64 x_a.Seq), (.slice a94 (cpB x_a.Body).length c95), (.slice none 0 0), (.int .i64 0), (.int .i64 0), (.int .i64 0)] (want_none rfl) rfl rfl rfl rfl rfl (one_cons rfl one_nil) sizeOf_22 b101 rfl rfl ?_
  intro w14 k102 b103 z104
  have m105 := m100.ext k102 (fun k hk => by subst hk; exact Nat.le_trans (Nat.le_trans k24.size k30.size) p34)
  refine wl_nil ?_
  refine wq_then ?_
  refine wc_seq ?_
  refine wc_region ?_
  refine wl_pure (.pointer (some ⟨g21, 8, none⟩)) (want_none rfl) rfl rfl (by kernel_rfl) ?_
  have b106 := ((b92.kp k93).ch k102 (Nat.ne_of_lt (Nat.lt_of_lt_of_le p23 (Nat.le_trans k30.size p34))))
  refine wl_load1 (.slice a16 x_a.Key.length c17) (want_none rfl) rfl rfl rfl rfl isAgg_22 b106 rfl ?_
  refine wl_call (want_none rfl) (args := #[(.slice a16 x_a.Key.length c17)]) rfl rfl (by kernel_rfl) (C_laws_toByteS w14 (.slice a16 x_a.Key.length c17) x_a.Key (show R_22 w14 (.slice a16 x_a.Key.length c17) x_a.Key from ⟨_, _, rfl, (r18.from0 m105), s19⟩)) ?_
  rintro _ w15 ⟨k107, ⟨a108, c109, rfl, o110, s111, ap113⟩⟩
  have m114 := m105.extk k107
  refine wl_pure (.pointer (some ⟨g33, 8, none⟩)) (want_none rfl) rfl rfl (by kernel_rfl) ?_
  have b115 := (b103.kp k107)
  refine wl_store (.slice a108 (cpB x_a.Key).length c109) [(.slice a108 (cpB x_a.Key).length c109)] [(.int .i64 x_a.Kind), (.int .i64 x_a.Id), (.int .i64 x_a.Role), (.slice a56 (cpB x_a.Cn).length c57), (.slice a70 (cpB x_a.Sn).length c71), (.int .i64 x_a.Epoch), (.int .i64 x_a.Seq), (.slice a94 (cpB x_a.Body).length c95), (.slice a108 (cpB x_a.Key).length c109), (.int .i64 0), (.int .i64 0), (.int .i64 0)] (want_none rfl) rfl rfl rfl rfl rfl (one_cons rfl one_nil) sizeOf_22 b115 rfl rfl ?_
  intro w16 k116 b117 z118
  have m119 := m114.ext k116 (fun k hk => by subst hk; exact Nat.le_trans (Nat.le_trans k24.size k30.size) p34)
  refine wl_nil ?_
  refine wq_then ?_
  refine wc_seq ?_
  refine wc_region ?_
  refine wl_pure (.pointer (some ⟨g21, 9, none⟩)) (want_none rfl) rfl rfl (by kernel_rfl) ?_
  have b120 := ((b106.kp k107).ch k116 (Nat.ne_of_lt (Nat.lt_of_lt_of_le p23 (Nat.le_trans k30.size p34))))
  refine wl_loadN [(.int .i64 x_a.A.Host), (.int .i64 x_a.A.Port)] (want_none rfl) rfl rfl rfl rfl isAgg_56 sizeOf_56 b120 rfl ?_
  refine wl_call (want_none rfl) (args := #[(.agg #[(.int .i64 x_a.A.Host), (.int .i64 x_a.A.Port)])]) rfl rfl (by kernel_rfl) (C_laws_toAddr w16 (.agg #[(.int .i64 x_a.A.Host), (.int .i64 x_a.A.Port)]) x_a.A (show R_56 w16 (.agg #[(.int .i64 x_a.A.Host), (.int .i64 x_a.A.Port)]) x_a.A from rfl)) ?_
  rintro _ w17 ⟨k121, rfl⟩
  have m122 := m119.extk k121
  refine wl_pure (.pointer (some ⟨g33, 9, none⟩)) (want_none rfl) rfl rfl (by kernel_rfl) ?_
  have b123 := (b117.kp k121)
  refine wl_store (.agg #[(.int .i64 ((F_laws_toAddr x_a.A).Host)), (.int .i64 ((F_laws_toAddr x_a.A).Port))]) [(.int .i64 ((F_laws_toAddr x_a.A).Host)), (.int .i64 ((F_laws_toAddr x_a.A).Port))] [(.int .i64 x_a.Kind), (.int .i64 x_a.Id), (.int .i64 x_a.Role), (.slice a56 (cpB x_a.Cn).length c57), (.slice a70 (cpB x_a.Sn).length c71), (.int .i64 x_a.Epoch), (.int .i64 x_a.Seq), (.slice a94 (cpB x_a.Body).length c95), (.slice a108 (cpB x_a.Key).length c109), (.int .i64 ((F_laws_toAddr x_a.A).Host)), (.int .i64 ((F_laws_toAddr x_a.A).Port)), (.int .i64 0)] (want_none rfl) rfl rfl rfl rfl rfl (one_cons rfl (one_cons rfl one_nil)) sizeOf_61 b123 rfl rfl ?_
  intro w18 k124 b125 z126
  have m127 := m122.ext k124 (fun k hk => by subst hk; exact Nat.le_trans (Nat.le_trans k24.size k30.size) p34)
  refine wl_nil ?_
  refine wq_then ?_
  refine wc_seq ?_
  refine wc_region ?_
  refine wl_pure (.pointer (some ⟨g21, 11, none⟩)) (want_none rfl) rfl rfl (by kernel_rfl) ?_
  have b128 := ((b120.kp k121).ch k124 (Nat.ne_of_lt (Nat.lt_of_lt_of_le p23 (Nat.le_trans k30.size p34))))
  refine wl_load1 (.int .i64 x_a.Now) (want_none rfl) rfl rfl rfl rfl isAgg_3 b128 rfl ?_
  refine wl_pure (.pointer (some ⟨g33, 11, none⟩)) (want_none rfl) rfl rfl (by kernel_rfl) ?_
  refine wl_store (.int .i64 x_a.Now) [(.int .i64 x_a.Now)] [(.int .i64 x_a.Kind), (.int .i64 x_a.Id), (.int .i64 x_a.Role), (.slice a56 (cpB x_a.Cn).length c57), (.slice a70 (cpB x_a.Sn).length c71), (.int .i64 x_a.Epoch), (.int .i64 x_a.Seq), (.slice a94 (cpB x_a.Body).length c95), (.slice a108 (cpB x_a.Key).length c109), (.int .i64 ((F_laws_toAddr x_a.A).Host)), (.int .i64 ((F_laws_toAddr x_a.A).Port)), (.int .i64 x_a.Now)] (want_none rfl) rfl rfl rfl rfl rfl (one_cons rfl one_nil) sizeOf_3 b125 rfl rfl ?_
  intro w19 k129 b130 z131
  have m132 := m127.ext k129 (fun k hk => by subst hk; exact Nat.le_trans (Nat.le_trans k24.size k30.size) p34)
  refine wl_nil ?_
  refine wq_then ?_
  refine wc_seq ?_
  refine wc_region ?_
  refine wl_loadN [(.int .i64 x_a.Kind), (.int .i64 x_a.Id), (.int .i64 x_a.Role), (.slice a56 (cpB x_a.Cn).length c57), (.slice a70 (cpB x_a.Sn).length c71), (.int .i64 x_a.Epoch), (.int .i64 x_a.Seq), (.slice a94 (cpB x_a.Body).length c95), (.slice a108 (cpB x_a.Key).length c109), (.int .i64 ((F_laws_toAddr x_a.A).Host)), (.int .i64 ((F_laws_toAddr x_a.A).Port)), (.int .i64 x_a.Now)] (want_none rfl) rfl rfl rfl rfl isAgg_63 sizeOf_63 b130 rfl ?_
  have b133 := (((((((((((((((((b31.kp k36).ch k40 (Nat.ne_of_lt (Nat.lt_of_lt_of_le p29 (Nat.le_trans (Nat.le_refl _) p34)))).ch k45 (Nat.ne_of_lt (Nat.lt_of_lt_of_le p29 (Nat.le_trans (Nat.le_refl _) p34)))).ch k50 (Nat.ne_of_lt (Nat.lt_of_lt_of_le p29 (Nat.le_trans (Nat.le_refl _) p34)))).kp k55).ch k64 (Nat.ne_of_lt (Nat.lt_of_lt_of_le p29 (Nat.le_trans (Nat.le_refl _) p34)))).kp k69).ch k78 (Nat.ne_of_lt (Nat.lt_of_lt_of_le p29 (Nat.le_trans (Nat.le_refl _) p34)))).ch k83 (Nat.ne_of_lt (Nat.lt_of_lt_of_le p29 (Nat.le_trans (Nat.le_refl _) p34)))).ch k88 (Nat.ne_of_lt (Nat.lt_of_lt_of_le p29 (Nat.le_trans (Nat.le_refl _) p34)))).kp k93).ch k102 (Nat.ne_of_lt (Nat.lt_of_lt_of_le p29 (Nat.le_trans (Nat.le_refl _) p34)))).kp k107).ch k116 (Nat.ne_of_lt (Nat.lt_of_lt_of_le p29 (Nat.le_trans (Nat.le_refl _) p34)))).kp k121).ch k124 (Nat.ne_of_lt (Nat.lt_of_lt_of_le p29 (Nat.le_trans (Nat.le_refl _) p34)))).ch k129 (Nat.ne_of_lt (Nat.lt_of_lt_of_le p29 (Nat.le_trans (Nat.le_refl _) p34))))
  refine wl_store (.agg #[(.int .i64 x_a.Kind), (.int .i64 x_a.Id), (.int .i64 x_a.Role), (.slice a56 (cpB x_a.Cn).length c57), (.slice a70 (cpB x_a.Sn).length c71), (.int .i64 x_a.Epoch), (.int .i64 x_a.Seq), (.slice a94 (cpB x_a.Body).length c95), (.slice a108 (cpB x_a.Key).length c109), (.int .i64 ((F_laws_toAddr x_a.A).Host)), (.int .i64 ((F_laws_toAddr x_a.A).Port)), (.int .i64 x_a.Now)]) [(.int .i64 x_a.Kind), (.int .i64 x_a.Id), (.int .i64 x_a.Role), (.slice a56 (cpB x_a.Cn).length c57), (.slice a70 (cpB x_a.Sn).length c71), (.int .i64 x_a.Epoch), (.int .i64 x_a.Seq), (.slice a94 (cpB x_a.Body).length c95), (.slice a108 (cpB x_a.Key).length c109), (.int .i64 ((F_laws_toAddr x_a.A).Host)), (.int .i64 ((F_laws_toAddr x_a.A).Port)), (.int .i64 x_a.Now)] [(.int .i64 x_a.Kind), (.int .i64 x_a.Id), (.int .i64 x_a.Role), (.slice a56 (cpB x_a.Cn).length c57), (.slice a70 (cpB x_a.Sn).length c71), (.int .i64 x_a.Epoch), (.int .i64 x_a.Seq), (.slice a94 (cpB x_a.Body).length c95), (.slice a108 (cpB x_a.Key).length c109), (.int .i64 ((F_laws_toAddr x_a.A).Host)), (.int .i64 ((F_laws_toAddr x_a.A).Port)), (.int .i64 x_a.Now)] (want_none rfl) rfl rfl rfl rfl rfl (one_cons rfl (one_cons rfl (one_cons rfl (one_cons rfl (one_cons rfl (one_cons rfl (one_cons rfl (one_cons rfl (one_cons rfl (one_cons rfl (one_cons rfl (one_cons rfl one_nil)))))))))))) sizeOf_63 b133 rfl rfl ?_
  intro w20 k134 b135 z136
  have m137 := m132.ext k134 (fun k hk => by subst hk; exact Nat.le_trans k24.size p28)
  refine wl_nil ?_
  refine wq_then ?_
  refine wc_ret ?_
  have o138 := (own_ch (own_ch (own_ch (own_kp (own_ch (own_kp (own_ch (own_kp (own_ch (own_ch (own_ch (own_kp (own_ch o58 k64 (fun g hg hlt hk => by have h1 := (own_lt o58 g hg).1; have h2 := Nat.lt_of_lt_of_le p35 (Nat.le_trans (Nat.le_trans k40.size k45.size) k50.size); omega)) k69) k78 (fun g hg hlt hk => by have h1 := (own_lt o58 g hg).1; have h2 := Nat.lt_of_lt_of_le p35 (Nat.le_trans (Nat.le_trans k40.size k45.size) k50.size); omega)) k83 (fun g hg hlt hk => by have h1 := (own_lt o58 g hg).1; have h2 := Nat.lt_of_lt_of_le p35 (Nat.le_trans (Nat.le_trans k40.size k45.size) k50.size); omega)) k88 (fun g hg hlt hk => by have h1 := (own_lt o58 g hg).1; have h2 := Nat.lt_of_lt_of_le p35 (Nat.le_trans (Nat.le_trans k40.size k45.size) k50.size); omega)) k93) k102 (fun g hg hlt hk => by have h1 := (own_lt o58 g hg).1; have h2 := Nat.lt_of_lt_of_le p35 (Nat.le_trans (Nat.le_trans k40.size k45.size) k50.size); omega)) k107) k116 (fun g hg hlt hk => by have h1 := (own_lt o58 g hg).1; have h2 := Nat.lt_of_lt_of_le p35 (Nat.le_trans (Nat.le_trans k40.size k45.size) k50.size); omega)) k121) k124 (fun g hg hlt hk => by have h1 := (own_lt o58 g hg).1; have h2 := Nat.lt_of_lt_of_le p35 (Nat.le_trans (Nat.le_trans k40.size k45.size) k50.size); omega)) k129 (fun g hg hlt hk => by have h1 := (own_lt o58 g hg).1; have h2 := Nat.lt_of_lt_of_le p35 (Nat.le_trans (Nat.le_trans k40.size k45.size) k50.size); omega)) k134 (fun g hg hlt hk => by have h1 := (own_lt o58 g hg).1; have h2 := Nat.lt_of_lt_of_le p29 (Nat.le_trans (Nat.le_trans (Nat.le_trans k36.size k40.size) k45.size) k50.size); omega))
  have o139 := (own_ch (own_ch (own_ch (own_kp (own_ch (own_kp (own_ch (own_kp (own_ch (own_ch (own_ch o72 k78 (fun g hg hlt hk => by have h1 := (own_lt o72 g hg).1; have h2 := Nat.lt_of_lt_of_le p35 (Nat.le_trans (Nat.le_trans (Nat.le_trans (Nat.le_trans k40.size k45.size) k50.size) k55.size) k64.size); omega)) k83 (fun g hg hlt hk => by have h1 := (own_lt o72 g hg).1; have h2 := Nat.lt_of_lt_of_le p35 (Nat.le_trans (Nat.le_trans (Nat.le_trans (Nat.le_trans k40.size k45.size) k50.size) k55.size) k64.size); omega)) k88 (fun g hg hlt hk => by have h1 := (own_lt o72 g hg).1; have h2 := Nat.lt_of_lt_of_le p35 (Nat.le_trans (Nat.le_trans (Nat.le_trans (Nat.le_trans k40.size k45.size) k50.size) k55.size) k64.size); omega)) k93) k102 (fun g hg hlt hk => by have h1 := (own_lt o72 g hg).1; have h2 := Nat.lt_of_lt_of_le p35 (Nat.le_trans (Nat.le_trans (Nat.le_trans (Nat.le_trans k40.size k45.size) k50.size) k55.size) k64.size); omega)) k107) k116 (fun g hg hlt hk => by have h1 := (own_lt o72 g hg).1; have h2 := Nat.lt_of_lt_of_le p35 (Nat.le_trans (Nat.le_trans (Nat.le_trans (Nat.le_trans k40.size k45.size) k50.size) k55.size) k64.size); omega)) k121) k124 (fun g hg hlt hk => by have h1 := (own_lt o72 g hg).1; have h2 := Nat.lt_of_lt_of_le p35 (Nat.le_trans (Nat.le_trans (Nat.le_trans (Nat.le_trans k40.size k45.size) k50.size) k55.size) k64.size); omega)) k129 (fun g hg hlt hk => by have h1 := (own_lt o72 g hg).1; have h2 := Nat.lt_of_lt_of_le p35 (Nat.le_trans (Nat.le_trans (Nat.le_trans (Nat.le_trans k40.size k45.size) k50.size) k55.size) k64.size); omega)) k134 (fun g hg hlt hk => by have h1 := (own_lt o72 g hg).1; have h2 := Nat.lt_of_lt_of_le p29 (Nat.le_trans (Nat.le_trans (Nat.le_trans (Nat.le_trans (Nat.le_trans k36.size k40.size) k45.size) k50.size) k55.size) k64.size); omega))
  have o140 := (own_ch (own_ch (own_ch (own_kp (own_ch (own_kp (own_ch o96 k102 (fun g hg hlt hk => by have h1 := (own_lt o96 g hg).1; have h2 := Nat.lt_of_lt_of_le p35 (Nat.le_trans (Nat.le_trans (Nat.le_trans (Nat.le_trans (Nat.le_trans (Nat.le_trans (Nat.le_trans (Nat.le_trans k40.size k45.size) k50.size) k55.size) k64.size) k69.size) k78.size) k83.size) k88.size); omega)) k107) k116 (fun g hg hlt hk => by have h1 := (own_lt o96 g hg).1; have h2 := Nat.lt_of_lt_of_le p35 (Nat.le_trans (Nat.le_trans (Nat.le_trans (Nat.le_trans (Nat.le_trans (Nat.le_trans (Nat.le_trans (Nat.le_trans k40.size k45.size) k50.size) k55.size) k64.size) k69.size) k78.size) k83.size) k88.size); omega)) k121) k124 (fun g hg hlt hk => by have h1 := (own_lt o96 g hg).1; have h2 := Nat.lt_of_lt_of_le p35 (Nat.le_trans (Nat.le_trans (Nat.le_trans (Nat.le_trans (Nat.le_trans (Nat.le_trans (Nat.le_trans (Nat.le_trans k40.size k45.size) k50.size) k55.size) k64.size) k69.size) k78.size) k83.size) k88.size); omega)) k129 (fun g hg hlt hk => by have h1 := (own_lt o96 g hg).1; have h2 := Nat.lt_of_lt_of_le p35 (Nat.le_trans (Nat.le_trans (Nat.le_trans (Nat.le_trans (Nat.le_trans (Nat.le_trans (Nat.le_trans (Nat.le_trans k40.size k45.size) k50.size) k55.size) k64.size) k69.size) k78.size) k83.size) k88.size); omega)) k134 (fun g hg hlt hk => by have h1 := (own_lt o96 g hg).1; have h2 := Nat.lt_of_lt_of_le p29 (Nat.le_trans (Nat.le_trans (Nat.le_trans (Nat.le_trans (Nat.le_trans (Nat.le_trans (Nat.le_trans (Nat.le_trans (Nat.le_trans k36.size k40.size) k45.size) k50.size) k55.size) k64.size) k69.size) k78.size) k83.size) k88.size); omega))
  have o141 := (own_ch (own_ch (own_ch (own_kp (own_ch o110 k116 (fun g hg hlt hk => by have h1 := (own_lt o110 g hg).1; have h2 := Nat.lt_of_lt_of_le p35 (Nat.le_trans (Nat.le_trans (Nat.le_trans (Nat.le_trans (Nat.le_trans (Nat.le_trans (Nat.le_trans (Nat.le_trans (Nat.le_trans (Nat.le_trans k40.size k45.size) k50.size) k55.size) k64.size) k69.size) k78.size) k83.size) k88.size) k93.size) k102.size); omega)) k121) k124 (fun g hg hlt hk => by have h1 := (own_lt o110 g hg).1; have h2 := Nat.lt_of_lt_of_le p35 (Nat.le_trans (Nat.le_trans (Nat.le_trans (Nat.le_trans (Nat.le_trans (Nat.le_trans (Nat.le_trans (Nat.le_trans (Nat.le_trans (Nat.le_trans k40.size k45.size) k50.size) k55.size) k64.size) k69.size) k78.size) k83.size) k88.size) k93.size) k102.size); omega)) k129 (fun g hg hlt hk => by have h1 := (own_lt o110 g hg).1; have h2 := Nat.lt_of_lt_of_le p35 (Nat.le_trans (Nat.le_trans (Nat.le_trans (Nat.le_trans (Nat.le_trans (Nat.le_trans (Nat.le_trans (Nat.le_trans (Nat.le_trans (Nat.le_trans k40.size k45.size) k50.size) k55.size) k64.size) k69.size) k78.size) k83.size) k88.size) k93.size) k102.size); omega)) k134 (fun g hg hlt hk => by have h1 := (own_lt o110 g hg).1; have h2 := Nat.lt_of_lt_of_le p29 (Nat.le_trans (Nat.le_trans (Nat.le_trans (Nat.le_trans (Nat.le_trans (Nat.le_trans (Nat.le_trans (Nat.le_trans (Nat.le_trans (Nat.le_trans (Nat.le_trans k36.size k40.size) k45.size) k50.size) k55.size) k64.size) k69.size) k78.size) k83.size) k88.size) k93.size) k102.size); omega))
  refine ret_1 (.inl rfl) (.agg #[(.int .i64 x_a.Kind), (.int .i64 x_a.Id), (.int .i64 x_a.Role), (.slice a56 (cpB x_a.Cn).length c57), (.slice a70 (cpB x_a.Sn).length c71), (.int .i64 x_a.Epoch), (.int .i64 x_a.Seq), (.slice a94 (cpB x_a.Body).length c95), (.slice a108 (cpB x_a.Key).length c109), (.int .i64 ((F_laws_toAddr x_a.A).Host)), (.int .i64 ((F_laws_toAddr x_a.A).Port)), (.int .i64 x_a.Now)]) rfl (rv_c [(.int .i64 x_a.Kind), (.int .i64 x_a.Id), (.int .i64 x_a.Role), (.slice a56 (cpB x_a.Cn).length c57), (.slice a70 (cpB x_a.Sn).length c71), (.int .i64 x_a.Epoch), (.int .i64 x_a.Seq), (.slice a94 (cpB x_a.Body).length c95), (.slice a108 (cpB x_a.Key).length c109), (.int .i64 ((F_laws_toAddr x_a.A).Host)), (.int .i64 ((F_laws_toAddr x_a.A).Port)), (.int .i64 x_a.Now)] rfl b135 isAgg_63 sizeOf_63) ?_
  refine ⟨m137.keep0, ?_⟩
  have hF142 : F_laws_toNote x_a = { Kind := x_a.Kind, Id := x_a.Id, Role := x_a.Role, Cn := (cpB x_a.Cn), Sn := (cpB x_a.Sn), Epoch := x_a.Epoch, Seq := x_a.Seq, Body := (cpB x_a.Body), Key := (cpB x_a.Key), A := (F_laws_toAddr x_a.A), Now := x_a.Now : PNote } := by rfl
  rw [hF142]
  exact ⟨_, _, _, _, _, _, _, _, rfl, (own_lo o138 (Nat.le_trans (Nat.le_trans (Nat.le_trans (Nat.le_trans (Nat.le_trans k24.size k30.size) k36.size) k40.size) k45.size) k50.size)), s59, (own_lo o139 (Nat.le_trans (Nat.le_trans (Nat.le_trans (Nat.le_trans (Nat.le_trans (Nat.le_trans (Nat.le_trans k24.size k30.size) k36.size) k40.size) k45.size) k50.size) k55.size) k64.size)), s73, (own_lo o140 (Nat.le_trans (Nat.le_trans (Nat.le_trans (Nat.le_trans (Nat.le_trans (Nat.le_trans (Nat.le_trans (Nat.le_trans (Nat.le_trans (Nat.le_trans (Nat.le_trans k24.size k30.size) k36.size) k40.size) k45.size) k50.size) k55.size) k64.size) k69.size) k78.size) k83.size) k88.size)), s97, (own_lo o141 (Nat.le_trans (Nat.le_trans (Nat.le_trans (Nat.le_trans (Nat.le_trans (Nat.le_trans (Nat.le_trans (Nat.le_trans (Nat.le_trans (Nat.le_trans (Nat.le_trans (Nat.le_trans (Nat.le_trans k24.size k30.size) k36.size) k40.size) k45.size) k50.size) k55.size) k64.size) k69.size) k78.size) k83.size) k88.size) k93.size) k102.size)), s111, ⟨⟨(Ap.lt o58 o72 k64.size), ⟨(Ap.lt o58 o96 (Nat.le_trans (Nat.le_trans (Nat.le_trans (Nat.le_trans k64.size k69.size) k78.size) k83.size) k88.size)), ⟨(Ap.lt o58 o110 (Nat.le_trans (Nat.le_trans (Nat.le_trans (Nat.le_trans (Nat.le_trans (Nat.le_trans k64.size k69.size) k78.size) k83.size) k88.size) k93.size) k102.size)), trivial⟩⟩⟩, ⟨⟨(Ap.lt o72 o96 (Nat.le_trans (Nat.le_trans k78.size k83.size) k88.size)), ⟨(Ap.lt o72 o110 (Nat.le_trans (Nat.le_trans (Nat.le_trans (Nat.le_trans k78.size k83.size) k88.size) k93.size) k102.size)), trivial⟩⟩, ⟨⟨(Ap.lt o96 o110 k102.size), trivial⟩, ⟨trivial, trivial⟩⟩⟩⟩⟩

theorem guardt_61 : Try.prog.eqGuardType Try.prog.depth 61 = false := by kernel_rfl
theorem aggeq_61 (x0 y0 : Int) (x1 y1 : Int) (w : World) : (Op.equalIn 10000 61 (.agg #[.int .i64 x0, .int .i64 x1]) (.agg #[.int .i64 y0, .int .i64 y1])).run Try.prog w = .ok ((decide (x0 = y0) && decide (x1 = y1))) w := by
  rw [run_equalIn_struct w 9999 61 _ _ (by kernel_rfl) (by kernel_rfl)]
  simp [Program.fieldsOf, Op.eqFields, go_sem, Try.underlying3, Try.underlying61]
  by_cases h0 : x0 = y0 <;> by_cases h1 : x1 = y1 <;> simp [*]
def R_63 (w : World) (v : Value) (x : (PNote)) : Prop := ∃ (a1 : Option Addr) (c1 : Nat) (a2 : Option Addr) (c2 : Nat) (a3 : Option Addr) (c3 : Nat) (a4 : Option Addr) (c4 : Nat), v = .agg #[.int .i64 x.Kind, .int .i64 x.Id, .int .i64 x.Role, .slice a1 x.Cn.length c1, .slice a2 x.Sn.length c2, .int .i64 x.Epoch, .int .i64 x.Seq, .slice a3 x.Body.length c3, .slice a4 x.Key.length c4, .int .i64 x.A.Host, .int .i64 x.A.Port, .int .i64 x.Now] ∧ Rd w 1 (.slice a1 x.Cn.length c1) x.Cn.length (x.Cn.map bV) ∧ x.Cn.length ≤ 1073741824 ∧ Rd w 1 (.slice a2 x.Sn.length c2) x.Sn.length (x.Sn.map bV) ∧ x.Sn.length ≤ 1073741824 ∧ Rd w 1 (.slice a3 x.Body.length c3) x.Body.length (x.Body.map bV) ∧ x.Body.length ≤ 1073741824 ∧ Rd w 1 (.slice a4 x.Key.length c4) x.Key.length (x.Key.map bV) ∧ x.Key.length ≤ 1073741824
def R_61 (w : World) (v : Value) (x : (PAddr)) : Prop := v = .agg #[.int .i64 x.Host, .int .i64 x.Port]
def F_laws_eqAddr (x_a : PAddr) (x_b : PAddr) : (Bool) := bif (decide (x_a.Host = x_b.Host)) then (bif (decide (x_a.Port = x_b.Port)) then (true) else (false)) else (false)
theorem C_laws_eqAddr (w0 : World) (v_x_a : Value) (x_a : PAddr) (r_x_a : R_61 w0 v_x_a x_a) (v_x_b : Value) (x_b : PAddr) (r_x_b : R_61 w0 v_x_b x_b)  : Fn Try.prog 86 #[v_x_a, v_x_b] w0 (fun v w' => Keep w0 w' ∧ O_4 w' w0.heap.size v (F_laws_eqAddr x_a x_b)) := by
  obtain rfl := r_x_a
  obtain rfl := r_x_b
  refine fn_of (n := 15) (l := [(.agg #[(.int .i64 x_a.Host), (.int .i64 x_a.Port)]), (.agg #[(.int .i64 x_b.Host), (.int .i64 x_b.Port)]), undef, undef, undef, undef, undef, undef, undef, undef, undef, undef, undef, undef, undef]) Try.func86 rfl rfl (by kernel_rfl) rfl ?_
  refine wc_seq ?_
  refine wc_region ?_
  refine wl_box (want_none rfl) [(.int .i64 x_a.Host), (.int .i64 x_a.Port)] rfl rfl rfl rfl ?_
  intro g1 w1 p2 p3 k4 b5
  have m6 := (Ch.base w0).extk k4
  refine wl_box (want_none rfl) [(.int .i64 x_b.Host), (.int .i64 x_b.Port)] rfl rfl rfl rfl ?_
  intro g7 w2 p8 p9 k10 b11
  have m12 := m6.extk k10
  refine wl_mv (.bool false) (want_none rfl) rfl rfl (.inr rfl) rfl ?_
  refine wl_nil ?_
  refine wq_then ?_
  refine wc_seq ?_
  refine wc_seq ?_
  refine wc_region ?_
  refine wl_pure (.pointer (some ⟨g1, 0, none⟩)) (want_none rfl) rfl rfl (by kernel_rfl) ?_
  have b13 := (b5.kp k10)
  refine wl_load1 (.int .i64 x_a.Host) (want_none rfl) rfl rfl rfl rfl isAgg_3 b13 rfl ?_
  refine wl_pure (.pointer (some ⟨g7, 0, none⟩)) (want_none rfl) rfl rfl (by kernel_rfl) ?_
  refine wl_load1 (.int .i64 x_b.Host) (want_none rfl) rfl rfl rfl rfl isAgg_3 b11 rfl ?_
  refine wl_pure (.bool (!(decide (x_a.Host = x_b.Host)))) (want_none rfl) rfl rfl (by kernel_rfl) ?_
  refine wl_nil ?_
  refine wq_then ?_
  rcases Bool.eq_false_or_eq_true (decide (x_a.Host = x_b.Host)) with h14 | h14
  · have q15 := of_decide_eq_true h14
    refine wc_false (congrArg (fun b => Value.bool (!b)) h14) ?_
    refine wc_skip ?_
    refine wq_then ?_
    refine wc_seq ?_
    refine wc_seq ?_
    refine wc_region ?_
    refine wl_pure (.pointer (some ⟨g1, 1, none⟩)) (want_none rfl) rfl rfl (by kernel_rfl) ?_
    refine wl_load1 (.int .i64 x_a.Port) (want_none rfl) rfl rfl rfl rfl isAgg_3 b13 rfl ?_
    refine wl_pure (.pointer (some ⟨g7, 1, none⟩)) (want_none rfl) rfl rfl (by kernel_rfl) ?_
    refine wl_load1 (.int .i64 x_b.Port) (want_none rfl) rfl rfl rfl rfl isAgg_3 b11 rfl ?_
    refine wl_pure (.bool (!(decide (x_a.Port = x_b.Port)))) (want_none rfl) rfl rfl (by kernel_rfl) ?_
    refine wl_nil ?_
    refine wq_then ?_
    rcases Bool.eq_false_or_eq_true (decide (x_a.Port = x_b.Port)) with h16 | h16
    · have q17 := of_decide_eq_true h16
      refine wc_false (congrArg (fun b => Value.bool (!b)) h16) ?_
      refine wc_skip ?_
      refine wq_then ?_
      refine wc_seq ?_
      refine wc_region ?_
      refine wl_mv (.bool true) (want_none rfl) rfl rfl (.inr rfl) rfl ?_
      refine wl_nil ?_
      refine wq_then ?_
      refine wc_ret ?_
      refine ret_1 (.inl rfl) (.bool true) rfl rfl ?_
      refine ⟨m12.keep0, ?_⟩
      have hF18 : F_laws_eqAddr x_a x_b = true := by simp only [F_laws_eqAddr, h14, h16, cond_true, cond_false]
      rw [hF18]
      exact rfl
    · have q19 := of_decide_eq_false h16
      refine wc_true (congrArg (fun b => Value.bool (!b)) h16) ?_
      refine wc_seq ?_
      refine wc_region ?_
      refine wl_mv (.bool false) (want_none rfl) rfl rfl (.inr rfl) rfl ?_
      refine wl_nil ?_
      refine wq_then ?_
      refine wc_ret ?_
      refine wq_then_ret ?_
      refine ret_1 (.inl rfl) (.bool false) rfl rfl ?_
      refine ⟨m12.keep0, ?_⟩
      have hF20 : F_laws_eqAddr x_a x_b = false := by simp only [F_laws_eqAddr, h14, h16, cond_true, cond_false]
      rw [hF20]
      exact rfl
  · have q21 := of_decide_eq_false h14
    refine wc_true (congrArg (fun b => Value.bool (!b)) h14) ?_
    refine wc_seq ?_
    refine wc_region ?_
    refine wl_mv (.bool false) (want_none rfl) rfl rfl (.inr rfl) rfl ?_
    refine wl_nil ?_
    refine wq_then ?_
    refine wc_ret ?_
    refine wq_then_ret ?_
    refine ret_1 (.inl rfl) (.bool false) rfl rfl ?_
    refine ⟨m12.keep0, ?_⟩
    have hF22 : F_laws_eqAddr x_a x_b = false := by simp only [F_laws_eqAddr, h14, cond_true, cond_false]
    rw [hF22]
    exact rfl

def F_laws_eqNote (x_a : PNote) (x_b : PNote) : (Bool) := bif (decide (x_a.Kind = x_b.Kind)) then (bif (decide (x_a.Id = x_b.Id)) then (bif (decide (x_a.Role = x_b.Role)) then (bif (eqB x_a.Cn x_b.Cn) then (bif (eqB x_a.Sn x_b.Sn) then (bif (decide (x_a.Epoch = x_b.Epoch)) then (bif (decide (x_a.Seq = x_b.Seq)) then (bif (eqB x_a.Body x_b.Body) then (bif (eqB x_a.Key x_b.Key) then (bif (F_laws_eqAddr x_a.A x_b.A) then (bif (decide (x_a.Now = x_b.Now)) then (true) else (false)) else (false)) else (false)) else (false)) else (false)) else (false)) else (false)) else (false)) else (false)) else (false)) else (false)
theorem C_laws_eqNote (w0 : World) (v_x_a : Value) (x_a : PNote) (r_x_a : R_63 w0 v_x_a x_a) (v_x_b : Value) (x_b : PNote) (r_x_b : R_63 w0 v_x_b x_b)  : Fn Try.prog 43 #[v_x_a, v_x_b] w0 (fun v w' => Keep w0 w' ∧ O_4 w' w0.heap.size v (F_laws_eqNote x_a x_b)) := by
  obtain ⟨a1, c2, a6, c7, a11, c12, a16, c17, rfl, r3, s4, r8, s9, r13, s14, r18, s19⟩ := r_x_a
  obtain ⟨a21, c22, a26, c27, a31, c32, a36, c37, rfl, r23, s24, r28, s29, r33, s34, r38, s39⟩ := r_x_b
  refine fn_of (n := 65) (l := [(.agg #[(.int .i64 x_a.Kind), (.int .i64 x_a.Id), (.int .i64 x_a.Role), (.slice a1 x_a.Cn.length c2), (.slice a6 x_a.Sn.length c7), (.int .i64 x_a.Epoch), (.int .i64 x_a.Seq), (.slice a11 x_a.Body.length c12), (.slice a16 x_a.Key.length c17), (.int .i64 x_a.A.Host), (.int .i64 x_a.A.Port), (.int .i64 x_a.Now)]), (.agg #[(.int .i64 x_b.Kind), (.int .i64 x_b.Id), (.int .i64 x_b.Role), (.slice a21 x_b.Cn.length c22), (.slice a26 x_b.Sn.length c27), (.int .i64 x_b.Epoch), (.int .i64 x_b.Seq), (.slice a31 x_b.Body.length c32), (.slice a36 x_b.Key.length c37), (.int .i64 x_b.A.Host), (.int .i64 x_b.A.Port), (.int .i64 x_b.Now)]), undef, undef, undef, undef, undef, undef, undef, undef, undef, undef, undef, undef, undef, undef, undef, undef, undef, undef, undef, undef, undef, undef, undef, undef, undef, undef, undef, undef, undef, undef, undef, undef, undef, undef, undef, undef, undef, undef, undef, undef, undef, undef, undef, undef, undef, undef, undef, undef, undef, undef, undef, undef, undef, undef, undef, undef, undef, undef, undef, undef, undef, undef, undef]) Try.func43 rfl rfl (by kernel_rfl) rfl ?_
  refine wc_seq ?_
  refine wc_region ?_
  refine wl_box (want_none rfl) [(.int .i64 x_a.Kind), (.int .i64 x_a.Id), (.int .i64 x_a.Role), (.slice a1 x_a.Cn.length c2), (.slice a6 x_a.Sn.length c7), (.int .i64 x_a.Epoch), (.int .i64 x_a.Seq), (.slice a11 x_a.Body.length c12), (.slice a16 x_a.Key.length c17), (.int .i64 x_a.A.Host), (.int .i64 x_a.A.Port), (.int .i64 x_a.Now)] rfl rfl rfl rfl ?_
  intro g41 w1 p42 p43 k44 b45
  have m46 := (Ch.base w0).extk k44
  refine wl_box (want_none rfl) [(.int .i64 x_b.Kind), (.int .i64 x_b.Id), (.int .i64 x_b.Role), (.slice a21 x_b.Cn.length c22), (.slice a26 x_b.Sn.length c27), (.int .i64 x_b.Epoch), (.int .i64 x_b.Seq), (.slice a31 x_b.Body.length c32), (.slice a36 x_b.Key.length c37), (.int .i64 x_b.A.Host), (.int .i64 x_b.A.Port), (.int .i64 x_b.Now)] rfl rfl rfl rfl ?_
  intro g47 w2 p48 p49 k50 b51
  have m52 := m46.extk k50
  refine wl_mv (.bool false) (want_none rfl) rfl rfl (.inr rfl) rfl ?_
  refine wl_nil ?_
  refine wq_then ?_
  refine wc_seq ?_
  refine wc_seq ?_
  refine wc_region ?_
  refine wl_pure (.pointer (some ⟨g41, 0, none⟩)) (want_none rfl) rfl rfl (by kernel_rfl) ?_
  have b53 := (b45.kp k50)
  refine wl_load1 (.int .i64 x_a.Kind) (want_none rfl) rfl rfl rfl rfl isAgg_3 b53 rfl ?_
  refine wl_pure (.pointer (some ⟨g47, 0, none⟩)) (want_none rfl) rfl rfl (by kernel_rfl) ?_
  refine wl_load1 (.int .i64 x_b.Kind) (want_none rfl) rfl rfl rfl rfl isAgg_3 b51 rfl ?_
  refine wl_pure (.bool (!(decide (x_a.Kind = x_b.Kind)))) (want_none rfl) rfl rfl (by kernel_rfl) ?_
  refine wl_nil ?_
  refine wq_then ?_
  rcases Bool.eq_false_or_eq_true (decide (x_a.Kind = x_b.Kind)) with h54 | h54
  · have q55 := of_decide_eq_true h54
    refine wc_false (congrArg (fun b => Value.bool (!b)) h54) ?_
    refine wc_skip ?_
    refine wq_then ?_
    refine wc_seq ?_
    refine wc_seq ?_
    refine wc_region ?_
    refine wl_pure (.pointer (some ⟨g41, 1, none⟩)) (want_none rfl) rfl rfl (by kernel_rfl) ?_
    refine wl_load1 (.int .i64 x_a.Id) (want_none rfl) rfl rfl rfl rfl isAgg_3 b53 rfl ?_
    refine wl_pure (.pointer (some ⟨g47, 1, none⟩)) (want_none rfl) rfl rfl (by kernel_rfl) ?_
    refine wl_load1 (.int .i64 x_b.Id) (want_none rfl) rfl rfl rfl rfl isAgg_3 b51 rfl ?_
    refine wl_pure (.bool (!(decide (x_a.Id = x_b.Id)))) (want_none rfl) rfl rfl (by kernel_rfl) ?_
    refine wl_nil ?_
    refine wq_then ?_
    rcases Bool.eq_false_or_eq_true (decide (x_a.Id = x_b.Id)) with h56 | h56
    · have q57 := of_decide_eq_true h56
      refine wc_false (congrArg (fun b => Value.bool (!b)) h56) ?_
      refine wc_skip ?_
      refine wq_then ?_
      refine wc_seq ?_
      refine wc_seq ?_
      refine wc_region ?_
      refine wl_pure (.pointer (some ⟨g41, 2, none⟩)) (want_none rfl) rfl rfl (by kernel_rfl) ?_
      refine wl_load1 (.int .i64 x_a.Role) (want_none rfl) rfl rfl rfl rfl isAgg_3 b53 rfl ?_
      refine wl_pure (.pointer (some ⟨g47, 2, none⟩)) (want_none rfl) rfl rfl (by kernel_rfl) ?_
      refine wl_load1 (.int .i64 x_b.Role) (want_none rfl) rfl rfl rfl rfl isAgg_3 b51 rfl ?_
      refine wl_pure (.bool (!(decide (x_a.Role = x_b.Role)))) (want_none rfl) rfl rfl (by kernel_rfl) ?_
      refine wl_nil ?_
      refine wq_then ?_
      rcases Bool.eq_false_or_eq_true (decide (x_a.Role = x_b.Role)) with h58 | h58
      · have q59 := of_decide_eq_true h58
        refine wc_false (congrArg (fun b => Value.bool (!b)) h58) ?_
        refine wc_skip ?_
        refine wq_then ?_
        refine wc_seq ?_
        refine wc_seq ?_
        refine wc_region ?_
        refine wl_pure (.pointer (some ⟨g41, 3, none⟩)) (want_none rfl) rfl rfl (by kernel_rfl) ?_
        refine wl_load1 (.slice a1 x_a.Cn.length c2) (want_none rfl) rfl rfl rfl rfl isAgg_22 b53 rfl ?_
        refine wl_pure (.pointer (some ⟨g47, 3, none⟩)) (want_none rfl) rfl rfl (by kernel_rfl) ?_
        refine wl_load1 (.slice a21 x_b.Cn.length c22) (want_none rfl) rfl rfl rfl rfl isAgg_22 b51 rfl ?_
        refine wl_call (want_none rfl) (args := #[(.slice a1 x_a.Cn.length c2), (.slice a21 x_b.Cn.length c22)]) rfl rfl (by kernel_rfl) (C_laws_eqByteS w2 (.slice a1 x_a.Cn.length c2) x_a.Cn (show R_22 w2 (.slice a1 x_a.Cn.length c2) x_a.Cn from ⟨_, _, rfl, (r3.from0 m52), s4⟩) (.slice a21 x_b.Cn.length c22) x_b.Cn (show R_22 w2 (.slice a21 x_b.Cn.length c22) x_b.Cn from ⟨_, _, rfl, (r23.from0 m52), s24⟩)) ?_
        rintro _ w3 ⟨k60, rfl⟩
        have m61 := m52.extk k60
        refine wl_pure (.bool (!(eqB x_a.Cn x_b.Cn))) (want_none rfl) rfl rfl (by kernel_rfl) ?_
        refine wl_nil ?_
        refine wq_then ?_
        rcases Bool.eq_false_or_eq_true (eqB x_a.Cn x_b.Cn) with h62 | h62
        · skip
          refine wc_false (congrArg (fun b => Value.bool (!b)) h62) ?_
          refine wc_skip ?_
          refine wq_then ?_
          refine wc_seq ?_
          refine wc_seq ?_
          refine wc_region ?_
          refine wl_pure (.pointer (some ⟨g41, 4, none⟩)) (want_none rfl) rfl rfl (by kernel_rfl) ?_
          have b64 := (b53.kp k60)
          refine wl_load1 (.slice a6 x_a.Sn.length c7) (want_none rfl) rfl rfl rfl rfl isAgg_22 b64 rfl ?_
          refine wl_pure (.pointer (some ⟨g47, 4, none⟩)) (want_none rfl) rfl rfl (by kernel_rfl) ?_
          have b65 := (b51.kp k60)
          refine wl_load1 (.slice a26 x_b.Sn.length c27) (want_none rfl) rfl rfl rfl rfl isAgg_22 b65 rfl ?_
          refine wl_call (want_none rfl) (args := #[(.slice a6 x_a.Sn.length c7), (.slice a26 x_b.Sn.length c27)]) rfl rfl (by kernel_rfl) (C_laws_eqByteS w3 (.slice a6 x_a.Sn.length c7) x_a.Sn (show R_22 w3 (.slice a6 x_a.Sn.length c7) x_a.Sn from ⟨_, _, rfl, (r8.from0 m61), s9⟩) (.slice a26 x_b.Sn.length c27) x_b.Sn (show R_22 w3 (.slice a26 x_b.Sn.length c27) x_b.Sn from ⟨_, _, rfl, (r28.from0 m61), s29⟩)) ?_
          rintro _ w4 ⟨k66, rfl⟩
          have m67 := m61.extk k66
          refine wl_pure (.bool (!(eqB x_a.Sn x_b.Sn))) (want_none rfl) rfl rfl (by kernel_rfl) ?_
          refine wl_nil ?_
          refine wq_then ?_
          rcases Bool.eq_false_or_eq_true (eqB x_a.Sn x_b.Sn) with h68 | h68
          · skip
            refine wc_false (congrArg (fun b => Value.bool (!b)) h68) ?_
            refine wc_skip ?_
            refine wq_then ?_
            refine wc_seq ?_
            refine wc_seq ?_
            refine wc_region ?_
            refine wl_pure (.pointer (some ⟨g41, 5, none⟩)) (want_none rfl) rfl rfl (by kernel_rfl) ?_
            have b70 := (b64.kp k66)
            refine wl_load1 (.int .i64 x_a.Epoch) (want_none rfl) rfl rfl rfl rfl isAgg_3 b70 rfl ?_
            refine wl_pure (.pointer (some ⟨g47, 5, none⟩)) (want_none rfl) rfl rfl (by kernel_rfl) ?_
            have b71 := (b65.kp k66)
            refine wl_load1 (.int .i64 x_b.Epoch) (want_none rfl) rfl rfl rfl rfl isAgg_3 b71 rfl ?_
            refine wl_pure (.bool (!(decide (x_a.Epoch = x_b.Epoch)))) (want_none rfl) rfl rfl (by kernel_rfl) ?_
            refine wl_nil ?_
            refine wq_then ?_
            rcases Bool.eq_false_or_eq_true (decide (x_a.Epoch = x_b.Epoch)) with h72 | h72
            · have q73 := of_decide_eq_true h72
              refine wc_false (congrArg (fun b => Value.bool (!b)) h72) ?_
              refine wc_skip ?_
              refine wq_then ?_
              refine wc_seq ?_
              refine wc_seq ?_
              refine wc_region ?_
              refine wl_pure (.pointer (some ⟨g41, 6, none⟩)) (want_none rfl) rfl rfl (by kernel_rfl) ?_
              refine wl_load1 (.int .i64 x_a.Seq) (want_none rfl) rfl rfl rfl rfl isAgg_3 b70 rfl ?_
              refine wl_pure (.pointer (some ⟨g47, 6, none⟩)) (want_none rfl) rfl rfl (by kernel_rfl) ?_
              refine wl_load1 (.int .i64 x_b.Seq) (want_none rfl) rfl rfl rfl rfl isAgg_3 b71 rfl ?_
              refine wl_pure (.bool (!(decide (x_a.Seq = x_b.Seq)))) (want_none rfl) rfl rfl (by kernel_rfl) ?_
              refine wl_nil ?_
              refine wq_then ?_
              rcases Bool.eq_false_or_eq_true (decide (x_a.Seq = x_b.Seq)) with h74 | h74
              · have q75 := of_decide_eq_true h74
                refine wc_false (congrArg (fun b => Value.bool (!b)) h74) ?_
                refine wc_skip ?_
                refine wq_then ?_
                refine wc_seq ?_
                refine wc_seq ?_
                refine wc_region ?_
                refine wl_pure (.pointer (some ⟨g41, 7, none⟩)) (want_none rfl) rfl rfl (by kernel_rfl) ?_
                refine wl_load1 (.slice a11 x_a.Body.length c12) (want_none rfl) rfl rfl rfl rfl isAgg_22 b70 rfl ?_
                refine wl_pure (.pointer (some ⟨g47, 7, none⟩)) (want_none rfl) rfl rfl (by kernel_rfl) ?_
                refine wl_load1 (.slice a31 x_b.Body.length c32) (want_none rfl) rfl rfl rfl rfl isAgg_22 b71 rfl ?_
                refine wl_call (want_none rfl) (args := #[(.slice a11 x_a.Body.length c12), (.slice a31 x_b.Body.length c32)]) rfl rfl (by kernel_rfl) (C_laws_eqByteS w4 (.slice a11 x_a.Body.length c12) x_a.Body (show R_22 w4 (.slice a11 x_a.Body.length c12) x_a.Body from ⟨_, _, rfl, (r13.from0 m67), s14⟩) (.slice a31 x_b.Body.length c32) x_b.Body (show R_22 w4 (.slice a31 x_b.Body.length c32) x_b.Body from ⟨_, _, rfl, (r33.from0 m67), s34⟩)) ?_
                rintro _ w5 ⟨k76, rfl⟩
                have m77 := m67.extk k76
                refine wl_pure (.bool (!(eqB x_a.Body x_b.Body))) (want_none rfl) rfl rfl (by kernel_rfl) ?_
                refine wl_nil ?_
                refine wq_then ?_
                rcases Bool.eq_false_or_eq_true (eqB x_a.Body x_b.Body) with h78 | h78
                · skip
                  refine wc_false (congrArg (fun b => Value.bool (!b)) h78) ?_
                  refine wc_skip ?_
                  refine wq_then ?_
                  refine wc_seq ?_
                  refine wc_seq ?_
                  refine wc_region ?_
                  refine wl_pure (.pointer (some ⟨g41, 8, none⟩)) (want_none rfl) rfl rfl (by kernel_rfl) ?_
                  have b80 := (b70.kp k76)
                  refine wl_load1 (.slice a16 x_a.Key.length c17) (want_none rfl) rfl rfl rfl rfl isAgg_22 b80 rfl ?_
                  refine wl_pure (.pointer (some ⟨g47, 8, none⟩)) (want_none rfl) rfl rfl (by kernel_rfl) ?_
                  have b81 := (b71.kp k76)
                  refine wl_load1 (.slice a36 x_b.Key.length c37) (want_none rfl) rfl rfl rfl rfl isAgg_22 b81 rfl ?_
                  refine wl_call (want_none rfl) (args := #[(.slice a16 x_a.Key.length c17), (.slice a36 x_b.Key.length c37)]) rfl rfl (by kernel_rfl) (C_laws_eqByteS w5 (.slice a16 x_a.Key.length c17) x_a.Key (show R_22 w5 (.slice a16 x_a.Key.length c17) x_a.Key from ⟨_, _, rfl, (r18.from0 m77), s19⟩) (.slice a36 x_b.Key.length c37) x_b.Key (show R_22 w5 (.slice a36 x_b.Key.length c37) x_b.Key from ⟨_, _, rfl, (r38.from0 m77), s39⟩)) ?_
                  rintro _ w6 ⟨k82, rfl⟩
                  have m83 := m77.extk k82
                  refine wl_pure (.bool (!(eqB x_a.Key x_b.Key))) (want_none rfl) rfl rfl (by kernel_rfl) ?_
                  refine wl_nil ?_
                  refine wq_then ?_
                  rcases Bool.eq_false_or_eq_true (eqB x_a.Key x_b.Key) with h84 | h84
                  · skip
                    refine wc_false (congrArg (fun b => Value.bool (!b)) h84) ?_
                    refine wc_skip ?_
                    refine wq_then ?_
                    refine wc_seq ?_
                    refine wc_seq ?_
                    refine wc_region ?_
                    refine wl_pure (.pointer (some ⟨g41, 9, none⟩)) (want_none rfl) rfl rfl (by kernel_rfl) ?_
                    have b86 := (b80.kp k82)
                    refine wl_loadN [(.int .i64 x_a.A.Host), (.int .i64 x_a.A.Port)] (want_none rfl) rfl rfl rfl rfl isAgg_61 sizeOf_61 b86 rfl ?_
                    refine wl_pure (.pointer (some ⟨g47, 9, none⟩)) (want_none rfl) rfl rfl (by kernel_rfl) ?_
                    have b87 := (b81.kp k82)
                    refine wl_loadN [(.int .i64 x_b.A.Host), (.int .i64 x_b.A.Port)] (want_none rfl) rfl rfl rfl rfl isAgg_61 sizeOf_61 b87 rfl ?_
                    refine wl_call (want_none rfl) (args := #[(.agg #[(.int .i64 x_a.A.Host), (.int .i64 x_a.A.Port)]), (.agg #[(.int .i64 x_b.A.Host), (.int .i64 x_b.A.Port)])]) rfl rfl (by kernel_rfl) (C_laws_eqAddr w6 (.agg #[(.int .i64 x_a.A.Host), (.int .i64 x_a.A.Port)]) x_a.A (show R_61 w6 (.agg #[(.int .i64 x_a.A.Host), (.int .i64 x_a.A.Port)]) x_a.A from rfl) (.agg #[(.int .i64 x_b.A.Host), (.int .i64 x_b.A.Port)]) x_b.A (show R_61 w6 (.agg #[(.int .i64 x_b.A.Host), (.int .i64 x_b.A.Port)]) x_b.A from rfl)) ?_
                    rintro _ w7 ⟨k88, rfl⟩
                    have m89 := m83.extk k88
                    refine wl_pure (.bool (!(F_laws_eqAddr x_a.A x_b.A))) (want_none rfl) rfl rfl (by kernel_rfl) ?_
                    refine wl_nil ?_
                    refine wq_then ?_
                    rcases Bool.eq_false_or_eq_true (F_laws_eqAddr x_a.A x_b.A) with h90 | h90
                    · skip
                      refine wc_false (congrArg (fun b => Value.bool (!b)) h90) ?_
                      refine wc_skip ?_
                      refine wq_then ?_
                      refine wc_seq ?_
                      refine wc_seq ?_
                      refine wc_region ?_
                      refine wl_pure (.pointer (some ⟨g41, 11, none⟩)) (want_none rfl) rfl rfl (by kernel_rfl) ?_
                      have b92 := (b86.kp k88)
                      refine wl_load1 (.int .i64 x_a.Now) (want_none rfl) rfl rfl rfl rfl isAgg_3 b92 rfl ?_
                      refine wl_pure (.pointer (some ⟨g47, 11, none⟩)) (want_none rfl) rfl rfl (by kernel_rfl) ?_
                      have b93 := (b87.kp k88)
                      refine wl_load1 (.int .i64 x_b.Now) (want_none rfl) rfl rfl rfl rfl isAgg_3 b93 rfl ?_
                      refine wl_pure (.bool (!(decide (x_a.Now = x_b.Now)))) (want_none rfl) rfl rfl (by kernel_rfl) ?_
                      refine wl_nil ?_
                      refine wq_then ?_
                      rcases Bool.eq_false_or_eq_true (decide (x_a.Now = x_b.Now)) with h94 | h94
                      · have q95 := of_decide_eq_true h94
                        refine wc_false (congrArg (fun b => Value.bool (!b)) h94) ?_
                        refine wc_skip ?_
                        refine wq_then ?_
                        refine wc_seq ?_
                        refine wc_region ?_
                        refine wl_mv (.bool true) (want_none rfl) rfl rfl (.inr rfl) rfl ?_
                        refine wl_nil ?_
                        refine wq_then ?_
                        refine wc_ret ?_
                        refine ret_1 (.inl rfl) (.bool true) rfl rfl ?_
                        refine ⟨m89.keep0, ?_⟩
                        have hF96 : F_laws_eqNote x_a x_b = true := by simp only [F_laws_eqNote, h54, h56, h58, h62, h68, h72, h74, h78, h84, h90, h94, cond_true, cond_false]
                        rw [hF96]
                        exact rfl
                      · have q97 := of_decide_eq_false h94
                        refine wc_true (congrArg (fun b => Value.bool (!b)) h94) ?_
                        refine wc_seq ?_
                        refine wc_region ?_
                        refine wl_mv (.bool false) (want_none rfl) rfl rfl (.inr rfl) rfl ?_
                        refine wl_nil ?_
                        refine wq_then ?_
                        refine wc_ret ?_
                        refine wq_then_ret ?_
                        refine ret_1 (.inl rfl) (.bool false) rfl rfl ?_
                        refine ⟨m89.keep0, ?_⟩
                        have hF98 : F_laws_eqNote x_a x_b = false := by simp only [F_laws_eqNote, h54, h56, h58, h62, h68, h72, h74, h78, h84, h90, h94, cond_true, cond_false]
                        rw [hF98]
                        exact rfl
                    · skip
                      refine wc_true (congrArg (fun b => Value.bool (!b)) h90) ?_
                      refine wc_seq ?_
                      refine wc_region ?_
                      refine wl_mv (.bool false) (want_none rfl) rfl rfl (.inr rfl) rfl ?_
                      refine wl_nil ?_
                      refine wq_then ?_
                      refine wc_ret ?_
                      refine wq_then_ret ?_
                      refine ret_1 (.inl rfl) (.bool false) rfl rfl ?_
                      refine ⟨m89.keep0, ?_⟩
                      have hF100 : F_laws_eqNote x_a x_b = false := by simp only [F_laws_eqNote, h54, h56, h58, h62, h68, h72, h74, h78, h84, h90, cond_true, cond_false]
                      rw [hF100]
                      exact rfl
                  · skip
                    refine wc_true (congrArg (fun b => Value.bool (!b)) h84) ?_
                    refine wc_seq ?_
                    refine wc_region ?_
                    refine wl_mv (.bool false) (want_none rfl) rfl rfl (.inr rfl) rfl ?_
                    refine wl_nil ?_
                    refine wq_then ?_
                    refine wc_ret ?_
                    refine wq_then_ret ?_
                    refine ret_1 (.inl rfl) (.bool false) rfl rfl ?_
                    refine ⟨m83.keep0, ?_⟩
                    have hF102 : F_laws_eqNote x_a x_b = false := by simp only [F_laws_eqNote, h54, h56, h58, h62, h68, h72, h74, h78, h84, cond_true, cond_false]
                    rw [hF102]
                    exact rfl
                · skip
                  refine wc_true (congrArg (fun b => Value.bool (!b)) h78) ?_
                  refine wc_seq ?_
                  refine wc_region ?_
                  refine wl_mv (.bool false) (want_none rfl) rfl rfl (.inr rfl) rfl ?_
                  refine wl_nil ?_
                  refine wq_then ?_
                  refine wc_ret ?_
                  refine wq_then_ret ?_
                  refine ret_1 (.inl rfl) (.bool false) rfl rfl ?_
                  refine ⟨m77.keep0, ?_⟩
                  have hF104 : F_laws_eqNote x_a x_b = false := by simp only [F_laws_eqNote, h54, h56, h58, h62, h68, h72, h74, h78, cond_true, cond_false]
                  rw [hF104]
                  exact rfl
              · have q105 := of_decide_eq_false h74
                refine wc_true (congrArg (fun b => Value.bool (!b)) h74) ?_
                refine wc_seq ?_
                refine wc_region ?_
                refine wl_mv (.bool false) (want_none rfl) rfl rfl (.inr rfl) rfl ?_
                refine wl_nil ?_
                refine wq_then ?_
                refine wc_ret ?_
                refine wq_then_ret ?_
                refine ret_1 (.inl rfl) (.bool false) rfl rfl ?_
                refine ⟨m67.keep0, ?_⟩
                have hF106 : F_laws_eqNote x_a x_b = false := by simp only [F_laws_eqNote, h54, h56, h58, h62, h68, h72, h74, cond_true, cond_false]
                rw [hF106]
                exact rfl
            · have q107 := of_decide_eq_false h72
              refine wc_true (congrArg (fun b => Value.bool (!b)) h72) ?_
              refine wc_seq ?_
              refine wc_region ?_
              refine wl_mv (.bool false) (want_none rfl) rfl rfl (.inr rfl) rfl ?_
              refine wl_nil ?_
              refine wq_then ?_
              refine wc_ret ?_
              refine wq_then_ret ?_
              refine ret_1 (.inl rfl) (.bool false) rfl rfl ?_
              refine ⟨m67.keep0, ?_⟩
              have hF108 : F_laws_eqNote x_a x_b = false := by simp only [F_laws_eqNote, h54, h56, h58, h62, h68, h72, cond_true, cond_false]
              rw [hF108]
              exact rfl
          · skip
            refine wc_true (congrArg (fun b => Value.bool (!b)) h68) ?_
            refine wc_seq ?_
            refine wc_region ?_
            refine wl_mv (.bool false) (want_none rfl) rfl rfl (.inr rfl) rfl ?_
            refine wl_nil ?_
            refine wq_then ?_
            refine wc_ret ?_
            refine wq_then_ret ?_
            refine ret_1 (.inl rfl) (.bool false) rfl rfl ?_
            refine ⟨m67.keep0, ?_⟩
            have hF110 : F_laws_eqNote x_a x_b = false := by simp only [F_laws_eqNote, h54, h56, h58, h62, h68, cond_true, cond_false]
            rw [hF110]
            exact rfl
        · skip
          refine wc_true (congrArg (fun b => Value.bool (!b)) h62) ?_
          refine wc_seq ?_
          refine wc_region ?_
          refine wl_mv (.bool false) (want_none rfl) rfl rfl (.inr rfl) rfl ?_
          refine wl_nil ?_
          refine wq_then ?_
          refine wc_ret ?_
          refine wq_then_ret ?_
          refine ret_1 (.inl rfl) (.bool false) rfl rfl ?_
          refine ⟨m61.keep0, ?_⟩
          have hF112 : F_laws_eqNote x_a x_b = false := by simp only [F_laws_eqNote, h54, h56, h58, h62, cond_true, cond_false]
          rw [hF112]
          exact rfl
      · have q113 := of_decide_eq_false h58
        refine wc_true (congrArg (fun b => Value.bool (!b)) h58) ?_
        refine wc_seq ?_
        refine wc_region ?_
        refine wl_mv (.bool false) (want_none rfl) rfl rfl (.inr rfl) rfl ?_
        refine wl_nil ?_
        refine wq_then ?_
        refine wc_ret ?_
        refine wq_then_ret ?_
        refine ret_1 (.inl rfl) (.bool false) rfl rfl ?_
        refine ⟨m52.keep0, ?_⟩
        have hF114 : F_laws_eqNote x_a x_b = false := by simp only [F_laws_eqNote, h54, h56, h58, cond_true, cond_false]
        rw [hF114]
        exact rfl
    · have q115 := of_decide_eq_false h56
      refine wc_true (congrArg (fun b => Value.bool (!b)) h56) ?_
      refine wc_seq ?_
      refine wc_region ?_
      refine wl_mv (.bool false) (want_none rfl) rfl rfl (.inr rfl) rfl ?_
      refine wl_nil ?_
      refine wq_then ?_
      refine wc_ret ?_
      refine wq_then_ret ?_
      refine ret_1 (.inl rfl) (.bool false) rfl rfl ?_
      refine ⟨m52.keep0, ?_⟩
      have hF116 : F_laws_eqNote x_a x_b = false := by simp only [F_laws_eqNote, h54, h56, cond_true, cond_false]
      rw [hF116]
      exact rfl
  · have q117 := of_decide_eq_false h54
    refine wc_true (congrArg (fun b => Value.bool (!b)) h54) ?_
    refine wc_seq ?_
    refine wc_region ?_
    refine wl_mv (.bool false) (want_none rfl) rfl rfl (.inr rfl) rfl ?_
    refine wl_nil ?_
    refine wq_then ?_
    refine wc_ret ?_
    refine wq_then_ret ?_
    refine ret_1 (.inl rfl) (.bool false) rfl rfl ?_
    refine ⟨m52.keep0, ?_⟩
    have hF118 : F_laws_eqNote x_a x_b = false := by simp only [F_laws_eqNote, h54, cond_true, cond_false]
    rw [hF118]
    exact rfl

theorem isAgg_58 : ∀ w, (isAgg 58).run Try.prog w = .ok true w := fun w => by kernel_rfl
theorem sizeOf_58 : ∀ w, (sizeOf 58).run Try.prog w = .ok 12 w := fun w => by kernel_rfl
def F_spec_l18Len (x_n : Int) (x_is : Int) : (Bool) := bif (decide (x_n = 0)) then (true) else (decide (x_n = x_is))
theorem C_spec_l18Len (w0 : World) (x_n : Int) (x_is : Int)  : Fn Try.prog 87 #[(.int .i64 x_n), (.int .i64 x_is)] w0 (fun v w' => Keep w0 w' ∧ O_4 w' w0.heap.size v (F_spec_l18Len x_n x_is)) := by
  refine fn_of (n := 12) (l := [(.int .i64 x_n), (.int .i64 x_is), undef, undef, undef, undef, undef, undef, undef, undef, undef, undef]) Try.func87 rfl rfl (by kernel_rfl) rfl ?_
  refine wc_seq ?_
  refine wc_region ?_
  refine wl_mv (.bool false) (want_none rfl) rfl rfl (.inr rfl) rfl ?_
  refine wl_nil ?_
  refine wq_then ?_
  refine wc_seq ?_
  refine wc_region ?_
  refine wl_mv (.int .i64 x_n) (want_none rfl) rfl rfl (.inl rfl) rfl ?_
  refine wl_pure (.bool (decide (x_n = 0))) (want_none rfl) rfl rfl (by kernel_rfl) ?_
  refine wl_mv (.bool (decide (x_n = 0))) (want_none rfl) rfl rfl (.inl rfl) rfl ?_
  rcases Bool.eq_false_or_eq_true (decide (x_n = 0)) with h1 | h1
  · have q2 := of_decide_eq_true h1
    refine wl_skip rfl rfl rfl (congrArg Value.bool h1) rfl rfl rfl ?_
    refine wl_skip rfl rfl rfl (congrArg Value.bool h1) rfl rfl rfl ?_
    refine wl_skip rfl rfl rfl (congrArg Value.bool h1) rfl rfl rfl ?_
    refine wl_pick_t (.bool true) (want_none rfl) rfl rfl rfl (congrArg Value.bool h1) rfl ?_
    refine wl_mv (.bool true) (want_none rfl) rfl rfl (.inr rfl) rfl ?_
    refine wl_nil ?_
    refine wq_then ?_
    refine wc_ret ?_
    refine ret_1 (.inl rfl) (.bool true) rfl rfl ?_
    refine ⟨Ch.refl _ _, ?_⟩
    have hF3 : F_spec_l18Len x_n x_is = true := by simp only [F_spec_l18Len, h1, cond_true, cond_false]
    rw [hF3]
    exact rfl
  · have q4 := of_decide_eq_false h1
    refine wl_mv (.int .i64 x_n) (want_some rfl rfl rfl (congrArg Value.bool h1)) rfl rfl (.inl rfl) rfl ?_
    refine wl_mv (.int .i64 x_is) (want_some rfl rfl rfl (congrArg Value.bool h1)) rfl rfl (.inl rfl) rfl ?_
    refine wl_pure (.bool (decide (x_n = x_is))) (want_some rfl rfl rfl (congrArg Value.bool h1)) rfl rfl (by kernel_rfl) ?_
    refine wl_pick_f (.bool (decide (x_n = x_is))) (want_none rfl) rfl rfl rfl (congrArg Value.bool h1) rfl ?_
    refine wl_mv (.bool (decide (x_n = x_is))) (want_none rfl) rfl rfl (.inr rfl) rfl ?_
    refine wl_nil ?_
    refine wq_then ?_
    refine wc_ret ?_
    refine ret_1 (.inl rfl) (.bool (decide (x_n = x_is))) rfl rfl ?_
    refine ⟨Ch.refl _ _, ?_⟩
    have hF5 : F_spec_l18Len x_n x_is = decide (x_n = x_is) := by simp only [F_spec_l18Len, h1, cond_true, cond_false]
    rw [hF5]
    exact rfl

def F_spec_AddrOk (x_a : PAddr) : (Bool) := bif (F_spec_l1In x_a.Host 0 4294967295) then ((F_spec_l1In x_a.Port 0 65535)) else (false)
theorem C_spec_AddrOk (w0 : World) (v_x_a : Value) (x_a : PAddr) (r_x_a : R_61 w0 v_x_a x_a)  : Fn Try.prog 88 #[v_x_a] w0 (fun v w' => Keep w0 w' ∧ O_4 w' w0.heap.size v (F_spec_AddrOk x_a)) := by
  obtain rfl := r_x_a
  refine fn_of (n := 11) (l := [(.agg #[(.int .i64 x_a.Host), (.int .i64 x_a.Port)]), undef, undef, undef, undef, undef, undef, undef, undef, undef, undef]) Try.func88 rfl rfl (by kernel_rfl) rfl ?_
  refine wc_seq ?_
  refine wc_region ?_
  refine wl_box (want_none rfl) [(.int .i64 x_a.Host), (.int .i64 x_a.Port)] rfl rfl rfl rfl ?_
  intro g1 w1 p2 p3 k4 b5
  have m6 := (Ch.base w0).extk k4
  refine wl_mv (.bool false) (want_none rfl) rfl rfl (.inr rfl) rfl ?_
  refine wl_nil ?_
  refine wq_then ?_
  refine wc_seq ?_
  refine wc_region ?_
  refine wl_pure (.pointer (some ⟨g1, 0, none⟩)) (want_none rfl) rfl rfl (by kernel_rfl) ?_
  refine wl_load1 (.int .i64 x_a.Host) (want_none rfl) rfl rfl rfl rfl isAgg_3 b5 rfl ?_
  refine wl_call (want_none rfl) (args := #[(.int .i64 x_a.Host), (.int .i64 0), (.int .i64 4294967295)]) rfl rfl (by kernel_rfl) (C_spec_l1In w1 x_a.Host 0 4294967295) ?_
  rintro _ w2 ⟨k7, rfl⟩
  have m8 := m6.extk k7
  refine wl_mv (.bool (F_spec_l1In x_a.Host 0 4294967295)) (want_none rfl) rfl rfl (.inl rfl) rfl ?_
  rcases Bool.eq_false_or_eq_true (F_spec_l1In x_a.Host 0 4294967295) with h9 | h9
  · have q10 := spec_l1In_t h9
    refine wl_pure (.pointer (some ⟨g1, 1, none⟩)) (want_some rfl rfl rfl (congrArg Value.bool h9)) rfl rfl (by kernel_rfl) ?_
    have b11 := (b5.kp k7)
    refine wl_load1 (.int .i64 x_a.Port) (want_some rfl rfl rfl (congrArg Value.bool h9)) rfl rfl rfl rfl isAgg_3 b11 rfl ?_
    refine wl_call (want_some rfl rfl rfl (congrArg Value.bool h9)) (args := #[(.int .i64 x_a.Port), (.int .i64 0), (.int .i64 65535)]) rfl rfl (by kernel_rfl) (C_spec_l1In w2 x_a.Port 0 65535) ?_
    rintro _ w3 ⟨k12, rfl⟩
    have m13 := m8.extk k12
    refine wl_pick_t (.bool (F_spec_l1In x_a.Port 0 65535)) (want_none rfl) rfl rfl rfl (congrArg Value.bool h9) rfl ?_
    refine wl_mv (.bool (F_spec_l1In x_a.Port 0 65535)) (want_none rfl) rfl rfl (.inr rfl) rfl ?_
    refine wl_nil ?_
    refine wq_then ?_
    refine wc_ret ?_
    refine ret_1 (.inl rfl) (.bool (F_spec_l1In x_a.Port 0 65535)) rfl rfl ?_
    refine ⟨m13.keep0, ?_⟩
    have hF14 : F_spec_AddrOk x_a = (F_spec_l1In x_a.Port 0 65535) := by simp only [F_spec_AddrOk, h9, cond_true, cond_false]
    rw [hF14]
    exact rfl
  · have q15 := spec_l1In_f h9
    refine wl_skip rfl rfl rfl (congrArg Value.bool h9) rfl rfl rfl ?_
    refine wl_skip rfl rfl rfl (congrArg Value.bool h9) rfl rfl rfl ?_
    refine wl_skip rfl rfl rfl (congrArg Value.bool h9) rfl rfl rfl ?_
    refine wl_pick_f (.bool false) (want_none rfl) rfl rfl rfl (congrArg Value.bool h9) rfl ?_
    refine wl_mv (.bool false) (want_none rfl) rfl rfl (.inr rfl) rfl ?_
    refine wl_nil ?_
    refine wq_then ?_
    refine wc_ret ?_
    refine ret_1 (.inl rfl) (.bool false) rfl rfl ?_
    refine ⟨m8.keep0, ?_⟩
    have hF16 : F_spec_AddrOk x_a = false := by simp only [F_spec_AddrOk, h9, cond_true, cond_false]
    rw [hF16]
    exact rfl

def F_spec_NoteOk (x_n : PNote) : (Bool) := bif (F_spec_l1In x_n.Kind 1 17) then (bif (F_spec_l1In x_n.Id 0 9) then (bif (F_spec_l1In x_n.Role 0 1) then (bif (F_spec_l18Len (x_n.Cn.length : Int) 12) then (bif (F_spec_l18Len (x_n.Sn.length : Int) 12) then (bif (F_spec_l1In x_n.Epoch 0 4294967295) then (bif (F_spec_l1In x_n.Seq 0 281474976710655) then (bif (decide ((x_n.Body.length : Int) ≤ 100)) then (bif (F_spec_l18Len (x_n.Key.length : Int) 32) then (bif (F_spec_AddrOk x_n.A) then ((F_spec_l1In x_n.Now 0 1000000)) else (false)) else (false)) else (false)) else (false)) else (false)) else (false)) else (false)) else (false)) else (false)) else (false)
theorem C_spec_NoteOk (w0 : World) (v_x_n : Value) (x_n : PNote) (r_x_n : R_63 w0 v_x_n x_n)  : Fn Try.prog 44 #[v_x_n] w0 (fun v w' => Keep w0 w' ∧ O_4 w' w0.heap.size v (F_spec_NoteOk x_n)) := by
  obtain ⟨a1, c2, a6, c7, a11, c12, a16, c17, rfl, r3, s4, r8, s9, r13, s14, r18, s19⟩ := r_x_n
  refine fn_of (n := 60) (l := [(.agg #[(.int .i64 x_n.Kind), (.int .i64 x_n.Id), (.int .i64 x_n.Role), (.slice a1 x_n.Cn.length c2), (.slice a6 x_n.Sn.length c7), (.int .i64 x_n.Epoch), (.int .i64 x_n.Seq), (.slice a11 x_n.Body.length c12), (.slice a16 x_n.Key.length c17), (.int .i64 x_n.A.Host), (.int .i64 x_n.A.Port), (.int .i64 x_n.Now)]), undef, undef, undef, undef, undef, undef, undef, undef, undef, undef, undef, undef, undef, undef, undef, undef, undef, undef, undef, undef, undef, undef, undef, undef, undef, undef, undef, undef, undef, undef, undef, undef, undef, undef, undef, undef, undef, undef, undef, undef, undef, undef, undef, undef, undef, undef, undef, undef, undef, undef, undef, undef, undef, undef, undef, undef, undef, undef, undef]) Try.func44 rfl rfl (by kernel_rfl) rfl ?_
  refine wc_seq ?_
  refine wc_region ?_
  refine wl_box (want_none rfl) [(.int .i64 x_n.Kind), (.int .i64 x_n.Id), (.int .i64 x_n.Role), (.slice a1 x_n.Cn.length c2), (.slice a6 x_n.Sn.length c7), (.int .i64 x_n.Epoch), (.int .i64 x_n.Seq), (.slice a11 x_n.Body.length c12), (.slice a16 x_n.Key.length c17), (.int .i64 x_n.A.Host), (.int .i64 x_n.A.Port), (.int .i64 x_n.Now)] rfl rfl rfl rfl ?_
  intro g21 w1 p22 p23 k24 b25
  have m26 := (Ch.base w0).extk k24
  refine wl_mv (.bool false) (want_none rfl) rfl rfl (.inr rfl) rfl ?_
  refine wl_nil ?_
  refine wq_then ?_
  refine wc_seq ?_
  refine wc_region ?_
  refine wl_pure (.pointer (some ⟨g21, 0, none⟩)) (want_none rfl) rfl rfl (by kernel_rfl) ?_
  refine wl_load1 (.int .i64 x_n.Kind) (want_none rfl) rfl rfl rfl rfl isAgg_3 b25 rfl ?_
  refine wl_call (want_none rfl) (args := #[(.int .i64 x_n.Kind), (.int .i64 1), (.int .i64 17)]) rfl rfl (by kernel_rfl) (C_spec_l1In w1 x_n.Kind 1 17) ?_
  rintro _ w2 ⟨k27, rfl⟩
  have m28 := m26.extk k27
  refine wl_mv (.bool (F_spec_l1In x_n.Kind 1 17)) (want_none rfl) rfl rfl (.inl rfl) rfl ?_
  rcases Bool.eq_false_or_eq_true (F_spec_l1In x_n.Kind 1 17) with h29 | h29
  · have q30 := spec_l1In_t h29
    refine wl_pure (.pointer (some ⟨g21, 1, none⟩)) (want_some rfl rfl rfl (congrArg Value.bool h29)) rfl rfl (by kernel_rfl) ?_
    have b31 := (b25.kp k27)
    refine wl_load1 (.int .i64 x_n.Id) (want_some rfl rfl rfl (congrArg Value.bool h29)) rfl rfl rfl rfl isAgg_3 b31 rfl ?_
    refine wl_call (want_some rfl rfl rfl (congrArg Value.bool h29)) (args := #[(.int .i64 x_n.Id), (.int .i64 0), (.int .i64 9)]) rfl rfl (by kernel_rfl) (C_spec_l1In w2 x_n.Id 0 9) ?_
    rintro _ w3 ⟨k32, rfl⟩
    have m33 := m28.extk k32
    refine wl_pick_t (.bool (F_spec_l1In x_n.Id 0 9)) (want_none rfl) rfl rfl rfl (congrArg Value.bool h29) rfl ?_
    refine wl_mv (.bool (F_spec_l1In x_n.Id 0 9)) (want_none rfl) rfl rfl (.inl rfl) rfl ?_
    rcases Bool.eq_false_or_eq_true (F_spec_l1In x_n.Id 0 9) with h34 | h34
    · have q35 := spec_l1In_t h34
      refine wl_pure (.pointer (some ⟨g21, 2, none⟩)) (want_some rfl rfl rfl (congrArg Value.bool h34)) rfl rfl (by kernel_rfl) ?_
      have b36 := (b31.kp k32)
      refine wl_load1 (.int .i64 x_n.Role) (want_some rfl rfl rfl (congrArg Value.bool h34)) rfl rfl rfl rfl isAgg_3 b36 rfl ?_
      refine wl_call (want_some rfl rfl rfl (congrArg Value.bool h34)) (args := #[(.int .i64 x_n.Role), (.int .i64 0), (.int .i64 1)]) rfl rfl (by kernel_rfl) (C_spec_l1In w3 x_n.Role 0 1) ?_
      rintro _ w4 ⟨k37, rfl⟩
      have m38 := m33.extk k37
      refine wl_pick_t (.bool (F_spec_l1In x_n.Role 0 1)) (want_none rfl) rfl rfl rfl (congrArg Value.bool h34) rfl ?_
      refine wl_mv (.bool (F_spec_l1In x_n.Role 0 1)) (want_none rfl) rfl rfl (.inl rfl) rfl ?_
      rcases Bool.eq_false_or_eq_true (F_spec_l1In x_n.Role 0 1) with h39 | h39
      · have q40 := spec_l1In_t h39
        refine wl_pure (.pointer (some ⟨g21, 3, none⟩)) (want_some rfl rfl rfl (congrArg Value.bool h39)) rfl rfl (by kernel_rfl) ?_
        have b41 := (b36.kp k37)
        refine wl_load1 (.slice a1 x_n.Cn.length c2) (want_some rfl rfl rfl (congrArg Value.bool h39)) rfl rfl rfl rfl isAgg_22 b41 rfl ?_
        refine wl_len (want_some rfl rfl rfl (congrArg Value.bool h39)) rfl rfl rfl slTy_22 rfl (r3.from0 m38) ?_
        refine wl_call (want_some rfl rfl rfl (congrArg Value.bool h39)) (args := #[(.int .i64 (x_n.Cn.length : Int)), (.int .i64 12)]) rfl rfl (by kernel_rfl) (C_spec_l18Len w4 (x_n.Cn.length : Int) 12) ?_
        rintro _ w5 ⟨k42, rfl⟩
        have m43 := m38.extk k42
        refine wl_pick_t (.bool (F_spec_l18Len (x_n.Cn.length : Int) 12)) (want_none rfl) rfl rfl rfl (congrArg Value.bool h39) rfl ?_
        refine wl_mv (.bool (F_spec_l18Len (x_n.Cn.length : Int) 12)) (want_none rfl) rfl rfl (.inl rfl) rfl ?_
        rcases Bool.eq_false_or_eq_true (F_spec_l18Len (x_n.Cn.length : Int) 12) with h44 | h44
        · skip
          refine wl_pure (.pointer (some ⟨g21, 4, none⟩)) (want_some rfl rfl rfl (congrArg Value.bool h44)) rfl rfl (by kernel_rfl) ?_
          have b46 := (b41.kp k42)
          refine wl_load1 (.slice a6 x_n.Sn.length c7) (want_some rfl rfl rfl (congrArg Value.bool h44)) rfl rfl rfl rfl isAgg_22 b46 rfl ?_
          refine wl_len (want_some rfl rfl rfl (congrArg Value.bool h44)) rfl rfl rfl slTy_22 rfl (r8.from0 m43) ?_
          refine wl_call (want_some rfl rfl rfl (congrArg Value.bool h44)) (args := #[(.int .i64 (x_n.Sn.length : Int)), (.int .i64 12)]) rfl rfl (by kernel_rfl) (C_spec_l18Len w5 (x_n.Sn.length : Int) 12) ?_
          rintro _ w6 ⟨k47, rfl⟩
          have m48 := m43.extk k47
          refine wl_pick_t (.bool (F_spec_l18Len (x_n.Sn.length : Int) 12)) (want_none rfl) rfl rfl rfl (congrArg Value.bool h44) rfl ?_
          refine wl_mv (.bool (F_spec_l18Len (x_n.Sn.length : Int) 12)) (want_none rfl) rfl rfl (.inl rfl) rfl ?_
          rcases Bool.eq_false_or_eq_true (F_spec_l18Len (x_n.Sn.length : Int) 12) with h49 | h49
          · skip
            refine wl_pure (.pointer (some ⟨g21, 5, none⟩)) (want_some rfl rfl rfl (congrArg Value.bool h49)) rfl rfl (by kernel_rfl) ?_
            have b51 := (b46.kp k47)
            refine wl_load1 (.int .i64 x_n.Epoch) (want_some rfl rfl rfl (congrArg Value.bool h49)) rfl rfl rfl rfl isAgg_3 b51 rfl ?_
            refine wl_call (want_some rfl rfl rfl (congrArg Value.bool h49)) (args := #[(.int .i64 x_n.Epoch), (.int .i64 0), (.int .i64 4294967295)]) rfl rfl (by kernel_rfl) (C_spec_l1In w6 x_n.Epoch 0 4294967295) ?_
            rintro _ w7 ⟨k52, rfl⟩
            have m53 := m48.extk k52
            refine wl_pick_t (.bool (F_spec_l1In x_n.Epoch 0 4294967295)) (want_none rfl) rfl rfl rfl (congrArg Value.bool h49) rfl ?_
            refine wl_mv (.bool (F_spec_l1In x_n.Epoch 0 4294967295)) (want_none rfl) rfl rfl (.inl rfl) rfl ?_
            rcases Bool.eq_false_or_eq_true (F_spec_l1In x_n.Epoch 0 4294967295) with h54 | h54
            · have q55 := spec_l1In_t h54
              refine wl_pure (.pointer (some ⟨g21, 6, none⟩)) (want_some rfl rfl rfl (congrArg Value.bool h54)) rfl rfl (by kernel_rfl) ?_
              have b56 := (b51.kp k52)
              refine wl_load1 (.int .i64 x_n.Seq) (want_some rfl rfl rfl (congrArg Value.bool h54)) rfl rfl rfl rfl isAgg_3 b56 rfl ?_
              refine wl_call (want_some rfl rfl rfl (congrArg Value.bool h54)) (args := #[(.int .i64 x_n.Seq), (.int .i64 0), (.int .i64 281474976710655)]) rfl rfl (by kernel_rfl) (C_spec_l1In w7 x_n.Seq 0 281474976710655) ?_
              rintro _ w8 ⟨k57, rfl⟩
              have m58 := m53.extk k57
              refine wl_pick_t (.bool (F_spec_l1In x_n.Seq 0 281474976710655)) (want_none rfl) rfl rfl rfl (congrArg Value.bool h54) rfl ?_
              refine wl_mv (.bool (F_spec_l1In x_n.Seq 0 281474976710655)) (want_none rfl) rfl rfl (.inl rfl) rfl ?_
              rcases Bool.eq_false_or_eq_true (F_spec_l1In x_n.Seq 0 281474976710655) with h59 | h59
              · have q60 := spec_l1In_t h59
                refine wl_pure (.pointer (some ⟨g21, 7, none⟩)) (want_some rfl rfl rfl (congrArg Value.bool h59)) rfl rfl (by kernel_rfl) ?_
                have b61 := (b56.kp k57)
                refine wl_load1 (.slice a11 x_n.Body.length c12) (want_some rfl rfl rfl (congrArg Value.bool h59)) rfl rfl rfl rfl isAgg_22 b61 rfl ?_
                refine wl_len (want_some rfl rfl rfl (congrArg Value.bool h59)) rfl rfl rfl slTy_22 rfl (r13.from0 m58) ?_
                refine wl_pure (.bool (decide ((x_n.Body.length : Int) ≤ 100))) (want_some rfl rfl rfl (congrArg Value.bool h59)) rfl rfl (by kernel_rfl) ?_
                refine wl_pick_t (.bool (decide ((x_n.Body.length : Int) ≤ 100))) (want_none rfl) rfl rfl rfl (congrArg Value.bool h59) rfl ?_
                refine wl_mv (.bool (decide ((x_n.Body.length : Int) ≤ 100))) (want_none rfl) rfl rfl (.inl rfl) rfl ?_
                rcases Bool.eq_false_or_eq_true (decide ((x_n.Body.length : Int) ≤ 100)) with h62 | h62
                · have q63 := of_decide_eq_true h62
                  refine wl_pure (.pointer (some ⟨g21, 8, none⟩)) (want_some rfl rfl rfl (congrArg Value.bool h62)) rfl rfl (by kernel_rfl) ?_
                  refine wl_load1 (.slice a16 x_n.Key.length c17) (want_some rfl rfl rfl (congrArg Value.bool h62)) rfl rfl rfl rfl isAgg_22 b61 rfl ?_
                  refine wl_len (want_some rfl rfl rfl (congrArg Value.bool h62)) rfl rfl rfl slTy_22 rfl (r18.from0 m58) ?_
                  refine wl_call (want_some rfl rfl rfl (congrArg Value.bool h62)) (args := #[(.int .i64 (x_n.Key.length : Int)), (.int .i64 32)]) rfl rfl (by kernel_rfl) (C_spec_l18Len w8 (x_n.Key.length : Int) 32) ?_
                  rintro _ w9 ⟨k64, rfl⟩
                  have m65 := m58.extk k64
                  refine wl_pick_t (.bool (F_spec_l18Len (x_n.Key.length : Int) 32)) (want_none rfl) rfl rfl rfl (congrArg Value.bool h62) rfl ?_
                  refine wl_mv (.bool (F_spec_l18Len (x_n.Key.length : Int) 32)) (want_none rfl) rfl rfl (.inl rfl) rfl ?_
                  rcases Bool.eq_false_or_eq_true (F_spec_l18Len (x_n.Key.length : Int) 32) with h66 | h66
                  · skip
                    refine wl_pure (.pointer (some ⟨g21, 9, none⟩)) (want_some rfl rfl rfl (congrArg Value.bool h66)) rfl rfl (by kernel_rfl) ?_
                    have b68 := (b61.kp k64)
                    refine wl_loadN [(.int .i64 x_n.A.Host), (.int .i64 x_n.A.Port)] (want_some rfl rfl rfl (congrArg Value.bool h66)) rfl rfl rfl rfl isAgg_61 sizeOf_61 b68 rfl ?_
                    refine wl_call (want_some rfl rfl rfl (congrArg Value.bool h66)) (args := #[(.agg #[(.int .i64 x_n.A.Host), (.int .i64 x_n.A.Port)])]) rfl rfl (by kernel_rfl) (C_spec_AddrOk w9 (.agg #[(.int .i64 x_n.A.Host), (.int .i64 x_n.A.Port)]) x_n.A (show R_61 w9 (.agg #[(.int .i64 x_n.A.Host), (.int .i64 x_n.A.Port)]) x_n.A from rfl)) ?_
                    rintro _ w10 ⟨k69, rfl⟩
                    have m70 := m65.extk k69
                    refine wl_pick_t (.bool (F_spec_AddrOk x_n.A)) (want_none rfl) rfl rfl rfl (congrArg Value.bool h66) rfl ?_
                    refine wl_mv (.bool (F_spec_AddrOk x_n.A)) (want_none rfl) rfl rfl (.inl rfl) rfl ?_
                    rcases Bool.eq_false_or_eq_true (F_spec_AddrOk x_n.A) with h71 | h71
                    · skip
                      refine wl_pure (.pointer (some ⟨g21, 11, none⟩)) (want_some rfl rfl rfl (congrArg Value.bool h71)) rfl rfl (by kernel_rfl) ?_
                      have b73 := (b68.kp k69)
                      refine wl_load1 (.int .i64 x_n.Now) (want_some rfl rfl rfl (congrArg Value.bool h71)) rfl rfl rfl rfl isAgg_3 b73 rfl ?_
                      refine wl_call (want_some rfl rfl rfl (congrArg Value.bool h71)) (args := #[(.int .i64 x_n.Now), (.int .i64 0), (.int .i64 1000000)]) rfl rfl (by kernel_rfl) (C_spec_l1In w10 x_n.Now 0 1000000) ?_
                      rintro _ w11 ⟨k74, rfl⟩
                      have m75 := m70.extk k74
                      refine wl_pick_t (.bool (F_spec_l1In x_n.Now 0 1000000)) (want_none rfl) rfl rfl rfl (congrArg Value.bool h71) rfl ?_
                      refine wl_mv (.bool (F_spec_l1In x_n.Now 0 1000000)) (want_none rfl) rfl rfl (.inr rfl) rfl ?_
                      refine wl_nil ?_
                      refine wq_then ?_
                      refine wc_ret ?_
                      refine ret_1 (.inl rfl) (.bool (F_spec_l1In x_n.Now 0 1000000)) rfl rfl ?_
                      refine ⟨m75.keep0, ?_⟩
                      have hF76 : F_spec_NoteOk x_n = (F_spec_l1In x_n.Now 0 1000000) := by simp only [F_spec_NoteOk, h29, h34, h39, h44, h49, h54, h59, h62, h66, h71, cond_true, cond_false]
                      rw [hF76]
                      exact rfl
                    · skip
                      refine wl_skip rfl rfl rfl (congrArg Value.bool h71) rfl rfl rfl ?_
                      refine wl_skip rfl rfl rfl (congrArg Value.bool h71) rfl rfl rfl ?_
                      refine wl_skip rfl rfl rfl (congrArg Value.bool h71) rfl rfl rfl ?_
                      refine wl_pick_f (.bool false) (want_none rfl) rfl rfl rfl (congrArg Value.bool h71) rfl ?_
                      refine wl_mv (.bool false) (want_none rfl) rfl rfl (.inr rfl) rfl ?_
                      refine wl_nil ?_
                      refine wq_then ?_
                      refine wc_ret ?_
                      refine ret_1 (.inl rfl) (.bool false) rfl rfl ?_
                      refine ⟨m70.keep0, ?_⟩
                      have hF78 : F_spec_NoteOk x_n = false := by simp only [F_spec_NoteOk, h29, h34, h39, h44, h49, h54, h59, h62, h66, h71, cond_true, cond_false]
                      rw [hF78]
                      exact rfl
                  · skip
                    refine wl_skip rfl rfl rfl (congrArg Value.bool h66) rfl rfl rfl ?_
                    refine wl_skip rfl rfl rfl (congrArg Value.bool h66) rfl rfl rfl ?_
                    refine wl_skip rfl rfl rfl (congrArg Value.bool h66) rfl rfl rfl ?_
                    refine wl_pick_f (.bool false) (want_none rfl) rfl rfl rfl (congrArg Value.bool h66) rfl ?_
                    refine wl_mv (.bool false) (want_none rfl) rfl rfl (.inl rfl) rfl ?_
                    refine wl_skip rfl rfl rfl rfl rfl rfl rfl ?_
                    refine wl_skip rfl rfl rfl rfl rfl rfl rfl ?_
                    refine wl_skip rfl rfl rfl rfl rfl rfl rfl ?_
                    refine wl_pick_f (.bool false) (want_none rfl) rfl rfl rfl rfl rfl ?_
                    refine wl_mv (.bool false) (want_none rfl) rfl rfl (.inr rfl) rfl ?_
                    refine wl_nil ?_
                    refine wq_then ?_
                    refine wc_ret ?_
                    refine ret_1 (.inl rfl) (.bool false) rfl rfl ?_
                    refine ⟨m65.keep0, ?_⟩
                    have hF80 : F_spec_NoteOk x_n = false := by simp only [F_spec_NoteOk, h29, h34, h39, h44, h49, h54, h59, h62, h66, cond_true, cond_false]
                    rw [hF80]
                    exact rfl
                · have q81 := of_decide_eq_false h62
                  refine wl_skip rfl rfl rfl (congrArg Value.bool h62) rfl rfl rfl ?_
                  refine wl_skip rfl rfl rfl (congrArg Value.bool h62) rfl rfl rfl ?_
                  refine wl_skip rfl rfl rfl (congrArg Value.bool h62) rfl rfl rfl ?_
                  refine wl_skip rfl rfl rfl (congrArg Value.bool h62) rfl rfl rfl ?_
                  refine wl_pick_f (.bool false) (want_none rfl) rfl rfl rfl (congrArg Value.bool h62) rfl ?_
                  refine wl_mv (.bool false) (want_none rfl) rfl rfl (.inl rfl) rfl ?_
                  refine wl_skip rfl rfl rfl rfl rfl rfl rfl ?_
                  refine wl_skip rfl rfl rfl rfl rfl rfl rfl ?_
                  refine wl_skip rfl rfl rfl rfl rfl rfl rfl ?_
                  refine wl_pick_f (.bool false) (want_none rfl) rfl rfl rfl rfl rfl ?_
                  refine wl_mv (.bool false) (want_none rfl) rfl rfl (.inl rfl) rfl ?_
                  refine wl_skip rfl rfl rfl rfl rfl rfl rfl ?_
                  refine wl_skip rfl rfl rfl rfl rfl rfl rfl ?_
                  refine wl_skip rfl rfl rfl rfl rfl rfl rfl ?_
                  refine wl_pick_f (.bool false) (want_none rfl) rfl rfl rfl rfl rfl ?_
                  refine wl_mv (.bool false) (want_none rfl) rfl rfl (.inr rfl) rfl ?_
                  refine wl_nil ?_
                  refine wq_then ?_
                  refine wc_ret ?_
                  refine ret_1 (.inl rfl) (.bool false) rfl rfl ?_
                  refine ⟨m58.keep0, ?_⟩
                  have hF82 : F_spec_NoteOk x_n = false := by simp only [F_spec_NoteOk, h29, h34, h39, h44, h49, h54, h59, h62, cond_true, cond_false]
                  rw [hF82]
                  exact rfl
              · have q83 := spec_l1In_f h59
                refine wl_skip rfl rfl rfl (congrArg Value.bool h59) rfl rfl rfl ?_
                refine wl_skip rfl rfl rfl (congrArg Value.bool h59) rfl rfl rfl ?_
                refine wl_skip rfl rfl rfl (congrArg Value.bool h59) rfl rfl rfl ?_
                refine wl_skip rfl rfl rfl (congrArg Value.bool h59) rfl rfl rfl ?_
                refine wl_pick_f (.bool false) (want_none rfl) rfl rfl rfl (congrArg Value.bool h59) rfl ?_
                refine wl_mv (.bool false) (want_none rfl) rfl rfl (.inl rfl) rfl ?_
                refine wl_skip rfl rfl rfl rfl rfl rfl rfl ?_
                refine wl_skip rfl rfl rfl rfl rfl rfl rfl ?_
                refine wl_skip rfl rfl rfl rfl rfl rfl rfl ?_
                refine wl_skip rfl rfl rfl rfl rfl rfl rfl ?_
                refine wl_pick_f (.bool false) (want_none rfl) rfl rfl rfl rfl rfl ?_
                refine wl_mv (.bool false) (want_none rfl) rfl rfl (.inl rfl) rfl ?_
                refine wl_skip rfl rfl rfl rfl rfl rfl rfl ?_
                refine wl_skip rfl rfl rfl rfl rfl rfl rfl ?_
                refine wl_skip rfl rfl rfl rfl rfl rfl rfl ?_
                refine wl_pick_f (.bool false) (want_none rfl) rfl rfl rfl rfl rfl ?_
                refine wl_mv (.bool false) (want_none rfl) rfl rfl (.inl rfl) rfl ?_
                refine wl_skip rfl rfl rfl rfl rfl rfl rfl ?_
                refine wl_skip rfl rfl rfl rfl rfl rfl rfl ?_
                refine wl_skip rfl rfl rfl rfl rfl rfl rfl ?_
                refine wl_pick_f (.bool false) (want_none rfl) rfl rfl rfl rfl rfl ?_
                refine wl_mv (.bool false) (want_none rfl) rfl rfl (.inr rfl) rfl ?_
                refine wl_nil ?_
                refine wq_then ?_
                refine wc_ret ?_
                refine ret_1 (.inl rfl) (.bool false) rfl rfl ?_
                refine ⟨m58.keep0, ?_⟩
                have hF84 : F_spec_NoteOk x_n = false := by simp only [F_spec_NoteOk, h29, h34, h39, h44, h49, h54, h59, cond_true, cond_false]
                rw [hF84]
                exact rfl
            · have q85 := spec_l1In_f h54
              refine wl_skip rfl rfl rfl (congrArg Value.bool h54) rfl rfl rfl ?_
              refine wl_skip rfl rfl rfl (congrArg Value.bool h54) rfl rfl rfl ?_
              refine wl_skip rfl rfl rfl (congrArg Value.bool h54) rfl rfl rfl ?_
              refine wl_pick_f (.bool false) (want_none rfl) rfl rfl rfl (congrArg Value.bool h54) rfl ?_
              refine wl_mv (.bool false) (want_none rfl) rfl rfl (.inl rfl) rfl ?_
              refine wl_skip rfl rfl rfl rfl rfl rfl rfl ?_
              refine wl_skip rfl rfl rfl rfl rfl rfl rfl ?_
              refine wl_skip rfl rfl rfl rfl rfl rfl rfl ?_
              refine wl_skip rfl rfl rfl rfl rfl rfl rfl ?_
              refine wl_pick_f (.bool false) (want_none rfl) rfl rfl rfl rfl rfl ?_
              refine wl_mv (.bool false) (want_none rfl) rfl rfl (.inl rfl) rfl ?_
              refine wl_skip rfl rfl rfl rfl rfl rfl rfl ?_
              refine wl_skip rfl rfl rfl rfl rfl rfl rfl ?_
              refine wl_skip rfl rfl rfl rfl rfl rfl rfl ?_
              refine wl_skip rfl rfl rfl rfl rfl rfl rfl ?_
              refine wl_pick_f (.bool false) (want_none rfl) rfl rfl rfl rfl rfl ?_
              refine wl_mv (.bool false) (want_none rfl) rfl rfl (.inl rfl) rfl ?_
              refine wl_skip rfl rfl rfl rfl rfl rfl rfl ?_
              refine wl_skip rfl rfl rfl rfl rfl rfl rfl ?_
              refine wl_skip rfl rfl rfl rfl rfl rfl rfl ?_
              refine wl_pick_f (.bool false) (want_none rfl) rfl rfl rfl rfl rfl ?_
              refine wl_mv (.bool false) (want_none rfl) rfl rfl (.inl rfl) rfl ?_
              refine wl_skip rfl rfl rfl rfl rfl rfl rfl ?_
              refine wl_skip rfl rfl rfl rfl rfl rfl rfl ?_
              refine wl_skip rfl rfl rfl rfl rfl rfl rfl ?_
              refine wl_pick_f (.bool false) (want_none rfl) rfl rfl rfl rfl rfl ?_
              refine wl_mv (.bool false) (want_none rfl) rfl rfl (.inr rfl) rfl ?_
              refine wl_nil ?_
              refine wq_then ?_
              refine wc_ret ?_
              refine ret_1 (.inl rfl) (.bool false) rfl rfl ?_
              refine ⟨m53.keep0, ?_⟩
              have hF86 : F_spec_NoteOk x_n = false := by simp only [F_spec_NoteOk, h29, h34, h39, h44, h49, h54, cond_true, cond_false]
              rw [hF86]
              exact rfl
          · skip
            refine wl_skip rfl rfl rfl (congrArg Value.bool h49) rfl rfl rfl ?_
            refine wl_skip rfl rfl rfl (congrArg Value.bool h49) rfl rfl rfl ?_
            refine wl_skip rfl rfl rfl (congrArg Value.bool h49) rfl rfl rfl ?_
            refine wl_pick_f (.bool false) (want_none rfl) rfl rfl rfl (congrArg Value.bool h49) rfl ?_
            refine wl_mv (.bool false) (want_none rfl) rfl rfl (.inl rfl) rfl ?_
            refine wl_skip rfl rfl rfl rfl rfl rfl rfl ?_
            refine wl_skip rfl rfl rfl rfl rfl rfl rfl ?_
            refine wl_skip rfl rfl rfl rfl rfl rfl rfl ?_
            refine wl_pick_f (.bool false) (want_none rfl) rfl rfl rfl rfl rfl ?_
            refine wl_mv (.bool false) (want_none rfl) rfl rfl (.inl rfl) rfl ?_
            refine wl_skip rfl rfl rfl rfl rfl rfl rfl ?_
            refine wl_skip rfl rfl rfl rfl rfl rfl rfl ?_
            refine wl_skip rfl rfl rfl rfl rfl rfl rfl ?_
            refine wl_skip rfl rfl rfl rfl rfl rfl rfl ?_
            refine wl_pick_f (.bool false) (want_none rfl) rfl rfl rfl rfl rfl ?_
            refine wl_mv (.bool false) (want_none rfl) rfl rfl (.inl rfl) rfl ?_
            refine wl_skip rfl rfl rfl rfl rfl rfl rfl ?_
            refine wl_skip rfl rfl rfl rfl rfl rfl rfl ?_
            refine wl_skip rfl rfl rfl rfl rfl rfl rfl ?_
            refine wl_skip rfl rfl rfl rfl rfl rfl rfl ?_
            refine wl_pick_f (.bool false) (want_none rfl) rfl rfl rfl rfl rfl ?_
            refine wl_mv (.bool false) (want_none rfl) rfl rfl (.inl rfl) rfl ?_
            refine wl_skip rfl rfl rfl rfl rfl rfl rfl ?_
            refine wl_skip rfl rfl rfl rfl rfl rfl rfl ?_
            refine wl_skip rfl rfl rfl rfl rfl rfl rfl ?_
            refine wl_pick_f (.bool false) (want_none rfl) rfl rfl rfl rfl rfl ?_
            refine wl_mv (.bool false) (want_none rfl) rfl rfl (.inl rfl) rfl ?_
            refine wl_skip rfl rfl rfl rfl rfl rfl rfl ?_
            refine wl_skip rfl rfl rfl rfl rfl rfl rfl ?_
            refine wl_skip rfl rfl rfl rfl rfl rfl rfl ?_
            refine wl_pick_f (.bool false) (want_none rfl) rfl rfl rfl rfl rfl ?_
            refine wl_mv (.bool false) (want_none rfl) rfl rfl (.inr rfl) rfl ?_
            refine wl_nil ?_
            refine wq_then ?_
            refine wc_ret ?_
            refine ret_1 (.inl rfl) (.bool false) rfl rfl ?_
            refine ⟨m48.keep0, ?_⟩
            have hF88 : F_spec_NoteOk x_n = false := by simp only [F_spec_NoteOk, h29, h34, h39, h44, h49, cond_true, cond_false]
            rw [hF88]
            exact rfl
        · skip
          refine wl_skip rfl rfl rfl (congrArg Value.bool h44) rfl rfl rfl ?_
          refine wl_skip rfl rfl rfl (congrArg Value.bool h44) rfl rfl rfl ?_
          refine wl_skip rfl rfl rfl (congrArg Value.bool h44) rfl rfl rfl ?_
          refine wl_skip rfl rfl rfl (congrArg Value.bool h44) rfl rfl rfl ?_
          refine wl_pick_f (.bool false) (want_none rfl) rfl rfl rfl (congrArg Value.bool h44) rfl ?_
          refine wl_mv (.bool false) (want_none rfl) rfl rfl (.inl rfl) rfl ?_
          refine wl_skip rfl rfl rfl rfl rfl rfl rfl ?_
          refine wl_skip rfl rfl rfl rfl rfl rfl rfl ?_
          refine wl_skip rfl rfl rfl rfl rfl rfl rfl ?_
          refine wl_pick_f (.bool false) (want_none rfl) rfl rfl rfl rfl rfl ?_
          refine wl_mv (.bool false) (want_none rfl) rfl rfl (.inl rfl) rfl ?_
          refine wl_skip rfl rfl rfl rfl rfl rfl rfl ?_
          refine wl_skip rfl rfl rfl rfl rfl rfl rfl ?_
          refine wl_skip rfl rfl rfl rfl rfl rfl rfl ?_
          refine wl_pick_f (.bool false) (want_none rfl) rfl rfl rfl rfl rfl ?_
          refine wl_mv (.bool false) (want_none rfl) rfl rfl (.inl rfl) rfl ?_
          refine wl_skip rfl rfl rfl rfl rfl rfl rfl ?_
          refine wl_skip rfl rfl rfl rfl rfl rfl rfl ?_
          refine wl_skip rfl rfl rfl rfl rfl rfl rfl ?_
          refine wl_skip rfl rfl rfl rfl rfl rfl rfl ?_
          refine wl_pick_f (.bool false) (want_none rfl) rfl rfl rfl rfl rfl ?_
          refine wl_mv (.bool false) (want_none rfl) rfl rfl (.inl rfl) rfl ?_
          refine wl_skip rfl rfl rfl rfl rfl rfl rfl ?_
          refine wl_skip rfl rfl rfl rfl rfl rfl rfl ?_
          refine wl_skip rfl rfl rfl rfl rfl rfl rfl ?_
          refine wl_skip rfl rfl rfl rfl rfl rfl rfl ?_
          refine wl_pick_f (.bool false) (want_none rfl) rfl rfl rfl rfl rfl ?_
          refine wl_mv (.bool false) (want_none rfl) rfl rfl (.inl rfl) rfl ?_
          refine wl_skip rfl rfl rfl rfl rfl rfl rfl ?_
          refine wl_skip rfl rfl rfl rfl rfl rfl rfl ?_
          refine wl_skip rfl rfl rfl rfl rfl rfl rfl ?_
          refine wl_pick_f (.bool false) (want_none rfl) rfl rfl rfl rfl rfl ?_
          refine wl_mv (.bool false) (want_none rfl) rfl rfl (.inl rfl) rfl ?_
          refine wl_skip rfl rfl rfl rfl rfl rfl rfl ?_
          refine wl_skip rfl rfl rfl rfl rfl rfl rfl ?_
          refine wl_skip rfl rfl rfl rfl rfl rfl rfl ?_
          refine wl_pick_f (.bool false) (want_none rfl) rfl rfl rfl rfl rfl ?_
          refine wl_mv (.bool false) (want_none rfl) rfl rfl (.inr rfl) rfl ?_
          refine wl_nil ?_
          refine wq_then ?_
          refine wc_ret ?_
          refine ret_1 (.inl rfl) (.bool false) rfl rfl ?_
          refine ⟨m43.keep0, ?_⟩
          have hF90 : F_spec_NoteOk x_n = false := by simp only [F_spec_NoteOk, h29, h34, h39, h44, cond_true, cond_false]
          rw [hF90]
          exact rfl
      · have q91 := spec_l1In_f h39
        refine wl_skip rfl rfl rfl (congrArg Value.bool h39) rfl rfl rfl ?_
        refine wl_skip rfl rfl rfl (congrArg Value.bool h39) rfl rfl rfl ?_
        refine wl_skip rfl rfl rfl (congrArg Value.bool h39) rfl rfl rfl ?_
        refine wl_skip rfl rfl rfl (congrArg Value.bool h39) rfl rfl rfl ?_
        refine wl_pick_f (.bool false) (want_none rfl) rfl rfl rfl (congrArg Value.bool h39) rfl ?_
        refine wl_mv (.bool false) (want_none rfl) rfl rfl (.inl rfl) rfl ?_
        refine wl_skip rfl rfl rfl rfl rfl rfl rfl ?_
        refine wl_skip rfl rfl rfl rfl rfl rfl rfl ?_
        refine wl_skip rfl rfl rfl rfl rfl rfl rfl ?_
        refine wl_skip rfl rfl rfl rfl rfl rfl rfl ?_
        refine wl_pick_f (.bool false) (want_none rfl) rfl rfl rfl rfl rfl ?_
        refine wl_mv (.bool false) (want_none rfl) rfl rfl (.inl rfl) rfl ?_
        refine wl_skip rfl rfl rfl rfl rfl rfl rfl ?_
        refine wl_skip rfl rfl rfl rfl rfl rfl rfl ?_
        refine wl_skip rfl rfl rfl rfl rfl rfl rfl ?_
        refine wl_pick_f (.bool false) (want_none rfl) rfl rfl rfl rfl rfl ?_
        refine wl_mv (.bool false) (want_none rfl) rfl rfl (.inl rfl) rfl ?_
        refine wl_skip rfl rfl rfl rfl rfl rfl rfl ?_
        refine wl_skip rfl rfl rfl rfl rfl rfl rfl ?_
        refine wl_skip rfl rfl rfl rfl rfl rfl rfl ?_
        refine wl_pick_f (.bool false) (want_none rfl) rfl rfl rfl rfl rfl ?_
        refine wl_mv (.bool false) (want_none rfl) rfl rfl (.inl rfl) rfl ?_
        refine wl_skip rfl rfl rfl rfl rfl rfl rfl ?_
        refine wl_skip rfl rfl rfl rfl rfl rfl rfl ?_
        refine wl_skip rfl rfl rfl rfl rfl rfl rfl ?_
        refine wl_skip rfl rfl rfl rfl rfl rfl rfl ?_
        refine wl_pick_f (.bool false) (want_none rfl) rfl rfl rfl rfl rfl ?_
        refine wl_mv (.bool false) (want_none rfl) rfl rfl (.inl rfl) rfl ?_
        refine wl_skip rfl rfl rfl rfl rfl rfl rfl ?_
        refine wl_skip rfl rfl rfl rfl rfl rfl rfl ?_
        refine wl_skip rfl rfl rfl rfl rfl rfl rfl ?_
        refine wl_skip rfl rfl rfl rfl rfl rfl rfl ?_
        refine wl_pick_f (.bool false) (want_none rfl) rfl rfl rfl rfl rfl ?_
        refine wl_mv (.bool false) (want_none rfl) rfl rfl (.inl rfl) rfl ?_
        refine wl_skip rfl rfl rfl rfl rfl rfl rfl ?_
        refine wl_skip rfl rfl rfl rfl rfl rfl rfl ?_
        refine wl_skip rfl rfl rfl rfl rfl rfl rfl ?_
        refine wl_pick_f (.bool false) (want_none rfl) rfl rfl rfl rfl rfl ?_
        refine wl_mv (.bool false) (want_none rfl) rfl rfl (.inl rfl) rfl ?_
        refine wl_skip rfl rfl rfl rfl rfl rfl rfl ?_
        refine wl_skip rfl rfl rfl rfl rfl rfl rfl ?_
        refine wl_skip rfl rfl rfl rfl rfl rfl rfl ?_
        refine wl_pick_f (.bool false) (want_none rfl) rfl rfl rfl rfl rfl ?_
        refine wl_mv (.bool false) (want_none rfl) rfl rfl (.inr rfl) rfl ?_
        refine wl_nil ?_
        refine wq_then ?_
        refine wc_ret ?_
        refine ret_1 (.inl rfl) (.bool false) rfl rfl ?_
        refine ⟨m38.keep0, ?_⟩
        have hF92 : F_spec_NoteOk x_n = false := by simp only [F_spec_NoteOk, h29, h34, h39, cond_true, cond_false]
        rw [hF92]
        exact rfl
    · have q93 := spec_l1In_f h34
      refine wl_skip rfl rfl rfl (congrArg Value.bool h34) rfl rfl rfl ?_
      refine wl_skip rfl rfl rfl (congrArg Value.bool h34) rfl rfl rfl ?_
      refine wl_skip rfl rfl rfl (congrArg Value.bool h34) rfl rfl rfl ?_
      refine wl_pick_f (.bool false) (want_none rfl) rfl rfl rfl (congrArg Value.bool h34) rfl ?_
      refine wl_mv (.bool false) (want_none rfl) rfl rfl (.inl rfl) rfl ?_
      refine wl_skip rfl rfl rfl rfl rfl rfl rfl ?_
      refine wl_skip rfl rfl rfl rfl rfl rfl rfl ?_
      refine wl_skip rfl rfl rfl rfl rfl rfl rfl ?_
      refine wl_skip rfl rfl rfl rfl rfl rfl rfl ?_
      refine wl_pick_f (.bool false) (want_none rfl) rfl rfl rfl rfl rfl ?_
      refine wl_mv (.bool false) (want_none rfl) rfl rfl (.inl rfl) rfl ?_
      refine wl_skip rfl rfl rfl rfl rfl rfl rfl ?_
      refine wl_skip rfl rfl rfl rfl rfl rfl rfl ?_
      refine wl_skip rfl rfl rfl rfl rfl rfl rfl ?_
      refine wl_skip rfl rfl rfl rfl rfl rfl rfl ?_
      refine wl_pick_f (.bool false) (want_none rfl) rfl rfl rfl rfl rfl ?_
      refine wl_mv (.bool false) (want_none rfl) rfl rfl (.inl rfl) rfl ?_
      refine wl_skip rfl rfl rfl rfl rfl rfl rfl ?_
      refine wl_skip rfl rfl rfl rfl rfl rfl rfl ?_
      refine wl_skip rfl rfl rfl rfl rfl rfl rfl ?_
      refine wl_pick_f (.bool false) (want_none rfl) rfl rfl rfl rfl rfl ?_
      refine wl_mv (.bool false) (want_none rfl) rfl rfl (.inl rfl) rfl ?_
      refine wl_skip rfl rfl rfl rfl rfl rfl rfl ?_
      refine wl_skip rfl rfl rfl rfl rfl rfl rfl ?_
      refine wl_skip rfl rfl rfl rfl rfl rfl rfl ?_
      refine wl_pick_f (.bool false) (want_none rfl) rfl rfl rfl rfl rfl ?_
      refine wl_mv (.bool false) (want_none rfl) rfl rfl (.inl rfl) rfl ?_
      refine wl_skip rfl rfl rfl rfl rfl rfl rfl ?_
      refine wl_skip rfl rfl rfl rfl rfl rfl rfl ?_
      refine wl_skip rfl rfl rfl rfl rfl rfl rfl ?_
      refine wl_skip rfl rfl rfl rfl rfl rfl rfl ?_
      refine wl_pick_f (.bool false) (want_none rfl) rfl rfl rfl rfl rfl ?_
      refine wl_mv (.bool false) (want_none rfl) rfl rfl (.inl rfl) rfl ?_
      refine wl_skip rfl rfl rfl rfl rfl rfl rfl ?_
      refine wl_skip rfl rfl rfl rfl rfl rfl rfl ?_
      refine wl_skip rfl rfl rfl rfl rfl rfl rfl ?_
      refine wl_skip rfl rfl rfl rfl rfl rfl rfl ?_
      refine wl_pick_f (.bool false) (want_none rfl) rfl rfl rfl rfl rfl ?_
      refine wl_mv (.bool false) (want_none rfl) rfl rfl (.inl rfl) rfl ?_
      refine wl_skip rfl rfl rfl rfl rfl rfl rfl ?_
      refine wl_skip rfl rfl rfl rfl rfl rfl rfl ?_
      refine wl_skip rfl rfl rfl rfl rfl rfl rfl ?_
      refine wl_pick_f (.bool false) (want_none rfl) rfl rfl rfl rfl rfl ?_
      refine wl_mv (.bool false) (want_none rfl) rfl rfl (.inl rfl) rfl ?_
      refine wl_skip rfl rfl rfl rfl rfl rfl rfl ?_
      refine wl_skip rfl rfl rfl rfl rfl rfl rfl ?_
      refine wl_skip rfl rfl rfl rfl rfl rfl rfl ?_
      refine wl_pick_f (.bool false) (want_none rfl) rfl rfl rfl rfl rfl ?_
      refine wl_mv (.bool false) (want_none rfl) rfl rfl (.inr rfl) rfl ?_
      refine wl_nil ?_
      refine wq_then ?_
      refine wc_ret ?_
      refine ret_1 (.inl rfl) (.bool false) rfl rfl ?_
      refine ⟨m33.keep0, ?_⟩
      have hF94 : F_spec_NoteOk x_n = false := by simp only [F_spec_NoteOk, h29, h34, cond_true, cond_false]
      rw [hF94]
      exact rfl
  · have q95 := spec_l1In_f h29
    refine wl_skip rfl rfl rfl (congrArg Value.bool h29) rfl rfl rfl ?_
    refine wl_skip rfl rfl rfl (congrArg Value.bool h29) rfl rfl rfl ?_
    refine wl_skip rfl rfl rfl (congrArg Value.bool h29) rfl rfl rfl ?_
    refine wl_pick_f (.bool false) (want_none rfl) rfl rfl rfl (congrArg Value.bool h29) rfl ?_
    refine wl_mv (.bool false) (want_none rfl) rfl rfl (.inl rfl) rfl ?_
    refine wl_skip rfl rfl rfl rfl rfl rfl rfl ?_
    refine wl_skip rfl rfl rfl rfl rfl rfl rfl ?_
    refine wl_skip rfl rfl rfl rfl rfl rfl rfl ?_
    refine wl_pick_f (.bool false) (want_none rfl) rfl rfl rfl rfl rfl ?_
    refine wl_mv (.bool false) (want_none rfl) rfl rfl (.inl rfl) rfl ?_
    refine wl_skip rfl rfl rfl rfl rfl rfl rfl ?_
    refine wl_skip rfl rfl rfl rfl rfl rfl rfl ?_
    refine wl_skip rfl rfl rfl rfl rfl rfl rfl ?_
    refine wl_skip rfl rfl rfl rfl rfl rfl rfl ?_
    refine wl_pick_f (.bool false) (want_none rfl) rfl rfl rfl rfl rfl ?_
    refine wl_mv (.bool false) (want_none rfl) rfl rfl (.inl rfl) rfl ?_
    refine wl_skip rfl rfl rfl rfl rfl rfl rfl ?_
    refine wl_skip rfl rfl rfl rfl rfl rfl rfl ?_
    refine wl_skip rfl rfl rfl rfl rfl rfl rfl ?_
    refine wl_skip rfl rfl rfl rfl rfl rfl rfl ?_
    refine wl_pick_f (.bool false) (want_none rfl) rfl rfl rfl rfl rfl ?_
    refine wl_mv (.bool false) (want_none rfl) rfl rfl (.inl rfl) rfl ?_
    refine wl_skip rfl rfl rfl rfl rfl rfl rfl ?_
    refine wl_skip rfl rfl rfl rfl rfl rfl rfl ?_
    refine wl_skip rfl rfl rfl rfl rfl rfl rfl ?_
    refine wl_pick_f (.bool false) (want_none rfl) rfl rfl rfl rfl rfl ?_
    refine wl_mv (.bool false) (want_none rfl) rfl rfl (.inl rfl) rfl ?_
    refine wl_skip rfl rfl rfl rfl rfl rfl rfl ?_
    refine wl_skip rfl rfl rfl rfl rfl rfl rfl ?_
    refine wl_skip rfl rfl rfl rfl rfl rfl rfl ?_
    refine wl_pick_f (.bool false) (want_none rfl) rfl rfl rfl rfl rfl ?_
    refine wl_mv (.bool false) (want_none rfl) rfl rfl (.inl rfl) rfl ?_
    refine wl_skip rfl rfl rfl rfl rfl rfl rfl ?_
    refine wl_skip rfl rfl rfl rfl rfl rfl rfl ?_
    refine wl_skip rfl rfl rfl rfl rfl rfl rfl ?_
    refine wl_skip rfl rfl rfl rfl rfl rfl rfl ?_
    refine wl_pick_f (.bool false) (want_none rfl) rfl rfl rfl rfl rfl ?_
    refine wl_mv (.bool false) (want_none rfl) rfl rfl (.inl rfl) rfl ?_
    refine wl_skip rfl rfl rfl rfl rfl rfl rfl ?_
    refine wl_skip rfl rfl rfl rfl rfl rfl rfl ?_
    refine wl_skip rfl rfl rfl rfl rfl rfl rfl ?_
    refine wl_skip rfl rfl rfl rfl rfl rfl rfl ?_
    refine wl_pick_f (.bool false) (want_none rfl) rfl rfl rfl rfl rfl ?_
    refine wl_mv (.bool false) (want_none rfl) rfl rfl (.inl rfl) rfl ?_
    refine wl_skip rfl rfl rfl rfl rfl rfl rfl ?_
    refine wl_skip rfl rfl rfl rfl rfl rfl rfl ?_
    refine wl_skip rfl rfl rfl rfl rfl rfl rfl ?_
    refine wl_pick_f (.bool false) (want_none rfl) rfl rfl rfl rfl rfl ?_
    refine wl_mv (.bool false) (want_none rfl) rfl rfl (.inl rfl) rfl ?_
    refine wl_skip rfl rfl rfl rfl rfl rfl rfl ?_
    refine wl_skip rfl rfl rfl rfl rfl rfl rfl ?_
    refine wl_skip rfl rfl rfl rfl rfl rfl rfl ?_
    refine wl_pick_f (.bool false) (want_none rfl) rfl rfl rfl rfl rfl ?_
    refine wl_mv (.bool false) (want_none rfl) rfl rfl (.inr rfl) rfl ?_
    refine wl_nil ?_
    refine wq_then ?_
    refine wc_ret ?_
    refine ret_1 (.inl rfl) (.bool false) rfl rfl ?_
    refine ⟨m28.keep0, ?_⟩
    have hF96 : F_spec_NoteOk x_n = false := by simp only [F_spec_NoteOk, h29, cond_true, cond_false]
    rw [hF96]
    exact rfl

def F_impl_emptyOr (x_b : List UInt8) (x_n : Int) : (Bool) := bif (decide ((x_b.length : Int) = 0)) then (true) else (decide ((x_b.length : Int) = x_n))
theorem C_impl_emptyOr (w0 : World) (v_x_b : Value) (x_b : List UInt8) (r_x_b : R_22 w0 v_x_b x_b) (x_n : Int)  : Fn Try.prog 89 #[v_x_b, (.int .i64 x_n)] w0 (fun v w' => Keep w0 w' ∧ O_4 w' w0.heap.size v (F_impl_emptyOr x_b x_n)) := by
  obtain ⟨a1, c2, rfl, r3, s4⟩ := r_x_b
  refine fn_of (n := 14) (l := [(.slice a1 x_b.length c2), (.int .i64 x_n), undef, undef, undef, undef, undef, undef, undef, undef, undef, undef, undef, undef]) Try.func89 rfl rfl (by kernel_rfl) rfl ?_
  refine wc_seq ?_
  refine wc_region ?_
  refine wl_mv (.bool false) (want_none rfl) rfl rfl (.inr rfl) rfl ?_
  refine wl_nil ?_
  refine wq_then ?_
  refine wc_seq ?_
  refine wc_region ?_
  refine wl_mv (.slice a1 x_b.length c2) (want_none rfl) rfl rfl (.inl rfl) rfl ?_
  refine wl_len (want_none rfl) rfl rfl rfl slTy_22 rfl r3 ?_
  refine wl_pure (.bool (decide ((x_b.length : Int) = 0))) (want_none rfl) rfl rfl (by kernel_rfl) ?_
  refine wl_mv (.bool (decide ((x_b.length : Int) = 0))) (want_none rfl) rfl rfl (.inl rfl) rfl ?_
  rcases Bool.eq_false_or_eq_true (decide ((x_b.length : Int) = 0)) with h6 | h6
  · have q7 := of_decide_eq_true h6
    refine wl_skip rfl rfl rfl (congrArg Value.bool h6) rfl rfl rfl ?_
    refine wl_skip rfl rfl rfl (congrArg Value.bool h6) rfl rfl rfl ?_
    refine wl_skip rfl rfl rfl (congrArg Value.bool h6) rfl rfl rfl ?_
    refine wl_skip rfl rfl rfl (congrArg Value.bool h6) rfl rfl rfl ?_
    refine wl_pick_t (.bool true) (want_none rfl) rfl rfl rfl (congrArg Value.bool h6) rfl ?_
    refine wl_mv (.bool true) (want_none rfl) rfl rfl (.inr rfl) rfl ?_
    refine wl_nil ?_
    refine wq_then ?_
    refine wc_ret ?_
    refine ret_1 (.inl rfl) (.bool true) rfl rfl ?_
    refine ⟨Ch.refl _ _, ?_⟩
    have hF8 : F_impl_emptyOr x_b x_n = true := by simp only [F_impl_emptyOr, h6, cond_true, cond_false]
    rw [hF8]
    exact rfl
  · have q9 := of_decide_eq_false h6
    refine wl_mv (.slice a1 x_b.length c2) (want_some rfl rfl rfl (congrArg Value.bool h6)) rfl rfl (.inl rfl) rfl ?_
    refine wl_len (want_some rfl rfl rfl (congrArg Value.bool h6)) rfl rfl rfl slTy_22 rfl r3 ?_
    refine wl_mv (.int .i64 x_n) (want_some rfl rfl rfl (congrArg Value.bool h6)) rfl rfl (.inl rfl) rfl ?_
    refine wl_pure (.bool (decide ((x_b.length : Int) = x_n))) (want_some rfl rfl rfl (congrArg Value.bool h6)) rfl rfl (by kernel_rfl) ?_
    refine wl_pick_f (.bool (decide ((x_b.length : Int) = x_n))) (want_none rfl) rfl rfl rfl (congrArg Value.bool h6) rfl ?_
    refine wl_mv (.bool (decide ((x_b.length : Int) = x_n))) (want_none rfl) rfl rfl (.inr rfl) rfl ?_
    refine wl_nil ?_
    refine wq_then ?_
    refine wc_ret ?_
    refine ret_1 (.inl rfl) (.bool (decide ((x_b.length : Int) = x_n))) rfl rfl ?_
    refine ⟨Ch.refl _ _, ?_⟩
    have hF10 : F_impl_emptyOr x_b x_n = decide ((x_b.length : Int) = x_n) := by simp only [F_impl_emptyOr, h6, cond_true, cond_false]
    rw [hF10]
    exact rfl

def F_impl_AddrOk (x_a : PAddr) : (Bool) := bif (F_impl_within x_a.Host 0 4294967295) then ((F_impl_within x_a.Port 0 65535)) else (false)
theorem C_impl_AddrOk (w0 : World) (v_x_a : Value) (x_a : PAddr) (r_x_a : R_61 w0 v_x_a x_a)  : Fn Try.prog 90 #[v_x_a] w0 (fun v w' => Keep w0 w' ∧ O_4 w' w0.heap.size v (F_impl_AddrOk x_a)) := by
  obtain rfl := r_x_a
  refine fn_of (n := 11) (l := [(.agg #[(.int .i64 x_a.Host), (.int .i64 x_a.Port)]), undef, undef, undef, undef, undef, undef, undef, undef, undef, undef]) Try.func90 rfl rfl (by kernel_rfl) rfl ?_
  refine wc_seq ?_
  refine wc_region ?_
  refine wl_box (want_none rfl) [(.int .i64 x_a.Host), (.int .i64 x_a.Port)] rfl rfl rfl rfl ?_
  intro g1 w1 p2 p3 k4 b5
  have m6 := (Ch.base w0).extk k4
  refine wl_mv (.bool false) (want_none rfl) rfl rfl (.inr rfl) rfl ?_
  refine wl_nil ?_
  refine wq_then ?_
  refine wc_seq ?_
  refine wc_region ?_
  refine wl_pure (.pointer (some ⟨g1, 0, none⟩)) (want_none rfl) rfl rfl (by kernel_rfl) ?_
  refine wl_load1 (.int .i64 x_a.Host) (want_none rfl) rfl rfl rfl rfl isAgg_3 b5 rfl ?_
  refine wl_call (want_none rfl) (args := #[(.int .i64 x_a.Host), (.int .i64 0), (.int .i64 4294967295)]) rfl rfl (by kernel_rfl) (C_impl_within w1 x_a.Host 0 4294967295) ?_
  rintro _ w2 ⟨k7, rfl⟩
  have m8 := m6.extk k7
  refine wl_mv (.bool (F_impl_within x_a.Host 0 4294967295)) (want_none rfl) rfl rfl (.inl rfl) rfl ?_
  rcases Bool.eq_false_or_eq_true (F_impl_within x_a.Host 0 4294967295) with h9 | h9
  · have q10 := impl_within_t h9
    refine wl_pure (.pointer (some ⟨g1, 1, none⟩)) (want_some rfl rfl rfl (congrArg Value.bool h9)) rfl rfl (by kernel_rfl) ?_
    have b11 := (b5.kp k7)
    refine wl_load1 (.int .i64 x_a.Port) (want_some rfl rfl rfl (congrArg Value.bool h9)) rfl rfl rfl rfl isAgg_3 b11 rfl ?_
    refine wl_call (want_some rfl rfl rfl (congrArg Value.bool h9)) (args := #[(.int .i64 x_a.Port), (.int .i64 0), (.int .i64 65535)]) rfl rfl (by kernel_rfl) (C_impl_within w2 x_a.Port 0 65535) ?_
    rintro _ w3 ⟨k12, rfl⟩
    have m13 := m8.extk k12
    refine wl_pick_t (.bool (F_impl_within x_a.Port 0 65535)) (want_none rfl) rfl rfl rfl (congrArg Value.bool h9) rfl ?_
    refine wl_mv (.bool (F_impl_within x_a.Port 0 65535)) (want_none rfl) rfl rfl (.inr rfl) rfl ?_
    refine wl_nil ?_
    refine wq_then ?_
    refine wc_ret ?_
    refine ret_1 (.inl rfl) (.bool (F_impl_within x_a.Port 0 65535)) rfl rfl ?_
    refine ⟨m13.keep0, ?_⟩
    have hF14 : F_impl_AddrOk x_a = (F_impl_within x_a.Port 0 65535) := by simp only [F_impl_AddrOk, h9, cond_true, cond_false]
    rw [hF14]
    exact rfl
  · have q15 := impl_within_f h9
    refine wl_skip rfl rfl rfl (congrArg Value.bool h9) rfl rfl rfl ?_
    refine wl_skip rfl rfl rfl (congrArg Value.bool h9) rfl rfl rfl ?_
    refine wl_skip rfl rfl rfl (congrArg Value.bool h9) rfl rfl rfl ?_
    refine wl_pick_f (.bool false) (want_none rfl) rfl rfl rfl (congrArg Value.bool h9) rfl ?_
    refine wl_mv (.bool false) (want_none rfl) rfl rfl (.inr rfl) rfl ?_
    refine wl_nil ?_
    refine wq_then ?_
    refine wc_ret ?_
    refine ret_1 (.inl rfl) (.bool false) rfl rfl ?_
    refine ⟨m8.keep0, ?_⟩
    have hF16 : F_impl_AddrOk x_a = false := by simp only [F_impl_AddrOk, h9, cond_true, cond_false]
    rw [hF16]
    exact rfl

def F_impl_NoteOk (x_n : PNote) : (Bool) := bif (F_impl_within x_n.Kind 1 17) then (bif (F_impl_within x_n.Id 0 9) then (bif (F_impl_within x_n.Role 0 1) then (bif (F_impl_within x_n.Epoch 0 4294967295) then (bif (F_impl_within x_n.Seq 0 281474976710655) then (bif (F_impl_within x_n.Now 0 1000000) then (bif (F_impl_emptyOr x_n.Cn 12) then (bif (F_impl_emptyOr x_n.Sn 12) then (bif (decide ((x_n.Body.length : Int) ≤ 100)) then (bif (F_impl_emptyOr x_n.Key 32) then ((F_impl_AddrOk x_n.A)) else (false)) else (false)) else (false)) else (false)) else (false)) else (false)) else (false)) else (false)) else (false)) else (false)
theorem C_impl_NoteOk (w0 : World) (v_x_n : Value) (x_n : PNote) (r_x_n : R_63 w0 v_x_n x_n)  : Fn Try.prog 45 #[v_x_n] w0 (fun v w' => Keep w0 w' ∧ O_4 w' w0.heap.size v (F_impl_NoteOk x_n)) := by
  obtain ⟨a1, c2, a6, c7, a11, c12, a16, c17, rfl, r3, s4, r8, s9, r13, s14, r18, s19⟩ := r_x_n
  refine fn_of (n := 57) (l := [(.agg #[(.int .i64 x_n.Kind), (.int .i64 x_n.Id), (.int .i64 x_n.Role), (.slice a1 x_n.Cn.length c2), (.slice a6 x_n.Sn.length c7), (.int .i64 x_n.Epoch), (.int .i64 x_n.Seq), (.slice a11 x_n.Body.length c12), (.slice a16 x_n.Key.length c17), (.int .i64 x_n.A.Host), (.int .i64 x_n.A.Port), (.int .i64 x_n.Now)]), undef, undef, undef, undef, undef, undef, undef, undef, undef, undef, undef, undef, undef, undef, undef, undef, undef, undef, undef, undef, undef, undef, undef, undef, undef, undef, undef, undef, undef, undef, undef, undef, undef, undef, undef, undef, undef, undef, undef, undef, undef, undef, undef, undef, undef, undef, undef, undef, undef, undef, undef, undef, undef, undef, undef, undef]) Try.func45 rfl rfl (by kernel_rfl) rfl ?_
  refine wc_seq ?_
  refine wc_region ?_
  refine wl_box (want_none rfl) [(.int .i64 x_n.Kind), (.int .i64 x_n.Id), (.int .i64 x_n.Role), (.slice a1 x_n.Cn.length c2), (.slice a6 x_n.Sn.length c7), (.int .i64 x_n.Epoch), (.int .i64 x_n.Seq), (.slice a11 x_n.Body.length c12), (.slice a16 x_n.Key.length c17), (.int .i64 x_n.A.Host), (.int .i64 x_n.A.Port), (.int .i64 x_n.Now)] rfl rfl rfl rfl ?_
  intro g21 w1 p22 p23 k24 b25
  have m26 := (Ch.base w0).extk k24
  refine wl_mv (.bool false) (want_none rfl) rfl rfl (.inr rfl) rfl ?_
  refine wl_nil ?_
  refine wq_then ?_
  refine wc_seq ?_
  refine wc_region ?_
  refine wl_pure (.pointer (some ⟨g21, 0, none⟩)) (want_none rfl) rfl rfl (by kernel_rfl) ?_
  refine wl_load1 (.int .i64 x_n.Kind) (want_none rfl) rfl rfl rfl rfl isAgg_3 b25 rfl ?_
  refine wl_call (want_none rfl) (args := #[(.int .i64 x_n.Kind), (.int .i64 1), (.int .i64 17)]) rfl rfl (by kernel_rfl) (C_impl_within w1 x_n.Kind 1 17) ?_
  rintro _ w2 ⟨k27, rfl⟩
  have m28 := m26.extk k27
  refine wl_mv (.bool (F_impl_within x_n.Kind 1 17)) (want_none rfl) rfl rfl (.inl rfl) rfl ?_
  rcases Bool.eq_false_or_eq_true (F_impl_within x_n.Kind 1 17) with h29 | h29
  · have q30 := impl_within_t h29
    refine wl_pure (.pointer (some ⟨g21, 1, none⟩)) (want_some rfl rfl rfl (congrArg Value.bool h29)) rfl rfl (by kernel_rfl) ?_
    have b31 := (b25.kp k27)
    refine wl_load1 (.int .i64 x_n.Id) (want_some rfl rfl rfl (congrArg Value.bool h29)) rfl rfl rfl rfl isAgg_3 b31 rfl ?_
    refine wl_call (want_some rfl rfl rfl (congrArg Value.bool h29)) (args := #[(.int .i64 x_n.Id), (.int .i64 0), (.int .i64 9)]) rfl rfl (by kernel_rfl) (C_impl_within w2 x_n.Id 0 9) ?_
    rintro _ w3 ⟨k32, rfl⟩
    have m33 := m28.extk k32
    refine wl_pick_t (.bool (F_impl_within x_n.Id 0 9)) (want_none rfl) rfl rfl rfl (congrArg Value.bool h29) rfl ?_
    refine wl_mv (.bool (F_impl_within x_n.Id 0 9)) (want_none rfl) rfl rfl (.inl rfl) rfl ?_
    rcases Bool.eq_false_or_eq_true (F_impl_within x_n.Id 0 9) with h34 | h34
    · have q35 := impl_within_t h34
      refine wl_pure (.pointer (some ⟨g21, 2, none⟩)) (want_some rfl rfl rfl (congrArg Value.bool h34)) rfl rfl (by kernel_rfl) ?_
      have b36 := (b31.kp k32)
      refine wl_load1 (.int .i64 x_n.Role) (want_some rfl rfl rfl (congrArg Value.bool h34)) rfl rfl rfl rfl isAgg_3 b36 rfl ?_
      refine wl_call (want_some rfl rfl rfl (congrArg Value.bool h34)) (args := #[(.int .i64 x_n.Role), (.int .i64 0), (.int .i64 1)]) rfl rfl (by kernel_rfl) (C_impl_within w3 x_n.Role 0 1) ?_
      rintro _ w4 ⟨k37, rfl⟩
      have m38 := m33.extk k37
      refine wl_pick_t (.bool (F_impl_within x_n.Role 0 1)) (want_none rfl) rfl rfl rfl (congrArg Value.bool h34) rfl ?_
      refine wl_mv (.bool (F_impl_within x_n.Role 0 1)) (want_none rfl) rfl rfl (.inl rfl) rfl ?_
      rcases Bool.eq_false_or_eq_true (F_impl_within x_n.Role 0 1) with h39 | h39
      · have q40 := impl_within_t h39
        refine wl_pure (.pointer (some ⟨g21, 5, none⟩)) (want_some rfl rfl rfl (congrArg Value.bool h39)) rfl rfl (by kernel_rfl) ?_
        have b41 := (b36.kp k37)
        refine wl_load1 (.int .i64 x_n.Epoch) (want_some rfl rfl rfl (congrArg Value.bool h39)) rfl rfl rfl rfl isAgg_3 b41 rfl ?_
        refine wl_call (want_some rfl rfl rfl (congrArg Value.bool h39)) (args := #[(.int .i64 x_n.Epoch), (.int .i64 0), (.int .i64 4294967295)]) rfl rfl (by kernel_rfl) (C_impl_within w4 x_n.Epoch 0 4294967295) ?_
        rintro _ w5 ⟨k42, rfl⟩
        have m43 := m38.extk k42
        refine wl_pick_t (.bool (F_impl_within x_n.Epoch 0 4294967295)) (want_none rfl) rfl rfl rfl (congrArg Value.bool h39) rfl ?_
        refine wl_mv (.bool (F_impl_within x_n.Epoch 0 4294967295)) (want_none rfl) rfl rfl (.inl rfl) rfl ?_
        rcases Bool.eq_false_or_eq_true (F_impl_within x_n.Epoch 0 4294967295) with h44 | h44
        · have q45 := impl_within_t h44
          refine wl_pure (.pointer (some ⟨g21, 6, none⟩)) (want_some rfl rfl rfl (congrArg Value.bool h44)) rfl rfl (by kernel_rfl) ?_
          have b46 := (b41.kp k42)
          refine wl_load1 (.int .i64 x_n.Seq) (want_some rfl rfl rfl (congrArg Value.bool h44)) rfl rfl rfl rfl isAgg_3 b46 rfl ?_
          refine wl_call (want_some rfl rfl rfl (congrArg Value.bool h44)) (args := #[(.int .i64 x_n.Seq), (.int .i64 0), (.int .i64 281474976710655)]) rfl rfl (by kernel_rfl) (C_impl_within w5 x_n.Seq 0 281474976710655) ?_
          rintro _ w6 ⟨k47, rfl⟩
          have m48 := m43.extk k47
          refine wl_pick_t (.bool (F_impl_within x_n.Seq 0 281474976710655)) (want_none rfl) rfl rfl rfl (congrArg Value.bool h44) rfl ?_
          refine wl_mv (.bool (F_impl_within x_n.Seq 0 281474976710655)) (want_none rfl) rfl rfl (.inl rfl) rfl ?_
          rcases Bool.eq_false_or_eq_true (F_impl_within x_n.Seq 0 281474976710655) with h49 | h49
          · have q50 := impl_within_t h49
            refine wl_pure (.pointer (some ⟨g21, 11, none⟩)) (want_some rfl rfl rfl (congrArg Value.bool h49)) rfl rfl (by kernel_rfl) ?_
            have b51 := (b46.kp k47)
            refine wl_load1 (.int .i64 x_n.Now) (want_some rfl rfl rfl (congrArg Value.bool h49)) rfl rfl rfl rfl isAgg_3 b51 rfl ?_
            refine wl_call (want_some rfl rfl rfl (congrArg Value.bool h49)) (args := #[(.int .i64 x_n.Now), (.int .i64 0), (.int .i64 1000000)]) rfl rfl (by kernel_rfl) (C_impl_within w6 x_n.Now 0 1000000) ?_
            rintro _ w7 ⟨k52, rfl⟩
            have m53 := m48.extk k52
            refine wl_pick_t (.bool (F_impl_within x_n.Now 0 1000000)) (want_none rfl) rfl rfl rfl (congrArg Value.bool h49) rfl ?_
            refine wl_mv (.bool (F_impl_within x_n.Now 0 1000000)) (want_none rfl) rfl rfl (.inl rfl) rfl ?_
            rcases Bool.eq_false_or_eq_true (F_impl_within x_n.Now 0 1000000) with h54 | h54
            · have q55 := impl_within_t h54
              refine wl_pure (.pointer (some ⟨g21, 3, none⟩)) (want_some rfl rfl rfl (congrArg Value.bool h54)) rfl rfl (by kernel_rfl) ?_
              have b56 := (b51.kp k52)
              refine wl_load1 (.slice a1 x_n.Cn.length c2) (want_some rfl rfl rfl (congrArg Value.bool h54)) rfl rfl rfl rfl isAgg_22 b56 rfl ?_
              refine wl_call (want_some rfl rfl rfl (congrArg Value.bool h54)) (args := #[(.slice a1 x_n.Cn.length c2), (.int .i64 12)]) rfl rfl (by kernel_rfl) (C_impl_emptyOr w7 (.slice a1 x_n.Cn.length c2) x_n.Cn (show R_22 w7 (.slice a1 x_n.Cn.length c2) x_n.Cn from ⟨_, _, rfl, (r3.from0 m53), s4⟩) 12) ?_
              rintro _ w8 ⟨k57, rfl⟩
              have m58 := m53.extk k57
              refine wl_pick_t (.bool (F_impl_emptyOr x_n.Cn 12)) (want_none rfl) rfl rfl rfl (congrArg Value.bool h54) rfl ?_
              refine wl_mv (.bool (F_impl_emptyOr x_n.Cn 12)) (want_none rfl) rfl rfl (.inl rfl) rfl ?_
              rcases Bool.eq_false_or_eq_true (F_impl_emptyOr x_n.Cn 12) with h59 | h59
              · skip
                refine wl_pure (.pointer (some ⟨g21, 4, none⟩)) (want_some rfl rfl rfl (congrArg Value.bool h59)) rfl rfl (by kernel_rfl) ?_
                have b61 := (b56.kp k57)
                refine wl_load1 (.slice a6 x_n.Sn.length c7) (want_some rfl rfl rfl (congrArg Value.bool h59)) rfl rfl rfl rfl isAgg_22 b61 rfl ?_
                refine wl_call (want_some rfl rfl rfl (congrArg Value.bool h59)) (args := #[(.slice a6 x_n.Sn.length c7), (.int .i64 12)]) rfl rfl (by kernel_rfl) (C_impl_emptyOr w8 (.slice a6 x_n.Sn.length c7) x_n.Sn (show R_22 w8 (.slice a6 x_n.Sn.length c7) x_n.Sn from ⟨_, _, rfl, (r8.from0 m58), s9⟩) 12) ?_
                rintro _ w9 ⟨k62, rfl⟩
                have m63 := m58.extk k62
                refine wl_pick_t (.bool (F_impl_emptyOr x_n.Sn 12)) (want_none rfl) rfl rfl rfl (congrArg Value.bool h59) rfl ?_
                refine wl_mv (.bool (F_impl_emptyOr x_n.Sn 12)) (want_none rfl) rfl rfl (.inl rfl) rfl ?_
                rcases Bool.eq_false_or_eq_true (F_impl_emptyOr x_n.Sn 12) with h64 | h64
                · skip
                  refine wl_pure (.pointer (some ⟨g21, 7, none⟩)) (want_some rfl rfl rfl (congrArg Value.bool h64)) rfl rfl (by kernel_rfl) ?_
                  have b66 := (b61.kp k62)
                  refine wl_load1 (.slice a11 x_n.Body.length c12) (want_some rfl rfl rfl (congrArg Value.bool h64)) rfl rfl rfl rfl isAgg_22 b66 rfl ?_
                  refine wl_len (want_some rfl rfl rfl (congrArg Value.bool h64)) rfl rfl rfl slTy_22 rfl (r13.from0 m63) ?_
                  refine wl_pure (.bool (decide ((x_n.Body.length : Int) ≤ 100))) (want_some rfl rfl rfl (congrArg Value.bool h64)) rfl rfl (by kernel_rfl) ?_
                  refine wl_pick_t (.bool (decide ((x_n.Body.length : Int) ≤ 100))) (want_none rfl) rfl rfl rfl (congrArg Value.bool h64) rfl ?_
                  refine wl_mv (.bool (decide ((x_n.Body.length : Int) ≤ 100))) (want_none rfl) rfl rfl (.inl rfl) rfl ?_
                  rcases Bool.eq_false_or_eq_true (decide ((x_n.Body.length : Int) ≤ 100)) with h67 | h67
                  · have q68 := of_decide_eq_true h67
                    refine wl_pure (.pointer (some ⟨g21, 8, none⟩)) (want_some rfl rfl rfl (congrArg Value.bool h67)) rfl rfl (by kernel_rfl) ?_
                    refine wl_load1 (.slice a16 x_n.Key.length c17) (want_some rfl rfl rfl (congrArg Value.bool h67)) rfl rfl rfl rfl isAgg_22 b66 rfl ?_
                    refine wl_call (want_some rfl rfl rfl (congrArg Value.bool h67)) (args := #[(.slice a16 x_n.Key.length c17), (.int .i64 32)]) rfl rfl (by kernel_rfl) (C_impl_emptyOr w9 (.slice a16 x_n.Key.length c17) x_n.Key (show R_22 w9 (.slice a16 x_n.Key.length c17) x_n.Key from ⟨_, _, rfl, (r18.from0 m63), s19⟩) 32) ?_
                    rintro _ w10 ⟨k69, rfl⟩
                    have m70 := m63.extk k69
                    refine wl_pick_t (.bool (F_impl_emptyOr x_n.Key 32)) (want_none rfl) rfl rfl rfl (congrArg Value.bool h67) rfl ?_
                    refine wl_mv (.bool (F_impl_emptyOr x_n.Key 32)) (want_none rfl) rfl rfl (.inl rfl) rfl ?_
                    rcases Bool.eq_false_or_eq_true (F_impl_emptyOr x_n.Key 32) with h71 | h71
                    · skip
                      refine wl_pure (.pointer (some ⟨g21, 9, none⟩)) (want_some rfl rfl rfl (congrArg Value.bool h71)) rfl rfl (by kernel_rfl) ?_
                      have b73 := (b66.kp k69)
                      refine wl_loadN [(.int .i64 x_n.A.Host), (.int .i64 x_n.A.Port)] (want_some rfl rfl rfl (congrArg Value.bool h71)) rfl rfl rfl rfl isAgg_61 sizeOf_61 b73 rfl ?_
                      refine wl_call (want_some rfl rfl rfl (congrArg Value.bool h71)) (args := #[(.agg #[(.int .i64 x_n.A.Host), (.int .i64 x_n.A.Port)])]) rfl rfl (by kernel_rfl) (C_impl_AddrOk w10 (.agg #[(.int .i64 x_n.A.Host), (.int .i64 x_n.A.Port)]) x_n.A (show R_61 w10 (.agg #[(.int .i64 x_n.A.Host), (.int .i64 x_n.A.Port)]) x_n.A from rfl)) ?_
                      rintro _ w11 ⟨k74, rfl⟩
                      have m75 := m70.extk k74
                      refine wl_pick_t (.bool (F_impl_AddrOk x_n.A)) (want_none rfl) rfl rfl rfl (congrArg Value.bool h71) rfl ?_
                      refine wl_mv (.bool (F_impl_AddrOk x_n.A)) (want_none rfl) rfl rfl (.inr rfl) rfl ?_
                      refine wl_nil ?_
                      refine wq_then ?_
                      refine wc_ret ?_
                      refine ret_1 (.inl rfl) (.bool (F_impl_AddrOk x_n.A)) rfl rfl ?_
                      refine ⟨m75.keep0, ?_⟩
                      have hF76 : F_impl_NoteOk x_n = (F_impl_AddrOk x_n.A) := by simp only [F_impl_NoteOk, h29, h34, h39, h44, h49, h54, h59, h64, h67, h71, cond_true, cond_false]
                      rw [hF76]
                      exact rfl
                    · skip
                      refine wl_skip rfl rfl rfl (congrArg Value.bool h71) rfl rfl rfl ?_
                      refine wl_skip rfl rfl rfl (congrArg Value.bool h71) rfl rfl rfl ?_
                      refine wl_skip rfl rfl rfl (congrArg Value.bool h71) rfl rfl rfl ?_
                      refine wl_pick_f (.bool false) (want_none rfl) rfl rfl rfl (congrArg Value.bool h71) rfl ?_
                      refine wl_mv (.bool false) (want_none rfl) rfl rfl (.inr rfl) rfl ?_
                      refine wl_nil ?_
                      refine wq_then ?_
                      refine wc_ret ?_
                      refine ret_1 (.inl rfl) (.bool false) rfl rfl ?_
                      refine ⟨m70.keep0, ?_⟩
                      have hF78 : F_impl_NoteOk x_n = false := by simp only [F_impl_NoteOk, h29, h34, h39, h44, h49, h54, h59, h64, h67, h71, cond_true, cond_false]
                      rw [hF78]
                      exact rfl
                  · have q79 := of_decide_eq_false h67
                    refine wl_skip rfl rfl rfl (congrArg Value.bool h67) rfl rfl rfl ?_
                    refine wl_skip rfl rfl rfl (congrArg Value.bool h67) rfl rfl rfl ?_
                    refine wl_skip rfl rfl rfl (congrArg Value.bool h67) rfl rfl rfl ?_
                    refine wl_pick_f (.bool false) (want_none rfl) rfl rfl rfl (congrArg Value.bool h67) rfl ?_
                    refine wl_mv (.bool false) (want_none rfl) rfl rfl (.inl rfl) rfl ?_
                    refine wl_skip rfl rfl rfl rfl rfl rfl rfl ?_
                    refine wl_skip rfl rfl rfl rfl rfl rfl rfl ?_
                    refine wl_skip rfl rfl rfl rfl rfl rfl rfl ?_
                    refine wl_pick_f (.bool false) (want_none rfl) rfl rfl rfl rfl rfl ?_
                    refine wl_mv (.bool false) (want_none rfl) rfl rfl (.inr rfl) rfl ?_
                    refine wl_nil ?_
                    refine wq_then ?_
                    refine wc_ret ?_
                    refine ret_1 (.inl rfl) (.bool false) rfl rfl ?_
                    refine ⟨m63.keep0, ?_⟩
                    have hF80 : F_impl_NoteOk x_n = false := by simp only [F_impl_NoteOk, h29, h34, h39, h44, h49, h54, h59, h64, h67, cond_true, cond_false]
                    rw [hF80]
                    exact rfl
                · skip
                  refine wl_skip rfl rfl rfl (congrArg Value.bool h64) rfl rfl rfl ?_
                  refine wl_skip rfl rfl rfl (congrArg Value.bool h64) rfl rfl rfl ?_
                  refine wl_skip rfl rfl rfl (congrArg Value.bool h64) rfl rfl rfl ?_
                  refine wl_skip rfl rfl rfl (congrArg Value.bool h64) rfl rfl rfl ?_
                  refine wl_pick_f (.bool false) (want_none rfl) rfl rfl rfl (congrArg Value.bool h64) rfl ?_
                  refine wl_mv (.bool false) (want_none rfl) rfl rfl (.inl rfl) rfl ?_
                  refine wl_skip rfl rfl rfl rfl rfl rfl rfl ?_
                  refine wl_skip rfl rfl rfl rfl rfl rfl rfl ?_
                  refine wl_skip rfl rfl rfl rfl rfl rfl rfl ?_
                  refine wl_pick_f (.bool false) (want_none rfl) rfl rfl rfl rfl rfl ?_
                  refine wl_mv (.bool false) (want_none rfl) rfl rfl (.inl rfl) rfl ?_
                  refine wl_skip rfl rfl rfl rfl rfl rfl rfl ?_
                  refine wl_skip rfl rfl rfl rfl rfl rfl rfl ?_
                  refine wl_skip rfl rfl rfl rfl rfl rfl rfl ?_
                  refine wl_pick_f (.bool false) (want_none rfl) rfl rfl rfl rfl rfl ?_
                  refine wl_mv (.bool false) (want_none rfl) rfl rfl (.inr rfl) rfl ?_
                  refine wl_nil ?_
                  refine wq_then ?_
                  refine wc_ret ?_
                  refine ret_1 (.inl rfl) (.bool false) rfl rfl ?_
                  refine ⟨m63.keep0, ?_⟩
                  have hF82 : F_impl_NoteOk x_n = false := by simp only [F_impl_NoteOk, h29, h34, h39, h44, h49, h54, h59, h64, cond_true, cond_false]
                  rw [hF82]
                  exact rfl
              · skip
                refine wl_skip rfl rfl rfl (congrArg Value.bool h59) rfl rfl rfl ?_
                refine wl_skip rfl rfl rfl (congrArg Value.bool h59) rfl rfl rfl ?_
                refine wl_skip rfl rfl rfl (congrArg Value.bool h59) rfl rfl rfl ?_
                refine wl_pick_f (.bool false) (want_none rfl) rfl rfl rfl (congrArg Value.bool h59) rfl ?_
                refine wl_mv (.bool false) (want_none rfl) rfl rfl (.inl rfl) rfl ?_
                refine wl_skip rfl rfl rfl rfl rfl rfl rfl ?_
                refine wl_skip rfl rfl rfl rfl rfl rfl rfl ?_
                refine wl_skip rfl rfl rfl rfl rfl rfl rfl ?_
                refine wl_skip rfl rfl rfl rfl rfl rfl rfl ?_
                refine wl_pick_f (.bool false) (want_none rfl) rfl rfl rfl rfl rfl ?_
                refine wl_mv (.bool false) (want_none rfl) rfl rfl (.inl rfl) rfl ?_
                refine wl_skip rfl rfl rfl rfl rfl rfl rfl ?_
                refine wl_skip rfl rfl rfl rfl rfl rfl rfl ?_
                refine wl_skip rfl rfl rfl rfl rfl rfl rfl ?_
                refine wl_pick_f (.bool false) (want_none rfl) rfl rfl rfl rfl rfl ?_
                refine wl_mv (.bool false) (want_none rfl) rfl rfl (.inl rfl) rfl ?_
                refine wl_skip rfl rfl rfl rfl rfl rfl rfl ?_
                refine wl_skip rfl rfl rfl rfl rfl rfl rfl ?_
                refine wl_skip rfl rfl rfl rfl rfl rfl rfl ?_
                refine wl_pick_f (.bool false) (want_none rfl) rfl rfl rfl rfl rfl ?_
                refine wl_mv (.bool false) (want_none rfl) rfl rfl (.inr rfl) rfl ?_
                refine wl_nil ?_
                refine wq_then ?_
                refine wc_ret ?_
                refine ret_1 (.inl rfl) (.bool false) rfl rfl ?_
                refine ⟨m58.keep0, ?_⟩
                have hF84 : F_impl_NoteOk x_n = false := by simp only [F_impl_NoteOk, h29, h34, h39, h44, h49, h54, h59, cond_true, cond_false]
                rw [hF84]
                exact rfl
            · have q85 := impl_within_f h54
              refine wl_skip rfl rfl rfl (congrArg Value.bool h54) rfl rfl rfl ?_
              refine wl_skip rfl rfl rfl (congrArg Value.bool h54) rfl rfl rfl ?_
              refine wl_skip rfl rfl rfl (congrArg Value.bool h54) rfl rfl rfl ?_
              refine wl_pick_f (.bool false) (want_none rfl) rfl rfl rfl (congrArg Value.bool h54) rfl ?_
              refine wl_mv (.bool false) (want_none rfl) rfl rfl (.inl rfl) rfl ?_
              refine wl_skip rfl rfl rfl rfl rfl rfl rfl ?_
              refine wl_skip rfl rfl rfl rfl rfl rfl rfl ?_
              refine wl_skip rfl rfl rfl rfl rfl rfl rfl ?_
              refine wl_pick_f (.bool false) (want_none rfl) rfl rfl rfl rfl rfl ?_
              refine wl_mv (.bool false) (want_none rfl) rfl rfl (.inl rfl) rfl ?_
              refine wl_skip rfl rfl rfl rfl rfl rfl rfl ?_
              refine wl_skip rfl rfl rfl rfl rfl rfl rfl ?_
              refine wl_skip rfl rfl rfl rfl rfl rfl rfl ?_
              refine wl_skip rfl rfl rfl rfl rfl rfl rfl ?_
              refine wl_pick_f (.bool false) (want_none rfl) rfl rfl rfl rfl rfl ?_
              refine wl_mv (.bool false) (want_none rfl) rfl rfl (.inl rfl) rfl ?_
              refine wl_skip rfl rfl rfl rfl rfl rfl rfl ?_
              refine wl_skip rfl rfl rfl rfl rfl rfl rfl ?_
              refine wl_skip rfl rfl rfl rfl rfl rfl rfl ?_
              refine wl_pick_f (.bool false) (want_none rfl) rfl rfl rfl rfl rfl ?_
              refine wl_mv (.bool false) (want_none rfl) rfl rfl (.inl rfl) rfl ?_
              refine wl_skip rfl rfl rfl rfl rfl rfl rfl ?_
              refine wl_skip rfl rfl rfl rfl rfl rfl rfl ?_
              refine wl_skip rfl rfl rfl rfl rfl rfl rfl ?_
              refine wl_pick_f (.bool false) (want_none rfl) rfl rfl rfl rfl rfl ?_
              refine wl_mv (.bool false) (want_none rfl) rfl rfl (.inr rfl) rfl ?_
              refine wl_nil ?_
              refine wq_then ?_
              refine wc_ret ?_
              refine ret_1 (.inl rfl) (.bool false) rfl rfl ?_
              refine ⟨m53.keep0, ?_⟩
              have hF86 : F_impl_NoteOk x_n = false := by simp only [F_impl_NoteOk, h29, h34, h39, h44, h49, h54, cond_true, cond_false]
              rw [hF86]
              exact rfl
          · have q87 := impl_within_f h49
            refine wl_skip rfl rfl rfl (congrArg Value.bool h49) rfl rfl rfl ?_
            refine wl_skip rfl rfl rfl (congrArg Value.bool h49) rfl rfl rfl ?_
            refine wl_skip rfl rfl rfl (congrArg Value.bool h49) rfl rfl rfl ?_
            refine wl_pick_f (.bool false) (want_none rfl) rfl rfl rfl (congrArg Value.bool h49) rfl ?_
            refine wl_mv (.bool false) (want_none rfl) rfl rfl (.inl rfl) rfl ?_
            refine wl_skip rfl rfl rfl rfl rfl rfl rfl ?_
            refine wl_skip rfl rfl rfl rfl rfl rfl rfl ?_
            refine wl_skip rfl rfl rfl rfl rfl rfl rfl ?_
            refine wl_pick_f (.bool false) (want_none rfl) rfl rfl rfl rfl rfl ?_
            refine wl_mv (.bool false) (want_none rfl) rfl rfl (.inl rfl) rfl ?_
            refine wl_skip rfl rfl rfl rfl rfl rfl rfl ?_
            refine wl_skip rfl rfl rfl rfl rfl rfl rfl ?_
            refine wl_skip rfl rfl rfl rfl rfl rfl rfl ?_
            refine wl_pick_f (.bool false) (want_none rfl) rfl rfl rfl rfl rfl ?_
            refine wl_mv (.bool false) (want_none rfl) rfl rfl (.inl rfl) rfl ?_
            refine wl_skip rfl rfl rfl rfl rfl rfl rfl ?_
            refine wl_skip rfl rfl rfl rfl rfl rfl rfl ?_
            refine wl_skip rfl rfl rfl rfl rfl rfl rfl ?_
            refine wl_skip rfl rfl rfl rfl rfl rfl rfl ?_
            refine wl_pick_f (.bool false) (want_none rfl) rfl rfl rfl rfl rfl ?_
            refine wl_mv (.bool false) (want_none rfl) rfl rfl (.inl rfl) rfl ?_
            refine wl_skip rfl rfl rfl rfl rfl rfl rfl ?_
            refine wl_skip rfl rfl rfl rfl rfl rfl rfl ?_
            refine wl_skip rfl rfl rfl rfl rfl rfl rfl ?_
            refine wl_pick_f (.bool false) (want_none rfl) rfl rfl rfl rfl rfl ?_
            refine wl_mv (.bool false) (want_none rfl) rfl rfl (.inl rfl) rfl ?_
            refine wl_skip rfl rfl rfl rfl rfl rfl rfl ?_
            refine wl_skip rfl rfl rfl rfl rfl rfl rfl ?_
            refine wl_skip rfl rfl rfl rfl rfl rfl rfl ?_
            refine wl_pick_f (.bool false) (want_none rfl) rfl rfl rfl rfl rfl ?_
            refine wl_mv (.bool false) (want_none rfl) rfl rfl (.inr rfl) rfl ?_
            refine wl_nil ?_
            refine wq_then ?_
            refine wc_ret ?_
            refine ret_1 (.inl rfl) (.bool false) rfl rfl ?_
            refine ⟨m48.keep0, ?_⟩
            have hF88 : F_impl_NoteOk x_n = false := by simp only [F_impl_NoteOk, h29, h34, h39, h44, h49, cond_true, cond_false]
            rw [hF88]
            exact rfl
        · have q89 := impl_within_f h44
          refine wl_skip rfl rfl rfl (congrArg Value.bool h44) rfl rfl rfl ?_
          refine wl_skip rfl rfl rfl (congrArg Value.bool h44) rfl rfl rfl ?_
          refine wl_skip rfl rfl rfl (congrArg Value.bool h44) rfl rfl rfl ?_
          refine wl_pick_f (.bool false) (want_none rfl) rfl rfl rfl (congrArg Value.bool h44) rfl ?_
          refine wl_mv (.bool false) (want_none rfl) rfl rfl (.inl rfl) rfl ?_
          refine wl_skip rfl rfl rfl rfl rfl rfl rfl ?_
          refine wl_skip rfl rfl rfl rfl rfl rfl rfl ?_
          refine wl_skip rfl rfl rfl rfl rfl rfl rfl ?_
          refine wl_pick_f (.bool false) (want_none rfl) rfl rfl rfl rfl rfl ?_
          refine wl_mv (.bool false) (want_none rfl) rfl rfl (.inl rfl) rfl ?_
          refine wl_skip rfl rfl rfl rfl rfl rfl rfl ?_
          refine wl_skip rfl rfl rfl rfl rfl rfl rfl ?_
          refine wl_skip rfl rfl rfl rfl rfl rfl rfl ?_
          refine wl_pick_f (.bool false) (want_none rfl) rfl rfl rfl rfl rfl ?_
          refine wl_mv (.bool false) (want_none rfl) rfl rfl (.inl rfl) rfl ?_
          refine wl_skip rfl rfl rfl rfl rfl rfl rfl ?_
          refine wl_skip rfl rfl rfl rfl rfl rfl rfl ?_
          refine wl_skip rfl rfl rfl rfl rfl rfl rfl ?_
          refine wl_pick_f (.bool false) (want_none rfl) rfl rfl rfl rfl rfl ?_
          refine wl_mv (.bool false) (want_none rfl) rfl rfl (.inl rfl) rfl ?_
          refine wl_skip rfl rfl rfl rfl rfl rfl rfl ?_
          refine wl_skip rfl rfl rfl rfl rfl rfl rfl ?_
          refine wl_skip rfl rfl rfl rfl rfl rfl rfl ?_
          refine wl_skip rfl rfl rfl rfl rfl rfl rfl ?_
          refine wl_pick_f (.bool false) (want_none rfl) rfl rfl rfl rfl rfl ?_
          refine wl_mv (.bool false) (want_none rfl) rfl rfl (.inl rfl) rfl ?_
          refine wl_skip rfl rfl rfl rfl rfl rfl rfl ?_
          refine wl_skip rfl rfl rfl rfl rfl rfl rfl ?_
          refine wl_skip rfl rfl rfl rfl rfl rfl rfl ?_
          refine wl_pick_f (.bool false) (want_none rfl) rfl rfl rfl rfl rfl ?_
          refine wl_mv (.bool false) (want_none rfl) rfl rfl (.inl rfl) rfl ?_
          refine wl_skip rfl rfl rfl rfl rfl rfl rfl ?_
          refine wl_skip rfl rfl rfl rfl rfl rfl rfl ?_
          refine wl_skip rfl rfl rfl rfl rfl rfl rfl ?_
          refine wl_pick_f (.bool false) (want_none rfl) rfl rfl rfl rfl rfl ?_
          refine wl_mv (.bool false) (want_none rfl) rfl rfl (.inr rfl) rfl ?_
          refine wl_nil ?_
          refine wq_then ?_
          refine wc_ret ?_
          refine ret_1 (.inl rfl) (.bool false) rfl rfl ?_
          refine ⟨m43.keep0, ?_⟩
          have hF90 : F_impl_NoteOk x_n = false := by simp only [F_impl_NoteOk, h29, h34, h39, h44, cond_true, cond_false]
          rw [hF90]
          exact rfl
      · have q91 := impl_within_f h39
        refine wl_skip rfl rfl rfl (congrArg Value.bool h39) rfl rfl rfl ?_
        refine wl_skip rfl rfl rfl (congrArg Value.bool h39) rfl rfl rfl ?_
        refine wl_skip rfl rfl rfl (congrArg Value.bool h39) rfl rfl rfl ?_
        refine wl_pick_f (.bool false) (want_none rfl) rfl rfl rfl (congrArg Value.bool h39) rfl ?_
        refine wl_mv (.bool false) (want_none rfl) rfl rfl (.inl rfl) rfl ?_
        refine wl_skip rfl rfl rfl rfl rfl rfl rfl ?_
        refine wl_skip rfl rfl rfl rfl rfl rfl rfl ?_
        refine wl_skip rfl rfl rfl rfl rfl rfl rfl ?_
        refine wl_pick_f (.bool false) (want_none rfl) rfl rfl rfl rfl rfl ?_
        refine wl_mv (.bool false) (want_none rfl) rfl rfl (.inl rfl) rfl ?_
        refine wl_skip rfl rfl rfl rfl rfl rfl rfl ?_
        refine wl_skip rfl rfl rfl rfl rfl rfl rfl ?_
        refine wl_skip rfl rfl rfl rfl rfl rfl rfl ?_
        refine wl_pick_f (.bool false) (want_none rfl) rfl rfl rfl rfl rfl ?_
        refine wl_mv (.bool false) (want_none rfl) rfl rfl (.inl rfl) rfl ?_
        refine wl_skip rfl rfl rfl rfl rfl rfl rfl ?_
        refine wl_skip rfl rfl rfl rfl rfl rfl rfl ?_
        refine wl_skip rfl rfl rfl rfl rfl rfl rfl ?_
        refine wl_pick_f (.bool false) (want_none rfl) rfl rfl rfl rfl rfl ?_
        refine wl_mv (.bool false) (want_none rfl) rfl rfl (.inl rfl) rfl ?_
        refine wl_skip rfl rfl rfl rfl rfl rfl rfl ?_
        refine wl_skip rfl rfl rfl rfl rfl rfl rfl ?_
        refine wl_skip rfl rfl rfl rfl rfl rfl rfl ?_
        refine wl_pick_f (.bool false) (want_none rfl) rfl rfl rfl rfl rfl ?_
        refine wl_mv (.bool false) (want_none rfl) rfl rfl (.inl rfl) rfl ?_
        refine wl_skip rfl rfl rfl rfl rfl rfl rfl ?_
        refine wl_skip rfl rfl rfl rfl rfl rfl rfl ?_
        refine wl_skip rfl rfl rfl rfl rfl rfl rfl ?_
        refine wl_skip rfl rfl rfl rfl rfl rfl rfl ?_
        refine wl_pick_f (.bool false) (want_none rfl) rfl rfl rfl rfl rfl ?_
        refine wl_mv (.bool false) (want_none rfl) rfl rfl (.inl rfl) rfl ?_
        refine wl_skip rfl rfl rfl rfl rfl rfl rfl ?_
        refine wl_skip rfl rfl rfl rfl rfl rfl rfl ?_
        refine wl_skip rfl rfl rfl rfl rfl rfl rfl ?_
        refine wl_pick_f (.bool false) (want_none rfl) rfl rfl rfl rfl rfl ?_
        refine wl_mv (.bool false) (want_none rfl) rfl rfl (.inl rfl) rfl ?_
        refine wl_skip rfl rfl rfl rfl rfl rfl rfl ?_
        refine wl_skip rfl rfl rfl rfl rfl rfl rfl ?_
        refine wl_skip rfl rfl rfl rfl rfl rfl rfl ?_
        refine wl_pick_f (.bool false) (want_none rfl) rfl rfl rfl rfl rfl ?_
        refine wl_mv (.bool false) (want_none rfl) rfl rfl (.inr rfl) rfl ?_
        refine wl_nil ?_
        refine wq_then ?_
        refine wc_ret ?_
        refine ret_1 (.inl rfl) (.bool false) rfl rfl ?_
        refine ⟨m38.keep0, ?_⟩
        have hF92 : F_impl_NoteOk x_n = false := by simp only [F_impl_NoteOk, h29, h34, h39, cond_true, cond_false]
        rw [hF92]
        exact rfl
    · have q93 := impl_within_f h34
      refine wl_skip rfl rfl rfl (congrArg Value.bool h34) rfl rfl rfl ?_
      refine wl_skip rfl rfl rfl (congrArg Value.bool h34) rfl rfl rfl ?_
      refine wl_skip rfl rfl rfl (congrArg Value.bool h34) rfl rfl rfl ?_
      refine wl_pick_f (.bool false) (want_none rfl) rfl rfl rfl (congrArg Value.bool h34) rfl ?_
      refine wl_mv (.bool false) (want_none rfl) rfl rfl (.inl rfl) rfl ?_
      refine wl_skip rfl rfl rfl rfl rfl rfl rfl ?_
      refine wl_skip rfl rfl rfl rfl rfl rfl rfl ?_
      refine wl_skip rfl rfl rfl rfl rfl rfl rfl ?_
      refine wl_pick_f (.bool false) (want_none rfl) rfl rfl rfl rfl rfl ?_
      refine wl_mv (.bool false) (want_none rfl) rfl rfl (.inl rfl) rfl ?_
      refine wl_skip rfl rfl rfl rfl rfl rfl rfl ?_
      refine wl_skip rfl rfl rfl rfl rfl rfl rfl ?_
      refine wl_skip rfl rfl rfl rfl rfl rfl rfl ?_
      refine wl_pick_f (.bool false) (want_none rfl) rfl rfl rfl rfl rfl ?_
      refine wl_mv (.bool false) (want_none rfl) rfl rfl (.inl rfl) rfl ?_
      refine wl_skip rfl rfl rfl rfl rfl rfl rfl ?_
      refine wl_skip rfl rfl rfl rfl rfl rfl rfl ?_
      refine wl_skip rfl rfl rfl rfl rfl rfl rfl ?_
      refine wl_pick_f (.bool false) (want_none rfl) rfl rfl rfl rfl rfl ?_
      refine wl_mv (.bool false) (want_none rfl) rfl rfl (.inl rfl) rfl ?_
      refine wl_skip rfl rfl rfl rfl rfl rfl rfl ?_
      refine wl_skip rfl rfl rfl rfl rfl rfl rfl ?_
      refine wl_skip rfl rfl rfl rfl rfl rfl rfl ?_
      refine wl_pick_f (.bool false) (want_none rfl) rfl rfl rfl rfl rfl ?_
      refine wl_mv (.bool false) (want_none rfl) rfl rfl (.inl rfl) rfl ?_
      refine wl_skip rfl rfl rfl rfl rfl rfl rfl ?_
      refine wl_skip rfl rfl rfl rfl rfl rfl rfl ?_
      refine wl_skip rfl rfl rfl rfl rfl rfl rfl ?_
      refine wl_pick_f (.bool false) (want_none rfl) rfl rfl rfl rfl rfl ?_
      refine wl_mv (.bool false) (want_none rfl) rfl rfl (.inl rfl) rfl ?_
      refine wl_skip rfl rfl rfl rfl rfl rfl rfl ?_
      refine wl_skip rfl rfl rfl rfl rfl rfl rfl ?_
      refine wl_skip rfl rfl rfl rfl rfl rfl rfl ?_
      refine wl_skip rfl rfl rfl rfl rfl rfl rfl ?_
      refine wl_pick_f (.bool false) (want_none rfl) rfl rfl rfl rfl rfl ?_
      refine wl_mv (.bool false) (want_none rfl) rfl rfl (.inl rfl) rfl ?_
      refine wl_skip rfl rfl rfl rfl rfl rfl rfl ?_
      refine wl_skip rfl rfl rfl rfl rfl rfl rfl ?_
      refine wl_skip rfl rfl rfl rfl rfl rfl rfl ?_
      refine wl_pick_f (.bool false) (want_none rfl) rfl rfl rfl rfl rfl ?_
      refine wl_mv (.bool false) (want_none rfl) rfl rfl (.inl rfl) rfl ?_
      refine wl_skip rfl rfl rfl rfl rfl rfl rfl ?_
      refine wl_skip rfl rfl rfl rfl rfl rfl rfl ?_
      refine wl_skip rfl rfl rfl rfl rfl rfl rfl ?_
      refine wl_pick_f (.bool false) (want_none rfl) rfl rfl rfl rfl rfl ?_
      refine wl_mv (.bool false) (want_none rfl) rfl rfl (.inr rfl) rfl ?_
      refine wl_nil ?_
      refine wq_then ?_
      refine wc_ret ?_
      refine ret_1 (.inl rfl) (.bool false) rfl rfl ?_
      refine ⟨m33.keep0, ?_⟩
      have hF94 : F_impl_NoteOk x_n = false := by simp only [F_impl_NoteOk, h29, h34, cond_true, cond_false]
      rw [hF94]
      exact rfl
  · have q95 := impl_within_f h29
    refine wl_skip rfl rfl rfl (congrArg Value.bool h29) rfl rfl rfl ?_
    refine wl_skip rfl rfl rfl (congrArg Value.bool h29) rfl rfl rfl ?_
    refine wl_skip rfl rfl rfl (congrArg Value.bool h29) rfl rfl rfl ?_
    refine wl_pick_f (.bool false) (want_none rfl) rfl rfl rfl (congrArg Value.bool h29) rfl ?_
    refine wl_mv (.bool false) (want_none rfl) rfl rfl (.inl rfl) rfl ?_
    refine wl_skip rfl rfl rfl rfl rfl rfl rfl ?_
    refine wl_skip rfl rfl rfl rfl rfl rfl rfl ?_
    refine wl_skip rfl rfl rfl rfl rfl rfl rfl ?_
    refine wl_pick_f (.bool false) (want_none rfl) rfl rfl rfl rfl rfl ?_
    refine wl_mv (.bool false) (want_none rfl) rfl rfl (.inl rfl) rfl ?_
    refine wl_skip rfl rfl rfl rfl rfl rfl rfl ?_
    refine wl_skip rfl rfl rfl rfl rfl rfl rfl ?_
    refine wl_skip rfl rfl rfl rfl rfl rfl rfl ?_
    refine wl_pick_f (.bool false) (want_none rfl) rfl rfl rfl rfl rfl ?_
    refine wl_mv (.bool false) (want_none rfl) rfl rfl (.inl rfl) rfl ?_
    refine wl_skip rfl rfl rfl rfl rfl rfl rfl ?_
    refine wl_skip rfl rfl rfl rfl rfl rfl rfl ?_
    refine wl_skip rfl rfl rfl rfl rfl rfl rfl ?_
    refine wl_pick_f (.bool false) (want_none rfl) rfl rfl rfl rfl rfl ?_
    refine wl_mv (.bool false) (want_none rfl) rfl rfl (.inl rfl) rfl ?_
    refine wl_skip rfl rfl rfl rfl rfl rfl rfl ?_
    refine wl_skip rfl rfl rfl rfl rfl rfl rfl ?_
    refine wl_skip rfl rfl rfl rfl rfl rfl rfl ?_
    refine wl_pick_f (.bool false) (want_none rfl) rfl rfl rfl rfl rfl ?_
    refine wl_mv (.bool false) (want_none rfl) rfl rfl (.inl rfl) rfl ?_
    refine wl_skip rfl rfl rfl rfl rfl rfl rfl ?_
    refine wl_skip rfl rfl rfl rfl rfl rfl rfl ?_
    refine wl_skip rfl rfl rfl rfl rfl rfl rfl ?_
    refine wl_pick_f (.bool false) (want_none rfl) rfl rfl rfl rfl rfl ?_
    refine wl_mv (.bool false) (want_none rfl) rfl rfl (.inl rfl) rfl ?_
    refine wl_skip rfl rfl rfl rfl rfl rfl rfl ?_
    refine wl_skip rfl rfl rfl rfl rfl rfl rfl ?_
    refine wl_skip rfl rfl rfl rfl rfl rfl rfl ?_
    refine wl_pick_f (.bool false) (want_none rfl) rfl rfl rfl rfl rfl ?_
    refine wl_mv (.bool false) (want_none rfl) rfl rfl (.inl rfl) rfl ?_
    refine wl_skip rfl rfl rfl rfl rfl rfl rfl ?_
    refine wl_skip rfl rfl rfl rfl rfl rfl rfl ?_
    refine wl_skip rfl rfl rfl rfl rfl rfl rfl ?_
    refine wl_skip rfl rfl rfl rfl rfl rfl rfl ?_
    refine wl_pick_f (.bool false) (want_none rfl) rfl rfl rfl rfl rfl ?_
    refine wl_mv (.bool false) (want_none rfl) rfl rfl (.inl rfl) rfl ?_
    refine wl_skip rfl rfl rfl rfl rfl rfl rfl ?_
    refine wl_skip rfl rfl rfl rfl rfl rfl rfl ?_
    refine wl_skip rfl rfl rfl rfl rfl rfl rfl ?_
    refine wl_pick_f (.bool false) (want_none rfl) rfl rfl rfl rfl rfl ?_
    refine wl_mv (.bool false) (want_none rfl) rfl rfl (.inl rfl) rfl ?_
    refine wl_skip rfl rfl rfl rfl rfl rfl rfl ?_
    refine wl_skip rfl rfl rfl rfl rfl rfl rfl ?_
    refine wl_skip rfl rfl rfl rfl rfl rfl rfl ?_
    refine wl_pick_f (.bool false) (want_none rfl) rfl rfl rfl rfl rfl ?_
    refine wl_mv (.bool false) (want_none rfl) rfl rfl (.inr rfl) rfl ?_
    refine wl_nil ?_
    refine wq_then ?_
    refine wc_ret ?_
    refine ret_1 (.inl rfl) (.bool false) rfl rfl ?_
    refine ⟨m28.keep0, ?_⟩
    have hF96 : F_impl_NoteOk x_n = false := by simp only [F_impl_NoteOk, h29, cond_true, cond_false]
    rw [hF96]
    exact rfl
end Go.Proofs.Ytodlalolknldmaa.K
